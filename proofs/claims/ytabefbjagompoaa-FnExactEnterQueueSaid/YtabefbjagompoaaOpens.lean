/- Readings of arguments as plain data, kind by kind: what a parameter's reading says of its cells. -/
import Derived.Test.YtabefbjagompoaaWMore
import Derived.Deep.Slices
import Derived.Lib.SmallJoins
namespace Go.Proofs.Ytabefbjagompoaa.Opens
open Go.RowKit Go.Deep Go.ChangeShapes Go.WideShapes Go.Proofs.YtabefbjagompoaaW.PrintWords
set_option linter.unusedVariables false

/-- Whatever a value of type t reads as, its cells hold some x of the kind d, and V x. -/
structure Opens {α : Type} (P : Program) (t : TypeId) (d : Kd α) (V : α → Prop) : Prop where
  sz : P.cellsOf t = d.sz
  op : ∀ {H : Type} {enc : TypeId × Value → H} {w : World} {base : Nat} {spare : Nat → Bool} {held : Bool} {fuel : Nat} {cs : List Value} {x : DataW H × List MemPlace},
    DataW.trod enc P w base spare held fuel t cs = some x → ∃ a : α, d.K w a cs ∧ V a

variable {P : Program}

theorem Opens.int {t : TypeId} {k : IntKind} (ht : P.underlying t = some (.int k)) (hc : P.cellsOf t = 1) : Opens P t (Kd.int k) (fun n => (Lit.int k n).wf = true) :=
  ⟨hc, fun h => by
    obtain ⟨n, rfl, _, hw⟩ := DataW.trod_int ht h
    exact ⟨n, rfl, hw⟩⟩

theorem Opens.bool {t : TypeId} (ht : P.underlying t = some .bool) (hc : P.cellsOf t = 1) : Opens P t Kd.bool (fun _ => True) :=
  ⟨hc, fun h => by
    obtain ⟨n, rfl, _⟩ := DataW.trod_bool ht h
    exact ⟨n, rfl, trivial⟩⟩

theorem list_of {α : Type} {p : Nat → α → Prop} : ∀ (n : Nat), (∀ i, i < n → ∃ x, p i x) → ∃ xs : List α, xs.length = n ∧ ∀ i x, xs[i]? = some x → p i x
  | 0, _ => ⟨[], rfl, fun i x h => by simp at h⟩
  | n + 1, h => by
    obtain ⟨xs, hl, hx⟩ := list_of n (fun i hi => h i (by omega))
    obtain ⟨y, hy⟩ := h n (by omega)
    refine ⟨xs ++ [y], by simp [hl], fun i x hi => ?_⟩
    rcases Nat.lt_or_ge i n with h1 | h1
    · rw [List.getElem?_append_left (by omega)] at hi
      exact hx i x hi
    · have : i = n := by
        rcases Nat.lt_or_ge n i with h2 | h2
        · rw [List.getElem?_eq_none (by simp; omega)] at hi
          cases hi
        · omega
      subst this
      rw [List.getElem?_append_right (by omega)] at hi
      simp [hl] at hi
      subst hi
      exact hy

theorem Opens.slice {α : Type} {t e : TypeId} {d : Kd α} {V : α → Prop} (ht : P.underlying t = some (.slice e)) (hc : P.cellsOf t = 1) (h : Opens P e d V) :
    Opens P t (Kd.slice e d) (fun xs => xs.length ≤ 9223372036854775807 ∧ ∀ x ∈ xs, V x) :=
  ⟨hc, fun {H enc w base spare held fuel cs x} hr => by
    rcases open_slice ht hr with ⟨rfl, _⟩ | ⟨a, len, cap, m, n, D, Pl, rfl, _, hl, hm, hmm, _, hx⟩
    · exact ⟨[], ⟨none, 0, rfl, Nat.le_refl _, rfl, by simp, fun h => absurd h (by simp)⟩, by simp, by simp⟩
    · unfold maxLen at hm
      have hlm : len ≤ m := by rw [hmm]; split <;> omega
      obtain ⟨xs, hxl, hxs⟩ := list_of (α := α) (p := fun i y => V y ∧ ∃ c, c.length = d.sz ∧ d.K w y c ∧ ∀ q u, c[q]? = some u → w.cell? (a.add (i * d.sz + q)) = some u) len (fun i hi => by
        obtain ⟨cs', h1, h2⟩ := hx i (by omega)
        obtain ⟨y, hK, hV⟩ := h.op h2
        refine ⟨y, hV, cs', d.K_len hK, hK, fun q u hq => ?_⟩
        obtain ⟨_, hlen, hcell⟩ := World.cells?_some h1
        have hq' : q < P.cellsOf e := by
          rcases Nat.lt_or_ge q cs'.length with h3 | h3
          · omega
          · rw [List.getElem?_eq_none h3] at hq
            cases hq
        have h3 := hcell q hq'
        rw [← Go.Deep.add_add, ← h.sz, h3, hq])
      refine ⟨xs, ⟨some a, cap, by rw [hxl], by omega, rfl, by omega, fun _ => ⟨a, rfl, fun j p hp => (hxs j p hp).2⟩⟩, by omega, fun y hy => ?_⟩
      obtain ⟨i, hi, rfl⟩ := List.mem_iff_getElem.1 hy
      exact (hxs i _ (List.getElem?_eq_getElem hi)).1⟩

/-- Fields one behind the other, the first at off. -/
structure Fields {α : Type} (P : Program) (off : Nat) (fs : List Field) (d : Kd α) (V : α → Prop) : Prop where
  op : ∀ {H : Type} {enc : TypeId × Value → H} {w : World} {base : Nat} {spare : Nat → Bool} {held : Bool} {n : Nat} {cs : List Value},
    (∀ f ∈ fs, ∃ y, DataW.trod enc P w base spare held n f.type ((cs.drop f.offset).take (P.cellsOf f.type)) = some y) → cs.length = off + d.sz → ∃ a : α, d.K w a (cs.drop off) ∧ V a

theorem Fields.one {α : Type} {off : Nat} {f : Field} {d : Kd α} {V : α → Prop} (h : Opens P f.type d V) (ho : f.offset = off) : Fields P off [f] d V := by
  refine ⟨fun {H enc w base spare held n cs} hf hl => ?_⟩
  obtain ⟨y, hy⟩ := hf f (by simp)
  rw [ho, List.take_of_length_le (by rw [List.length_drop, h.sz]; omega)] at hy
  exact h.op hy

theorem Fields.cons {α β : Type} {off : Nat} {f : Field} {fs : List Field} {d : Kd α} {d' : Kd β} {V : α → Prop} {V' : β → Prop} (h : Opens P f.type d V) (ho : f.offset = off) (h' : Fields P (off + d.sz) fs d' V') :
    Fields P off (f :: fs) (Kd.pair d d') (fun x => V x.1 ∧ V' x.2) := by
  refine ⟨fun {H enc w base spare held n cs} hf hl => ?_⟩
  have hsz : (Kd.pair d d').sz = d.sz + d'.sz := rfl
  obtain ⟨y, hy⟩ := hf f (by simp)
  rw [ho, h.sz] at hy
  obtain ⟨a, hK, hV⟩ := h.op hy
  obtain ⟨b, hK', hV'⟩ := h'.op (fun g hg => hf g (by simp [hg])) (by omega)
  refine ⟨(a, b), ⟨_, _, ?_, hK, hK'⟩, hV, hV'⟩
  rw [← List.drop_drop, List.take_append_drop]

theorem Opens.struct {α β : Type} {t : TypeId} {fs : Array Field} {d : Kd α} {V : α → Prop} (ht : P.underlying t = some (.struct fs)) (h : Fields P 0 fs.toList d V) (hc : P.cellsOf t = d.sz) (f : β → α) (g : α → β) (hfg : ∀ a, f (g a) = a) :
    Opens P t (Kd.iso d f) (fun b => V (f b)) :=
  ⟨hc, fun hr => by
    obtain ⟨xs, n, _, _, hl, hlen, hx⟩ := DataW.trod_struct ht hr
    obtain ⟨a, hK, hV⟩ := h.op (n := n) (fun fl hfl => by
      obtain ⟨i, hi, rfl⟩ := List.mem_iff_getElem.1 hfl
      have hi' : i < fs.size := by simpa using hi
      have := hx i fs[i] (Array.getElem?_eq_getElem hi')
      rw [List.getElem?_eq_getElem (by omega)] at this
      exact ⟨_, this⟩) (by rw [hl, hc]; omega)
    refine ⟨g a, ?_, ?_⟩
    · show d.K _ (f (g a)) _
      rw [hfg]
      simpa using hK
    · show V (f (g a))
      rw [hfg]
      exact hV⟩

theorem Opens.struct' {α : Type} {t : TypeId} {fs : Array Field} {d : Kd α} {V : α → Prop} (ht : P.underlying t = some (.struct fs)) (h : Fields P 0 fs.toList d V) (hc : P.cellsOf t = d.sz) : Opens P t d V :=
  ⟨hc, fun hr => by
    obtain ⟨xs, n, _, _, hl, hlen, hx⟩ := DataW.trod_struct ht hr
    obtain ⟨a, hK, hV⟩ := h.op (n := n) (fun fl hfl => by
      obtain ⟨i, hi, rfl⟩ := List.mem_iff_getElem.1 hfl
      have hi' : i < fs.size := by simpa using hi
      have := hx i fs[i] (Array.getElem?_eq_getElem hi')
      rw [List.getElem?_eq_getElem (by omega)] at this
      exact ⟨_, this⟩) (by rw [hl, hc]; omega)
    exact ⟨a, by simpa using hK, hV⟩⟩
end Go.Proofs.Ytabefbjagompoaa.Opens
