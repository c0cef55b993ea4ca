/- Contracts of the library's IndexFunc and ContainsFunc over nodes of a tree, handed the literal of TreeOk that has captured a node. -/
import Derived.Test.YtbbppknnkghkjaaFns
namespace Go.Proofs.Ytbbppknnkghkjaa.Fns
open Go.RowKit Go.Proofs.YtbbppknnkghkjaaW.PrintWords
set_option linter.unusedVariables false
set_option linter.unusedSimpArgs false

/-- A row of nodes that is read, as triples. -/
def Nodes (w : World) (A : Option Addr) (l : List (Int × Int × Int)) : Prop :=
  l.length ≤ 9223372036854775807 ∧ (0 < l.length → ∃ ad, A = some ad ∧ ∀ j (hj : j < l.length), w.cell? (ad.add (j * 3)) = some (.int .i64 l[j].1) ∧
    w.cell? ⟨(ad.add (j * 3)).block, (ad.add (j * 3)).off + 1, none⟩ = some (.int .i64 l[j].2.1) ∧ w.cell? ⟨(ad.add (j * 3)).block, (ad.add (j * 3)).off + 2, none⟩ = some (.int .i64 l[j].2.2))
theorem Nodes.below {w W : World} {A : Option Addr} {l : List (Int × Int × Int)} (h : Nodes w A l) (hb : Below w.heap.size w W) : Nodes W A l :=
  ⟨h.1, fun hn => by
    obtain ⟨ad, e, hc⟩ := h.2 hn
    exact ⟨ad, e, fun j hj => ⟨pw_cell_below hb (hc j hj).1, pw_cell_below hb (hc j hj).2.1, pw_cell_below hb (hc j hj).2.2⟩⟩⟩

set_option maxHeartbeats 1000000 in
theorem tree_lit (gb : Nat) (np nd nf p d f : Int) (w : World) (hb : w.heap[gb]? = some (.cells #[.int .i64 np, .int .i64 nd, .int .i64 nf] 50 (0, 0))) :
    Calls Try.prog 96 #[.agg #[.int .i64 p, .int .i64 d, .int .i64 f], .pointer (some ⟨gb, 0, none⟩)] w fun e w' => e = .returned (.bool (decide (p = np) && decide (d = nd))) ∧ Below w.heap.size w w' := by
  have hlt : gb < w.heap.size := (Array.getElem?_eq_some_iff.1 hb).1
  have h0 : ∀ o, (w.alloc o).cell? ⟨gb, 0, none⟩ = some (.int .i64 np) := fun o => pw_cell_below (below_alloc (Below.refl _ _) o) ((blk_cell hb 0).trans rfl)
  have h1 : ∀ o, (w.alloc o).cell? ⟨gb, 1, none⟩ = some (.int .i64 nd) := fun o => pw_cell_below (below_alloc (Below.refl _ _) o) ((blk_cell hb 1).trans rfl)
  clear hb
  by_cases e0 : p = np
  · have b0 : (p == np) = true := beq_iff_eq.mpr e0
    by_cases e1 : d = nd
    · have b1 : (d == nd) = true := beq_iff_eq.mpr e1
      have R : Aside0 ((decide (p = np) && decide (d = nd)) = true) := ⟨by simp [e0, e1]⟩
      clear e0 e1
      go_enter Try.func96, Try.ntmps96
      go_wp2
      go_ret
      refine ⟨?_, below_alloc (Below.refl _ _) _⟩
      rw [R.out]
      rfl
    · have b1 : (d == nd) = false := beq_eq_false_iff_ne.mpr e1
      have R : Aside0 ((decide (p = np) && decide (d = nd)) = false) := ⟨by simp [e1]⟩
      clear e0 e1
      go_enter Try.func96, Try.ntmps96
      go_wp2
      go_ret
      refine ⟨?_, below_alloc (Below.refl _ _) _⟩
      rw [R.out]
      rfl
  · have b0 : (p == np) = false := beq_eq_false_iff_ne.mpr e0
    have R : Aside0 ((decide (p = np) && decide (d = nd)) = false) := ⟨by simp [e0]⟩
    clear e0
    go_enter Try.func96, Try.ntmps96
    go_wp2
    go_ret
    refine ⟨?_, below_alloc (Below.refl _ _) _⟩
    rw [R.out]
    rfl

def sameB (np nd : Int) (x : Int × Int × Int) : Bool := decide (x.1 = np) && decide (x.2.1 = nd)

set_option maxHeartbeats 2000000 in
theorem index_node (gb : Nat) (np nd nf : Int) (A : Option Addr) (c : Nat) (l : List (Int × Int × Int)) (w : World) (hr : Nodes w A l) (hc : l.length ≤ c)
    (hb : w.heap[gb]? = some (.cells #[.int .i64 np, .int .i64 nd, .int .i64 nf] 50 (0, 0))) :
    Calls Try.prog 128 #[.slice A l.length c, .func (.func 96) #[] #[.pointer (some ⟨gb, 0, none⟩)]] w
      fun e w' => e = .returned (.int .i64 (idxFrom (sameB np nd) 0 l)) ∧ Below w.heap.size w w' := by
  have hlen : l.length ≤ 9223372036854775807 := hr.1
  have hlt0 : gb < w.heap.size := (Array.getElem?_eq_some_iff.1 hb).1
  have HR := Aside0.mk hr
  have HB := Aside0.mk hb
  clear hr hb
  go_enter Try.func128, Try.ntmps128
  go_wp2
  go_loopg [5, 8] l.length (fun gg _ s8 wr => ∃ kk : Nat, kk ≤ l.length ∧ l.length - kk ≤ gg ∧ s8 = .int .i64 kk ∧ Aside0 (Below w.heap.size w wr) ∧ Aside0 (∀ j (hj : j < kk) (hl : j < l.length), sameB np nd l[j] = false))
  case atStart => exact ⟨0, Nat.zero_le _, by omega, rfl, ⟨Below.refl _ _⟩, ⟨fun j hj => absurd hj (Nat.not_lt_zero _)⟩⟩
  case round =>
    obtain ⟨kk, hkk, hg, rfl, BW, B⟩ := hrel
    by_cases hlt : kk < l.length
    · have hltz : (kk : Int) < (l.length : Int) := by omega
      obtain ⟨ad, rfl, hcells⟩ := (HR.out.below BW.out).2 (by omega)
      obtain ⟨hx0, hx1, hx2⟩ := hcells kk hlt
      clear hcells
      have hcall := tree_lit gb np nd nf l[kk].1 l[kk].2.1 l[kk].2.2 wr ((BW.out.block gb hlt0).trans HB.out)
      have HX : Aside0 ((decide (l[kk].1 = np) && decide (l[kk].2.1 = nd)) = sameB np nd l[kk]) := ⟨rfl⟩
      generalize l[kk].1 = y0 at hx0 hcall HX
      generalize l[kk].2.1 = y1 at hx1 hcall HX
      generalize l[kk].2.2 = y2 at hx2 hcall
      cases hq : (decide (y0 = np) && decide (y1 = nd)) with
      | true =>
        rw [hq] at hcall HX
        go_wp2_with (go_at_call 96; refine hcall.mono ?_; rintro e w' ⟨rfl, hb'⟩)
        go_ret
        refine ⟨?_, below_step BW.out hb'⟩
        rw [idxFrom_hit (sameB np nd) l 0 kk hlt (fun j hj => B.out j hj (by omega)) HX.out.symm]
        simp
      | false =>
        rw [hq] at hcall HX
        go_wp2_with (go_at_call 96; refine hcall.mono ?_; rintro e w' ⟨rfl, hb'⟩)
        go_roundg (l.length - (kk + 1))
        case measure => omega
        case rel =>
          refine ⟨kk + 1, by omega, by omega, by go_num, ⟨below_step BW.out hb'⟩, ⟨fun j hj hl => ?_⟩⟩
          by_cases e : j = kk
          · subst e
            exact HX.out.symm
          · exact B.out j (by omega) hl
    · obtain rfl : kk = l.length := by omega
      clear hlt
      go_wp2
      go_ret
      refine ⟨?_, BW.out⟩
      rw [idxFrom_miss (sameB np nd) l 0 (fun x hx => by
        obtain ⟨i, hi, rfl⟩ := List.mem_iff_getElem.1 hx
        exact B.out i (by omega) hi)]
      rfl

set_option maxHeartbeats 1000000 in
theorem contains_node (gb : Nat) (np nd nf : Int) (A : Option Addr) (c : Nat) (l : List (Int × Int × Int)) (w : World) (hr : Nodes w A l) (hc : l.length ≤ c)
    (hb : w.heap[gb]? = some (.cells #[.int .i64 np, .int .i64 nd, .int .i64 nf] 50 (0, 0))) :
    Calls Try.prog 95 #[.slice A l.length c, .func (.func 96) #[] #[.pointer (some ⟨gb, 0, none⟩)]] w
      fun e w' => e = .returned (.bool (l.any (sameB np nd))) ∧ Below w.heap.size w w' := by
  have HI := Aside0.mk (index_node gb np nd nf A c l w hr hc hb)
  rw [← idxFrom_any (sameB np nd) l 0 (by omega)]
  clear hr hb
  go_enter Try.func95, Try.ntmps95
  go_wp2_with (go_at_call 128; refine HI.out.mono ?_; rintro e w' ⟨rfl, hb'⟩)
  go_ret
  exact ⟨rfl, hb'⟩
end Go.Proofs.Ytbbppknnkghkjaa.Fns
