/- The contract of slices.SortFunc over a row of ints of the call's own (12 or fewer), for a literal that may lay blocks of its own: the row sorted, and what else is the caller's kept. -/
import Derived.Test.YtbbppknnkghkjaaFnsIns
import Derived.Test.YtbbppknnkghkjaaFnsSort
namespace Go.Proofs.Ytbbppknnkghkjaa.Fns
open Go.RowKit Go.Sort Go.Shelf Go.Proofs.YtbbppknnkghkjaaW.PrintWords
set_option linter.unusedVariables false
set_option linter.unusedSimpArgs false

set_option maxHeartbeats 2000000 in
theorem sort_lay (p : Int → Prop) (cf : Int → Int → Int) (asym : ∀ x y, cf x y < 0 → ¬ cf y x < 0) (trans : ∀ x y z, ¬ cf y x < 0 → ¬ cf z y < 0 → ¬ cf z x < 0) (g : Nat) (cb : Array Value) (P0 : Nat → Prop) (u : Value) (l : List Int) (w0 w : World) (hB : Below w0.heap.size w0 w)
    (ho : Kd.R (Kd.int .i64) 3 w w0.heap.size P0 u l) (h12 : l.length ≤ 12) (hp : ∀ x ∈ l, p x)
    (eg : ∀ args w, (callFunc g args).run Try.prog w = .ok (.enter g args) w)
    (hcmp : ∀ W, Kept w W P0 → ∀ x y, p x → p y → Calls Try.prog g (#[.int .i64 x, .int .i64 y] ++ cb) W fun e w' => e = .returned (.int .i64 (cf x y)) ∧ Below W.heap.size W w') :
    Calls Try.prog 91 #[u, .func (.func g) #[] cb] w fun e w' => e = .returned (.tuple #[]) ∧ ∃ l' : List Int, l'.Perm l ∧ (∀ a b, a < b → b < l'.length → le_ cf l' a b) ∧
      Kd.R (Kd.int .i64) 3 w' w0.heap.size P0 u l' ∧ Below w0.heap.size w0 w' ∧ Kept w w' P0 := by
  by_cases hl : 0 < l.length
  · obtain ⟨gg, cap, rfl, hg, hgl, _⟩ := Kd.R_form ho hl
    have hi := ins_walk p cf asym trans g cb P0 gg cap l w0 w hB ho h12 hp eg hcmp
    have hq := fun lim => pdq_walk P0 gg cap l lim (.func (.func g) #[] cb) w hl h12 (fun _ w' => ∃ l' : List Int, l'.Perm l ∧ (∀ a b, a < b → b < l'.length → le_ cf l' a b) ∧ Kd.R (Kd.int .i64) 3 w' w0.heap.size P0 (.slice (some ⟨gg, 0, none⟩) l.length cap) l' ∧ Below w0.heap.size w0 w' ∧ Kept w w' P0) hi
    have hl2 := hlen12 l.length w h12
    change Calls Try.prog 126 _ _ _ at hl2
    have hcv : IntKind.u64.wrap (l.length : Int) = (l.length : Int) := by
      have h2 : (l.length : Int) ≤ 12 := by omega
      have h3 : 0 ≤ (l.length : Int) := by omega
      first | (rw [Go.IntKind.wrap_u64]; omega) | (show (l.length : Int) % 18446744073709551616 = _; omega) | (unfold IntKind.wrap; simp [IntKind.signed, IntKind.bits]; omega)
    clear ho hcmp hB hi hp
    go_enter Try.func91, Try.ntmps91
    go_wp2_with (first | (go_at_call 126; refine hl2.mono ?_; rintro e w' ⟨⟨lim, rfl⟩, rfl⟩) | (go_at_call 125; refine (hq _).mono ?_; rintro e w' ⟨rfl, hQ⟩))
    go_end0
    exact ⟨rfl, hQ⟩
  · have h0 : l = [] := List.eq_nil_of_length_eq_zero (by omega)
    subst h0
    obtain ⟨A, c, rfl⟩ := Kd.R_slice ho
    refine (sort0 A c _ w).mono ?_
    rintro e w' ⟨rfl, n, rfl⟩
    exact ⟨rfl, [], List.Perm.refl _, fun a b _ h => by simp at h, Kd.R_drewN ho _, pw_below_drewN hB _, (Kept.refl _ _).drewN _⟩
/-- One order alone: two rows in order of the same numbers are one row. -/
theorem uniq_le (cf : Int → Int → Int) (anti : ∀ x y, ¬ cf x y < 0 → ¬ cf y x < 0 → x = y) : ∀ (a b : List Int), a.Perm b → (∀ i j, i < j → j < a.length → le_ cf a i j) → (∀ i j, i < j → j < b.length → le_ cf b i j) → a = b := by
  have pw : ∀ l : List Int, (∀ i j, i < j → j < l.length → le_ cf l i j) → l.Pairwise (fun x y => ¬ cf y x < 0) := by
    intro l h
    rw [List.pairwise_iff_getElem]
    intro i j hi hj hij
    have := h i j hij hj
    unfold le_ at this
    simpa [List.getD_eq_getElem?_getD, hi, hj] using this
  intro a b hp ha hb
  exact hp.eq_of_pairwise (fun x y _ _ h1 h2 => (anti x y h2 h1)) (pw a ha) (pw b hb)
end Go.Proofs.Ytbbppknnkghkjaa.Fns
