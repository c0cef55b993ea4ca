/- The contract of slices.SortFunc over a row of ints of the call's own (12 or fewer), for a literal that may lay blocks of its own (NOT BUILT YET). -/
import Derived.Test.YtbbppknnkghkjaaFnsSort
namespace Go.Proofs.Ytbbppknnkghkjaa.Fns
open Go.RowKit Go.Sort Go.Shelf Go.Proofs.YtbbppknnkghkjaaW.PrintWords
set_option linter.unusedVariables false
set_option linter.unusedSimpArgs false

/-- What stands at a is not above what stands at b. -/
def le_ (cf : Int → Int → Int) (x : List Int) (a b : Nat) : Prop := ¬ cf (x.getD b 0) (x.getD a 0) < 0
/-- The first i + 1 are in order, but for the one at j, which is not above those behind it. -/
def inv_ (cf : Int → Int → Int) (x : List Int) (i j : Nat) : Prop := ∀ a b, a < b → b ≤ i → b ≠ j → le_ cf x a b
def swap_ (x : List Int) (j : Nat) : List Int := (x.set j (x.getD (j - 1) 0)).set (j - 1) (x.getD j 0)
theorem swap_get (x : List Int) (j k : Nat) (h0 : 0 < j) (h1 : j < x.length) : (swap_ x j).getD k 0 = if k = j then x.getD (j - 1) 0 else if k = j - 1 then x.getD j 0 else x.getD k 0 := by
  unfold swap_
  simp only [List.getD_eq_getElem?_getD, List.getElem?_set, List.length_set]
  by_cases e1 : k = j
  · subst e1
    rw [if_neg (by omega), if_pos rfl, if_pos h1, if_pos rfl]; rfl
  · by_cases e2 : k = j - 1
    · subst e2
      rw [if_pos rfl, if_pos (by omega), if_neg (by omega), if_pos rfl]; rfl
    · rw [if_neg (fun h => e2 h.symm), if_neg (fun h => e1 h.symm), if_neg e1, if_neg e2]
theorem swap_len (x : List Int) (j : Nat) : (swap_ x j).length = x.length := by simp [swap_]
theorem inv_swap (cf : Int → Int → Int) (asym : ∀ x y, cf x y < 0 → ¬ cf y x < 0) (x : List Int) (i j : Nat) (h0 : 0 < j) (h1 : j ≤ i) (h2 : i < x.length) (hc : cf (x.getD j 0) (x.getD (j - 1) 0) < 0) (h : inv_ cf x i j) : inv_ cf (swap_ x j) i (j - 1) := by
  intro a b hab hb hne
  unfold le_
  rw [swap_get x j b h0 (by omega), swap_get x j a h0 (by omega)]
  by_cases b1 : b = j
  · subst b1
    rw [if_pos rfl]
    by_cases a1 : a = b - 1
    · rw [if_neg (by omega), if_pos a1]; exact asym _ _ hc
    · rw [if_neg (by omega), if_neg a1]
      exact h a (b - 1) (by omega) (by omega) (by omega)
  · rw [if_neg b1, if_neg hne]
    by_cases a1 : a = j
    · rw [if_pos a1]; subst a1; exact h (a - 1) b (by omega) hb b1
    · rw [if_neg a1]
      by_cases a2 : a = j - 1
      · rw [if_pos a2]; exact h j b (by omega) hb b1
      · rw [if_neg a2]; exact h a b hab hb b1
/-- At the end of the inner loop the first i + 1 are in order. -/
theorem inv_end (cf : Int → Int → Int) (trans : ∀ x y z, ¬ cf y x < 0 → ¬ cf z y < 0 → ¬ cf z x < 0) (x : List Int) (i j : Nat) (h1 : j ≤ i) (hc : j = 0 ∨ ¬ cf (x.getD j 0) (x.getD (j - 1) 0) < 0) (h : inv_ cf x i j) : ∀ a b, a < b → b ≤ i → le_ cf x a b := by
  intro a b hab hb
  by_cases b1 : b = j
  · subst b1
    rcases hc with hc | hc
    · omega
    · by_cases a1 : a = b - 1
      · subst a1; exact hc
      · exact trans _ _ _ (h a (b - 1) (by omega) (by omega) (by omega)) hc
  · exact h a b hab hb b1
end Go.Proofs.Ytbbppknnkghkjaa.Fns
