/- Plain lemmas on counting loops over lists, with no program in sight: copying, comparing, marking and reading marks. -/
import Derived.Test.YtabefbjagompoaaWMore
namespace Go.Proofs.Ytabefbjagompoaa.Com
open Go.RowKit Go.Proofs.YtabefbjagompoaaW.PrintWords
set_option linter.unusedVariables false
set_option linter.unusedSimpArgs false

theorem wr (n : Int) (h1 : -9223372036854775808 ≤ n) (h2 : n ≤ 9223372036854775807) : wrap64 n = n := by unfold wrap64; omega
theorem u64_of {n : Int} (h1 : 0 ≤ n) (h2 : n ≤ 18446744073709551615) : IntKind.u64.wrap n = n := by
  simp [IntKind.wrap, IntKind.signed, IntKind.bits]; omega
theorem rd_nat (xs : List Int) (i : Nat) (h : i < xs.length) : rd xs (i : Int) = xs[i] := by
  unfold rd; simp [List.getD_eq_getElem?_getD, h]
theorem getD_nat {α : Type} (xs : List α) (i : Nat) (d : α) (h : i < xs.length) : xs.getD (i : Int).toNat d = xs[i] := by
  simp [List.getD_eq_getElem?_getD, h]

theorem eq_loop {α : Type} (F : Nat → List α → List α → Int → Option Bool) (x0 x1 : List α) (hl : x0.length ≤ 1048576) (he : x1.length = x0.length)
    (hne : ∀ k (i : Nat) (h : i < x0.length), x0[i] ≠ x1[i]'(by omega) → F (k + 1) x0 x1 (i : Int) = some false)
    (hstep : ∀ k (i : Nat) (h : i < x0.length), x0[i] = x1[i]'(by omega) → F (k + 1) x0 x1 (i : Int) = F k x0 x1 ((i + 1 : Nat) : Int))
    (hend : ∀ k, F (k + 1) x0 x1 (x0.length : Int) = some true) [DecidableEq α] :
    ∀ d k (i : Nat), i + d = x0.length → d < k → F k x0 x1 (i : Int) = some (decide (x0.drop i = x1.drop i)) := by
  intro d
  induction d with
  | zero =>
    intro k i hi hk
    obtain ⟨k, rfl⟩ : ∃ m, k = m + 1 := ⟨k - 1, by omega⟩
    obtain rfl : i = x0.length := by omega
    rw [hend k]
    simp [← he]
  | succ d ih =>
    intro k i hi hk
    obtain ⟨k, rfl⟩ : ∃ m, k = m + 1 := ⟨k - 1, by omega⟩
    have hlt : i < x0.length := by omega
    have hlt1 : i < x1.length := by omega
    have e0 := List.drop_eq_getElem_cons hlt
    have e1 := List.drop_eq_getElem_cons hlt1
    by_cases hx : x0[i] = x1[i]
    · rw [hstep k i hlt hx, ih k (i + 1) (by omega) (by omega)]
      congr 1
      rw [Bool.eq_iff_iff, decide_eq_true_iff, decide_eq_true_iff, e0, e1, hx]
      exact ⟨fun h => by rw [h], fun h => by injection h⟩
    · rw [hne k i hlt hx]
      congr 1
      symm
      rw [decide_eq_false_iff_not, e0, e1]
      exact fun h => hx (by injection h)

def marks (m : Int) : Nat → List Int
  | 0 => []
  | n + 1 => m :: marks (m + 1) n
end Go.Proofs.Ytabefbjagompoaa.Com
