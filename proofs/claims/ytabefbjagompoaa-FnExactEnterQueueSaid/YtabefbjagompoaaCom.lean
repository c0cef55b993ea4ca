/- Plain lemmas on counting loops over lists, with no program in sight: copying, comparing, marking and reading marks. -/
import Derived.Test.YtabefbjagompoaaWMore
namespace Go.Proofs.Ytabefbjagompoaa.Com
open Go.RowKit Go.Proofs.YtabefbjagompoaaW.PrintWords
set_option linter.unusedVariables false
set_option linter.unusedSimpArgs false

theorem wr (n : Int) (h1 : -9223372036854775808 ≤ n) (h2 : n ≤ 9223372036854775807) : wrap64 n = n := by unfold wrap64; omega
theorem u64_of {n : Int} (h1 : 0 ≤ n) (h2 : n ≤ 18446744073709551615) : IntKind.u64.wrap n = n := by
  simp [IntKind.wrap, IntKind.signed, IntKind.bits]; omega
theorem rd_nat (xs : List Int) (i : Nat) (h : i < xs.length) : rd xs (i : Int) = xs[i] := by
  unfold rd; simp [List.getD_eq_getElem?_getD, h]
theorem getD_nat {α : Type} (xs : List α) (i : Nat) (d : α) (h : i < xs.length) : xs.getD (i : Int).toNat d = xs[i] := by
  simp [List.getD_eq_getElem?_getD, h]

theorem copy_loop {α β : Type} (F : Nat → List α → List β → Int → Option (List β)) (g : α → β) (x0 : List α) (hl : x0.length ≤ 1048576)
    (hstep : ∀ k x3 (i : Nat) (h : i < x0.length), x3.length = x0.length → F (k + 1) x0 x3 (i : Int) = F k x0 (x3.set i (g x0[i])) ((i + 1 : Nat) : Int))
    (hend : ∀ k x3, x3.length = x0.length → F (k + 1) x0 x3 (x0.length : Int) = some x3) :
    ∀ d k x3 (i : Nat), i + d = x0.length → d < k → x3.length = x0.length → (∀ j, j < i → x3[j]? = (x0.map g)[j]?) → F k x0 x3 (i : Int) = some (x0.map g) := by
  intro d
  induction d with
  | zero =>
    intro k x3 i hi hk h3 hp
    obtain ⟨k, rfl⟩ : ∃ m, k = m + 1 := ⟨k - 1, by omega⟩
    obtain rfl : i = x0.length := by omega
    rw [hend k x3 h3]
    congr 1
    apply List.ext_getElem?
    intro j
    by_cases hj : j < x0.length
    · exact hp j hj
    · rw [List.getElem?_eq_none (by omega), List.getElem?_eq_none (by simp; omega)]
  | succ d ih =>
    intro k x3 i hi hk h3 hp
    obtain ⟨k, rfl⟩ : ∃ m, k = m + 1 := ⟨k - 1, by omega⟩
    have hlt : i < x0.length := by omega
    rw [hstep k x3 i hlt h3]
    refine ih k _ (i + 1) (by omega) (by omega) (by simp [h3]) (fun j hj => ?_)
    by_cases e : j = i
    · subst e
      simp [List.getElem?_set, h3, hlt]
    · rw [List.getElem?_set_ne (by omega)]
      exact hp j (by omega)

theorem eq_loop {α : Type} (F : Nat → List α → List α → Int → Option Bool) (x0 x1 : List α) (hl : x0.length ≤ 1048576) (he : x1.length = x0.length)
    (hne : ∀ k (i : Nat) (h : i < x0.length), x0[i] ≠ x1[i]'(by omega) → F (k + 1) x0 x1 (i : Int) = some false)
    (hstep : ∀ k (i : Nat) (h : i < x0.length), x0[i] = x1[i]'(by omega) → F (k + 1) x0 x1 (i : Int) = F k x0 x1 ((i + 1 : Nat) : Int))
    (hend : ∀ k, F (k + 1) x0 x1 (x0.length : Int) = some true) [DecidableEq α] :
    ∀ d k (i : Nat), i + d = x0.length → d < k → F k x0 x1 (i : Int) = some (decide (x0.drop i = x1.drop i)) := by
  intro d
  induction d with
  | zero =>
    intro k i hi hk
    obtain ⟨k, rfl⟩ : ∃ m, k = m + 1 := ⟨k - 1, by omega⟩
    obtain rfl : i = x0.length := by omega
    rw [hend k]
    simp [← he]
  | succ d ih =>
    intro k i hi hk
    obtain ⟨k, rfl⟩ : ∃ m, k = m + 1 := ⟨k - 1, by omega⟩
    have hlt : i < x0.length := by omega
    have hlt1 : i < x1.length := by omega
    have e0 := List.drop_eq_getElem_cons hlt
    have e1 := List.drop_eq_getElem_cons hlt1
    by_cases hx : x0[i] = x1[i]
    · rw [hstep k i hlt hx, ih k (i + 1) (by omega) (by omega)]
      congr 1
      rw [Bool.eq_iff_iff, decide_eq_true_iff, decide_eq_true_iff, e0, e1, hx]
      exact ⟨fun h => by rw [h], fun h => by injection h⟩
    · rw [hne k i hlt hx]
      congr 1
      symm
      rw [decide_eq_false_iff_not, e0, e1]
      exact fun h => hx (by injection h)

def marks (m : Int) : Nat → List Int
  | 0 => []
  | n + 1 => m :: marks (m + 1) n
theorem marks_length (m : Int) (n : Nat) : (marks m n).length = n := by
  induction n generalizing m with
  | zero => rfl
  | succ n ih => simp [marks, ih]
theorem marks_get (m : Int) (n j : Nat) (h : j < n) : (marks m n)[j]? = some (m + j) := by
  induction n generalizing m j with
  | zero => omega
  | succ n ih =>
    cases j with
    | zero => simp [marks]
    | succ j => simp only [marks, List.getElem?_cons_succ]; rw [ih _ _ (by omega)]; congr 1; omega

theorem mark_loop (F : Nat → List Int → Int → Int → Option (Int × List Int)) (n : Nat) (m : Int)
    (hstep : ∀ k (x0 : List Int) (i : Nat), x0.length = n → i < n → F (k + 1) x0 (m + i) (i : Int) = F k (x0.set i (m + i)) (m + ((i + 1 : Nat) : Int)) ((i + 1 : Nat) : Int))
    (hend : ∀ k (x0 : List Int), x0.length = n → F (k + 1) x0 (m + n) (n : Int) = some (m + n, x0)) :
    ∀ d k (x0 : List Int) (i : Nat), x0.length = n → i + d = n → d < k → (∀ j, j < i → x0[j]? = some (m + j)) → F k x0 (m + i) (i : Int) = some (m + n, marks m n) := by
  intro d
  induction d with
  | zero =>
    intro k x0 i hn hi hk hp
    obtain ⟨k, rfl⟩ : ∃ m, k = m + 1 := ⟨k - 1, by omega⟩
    obtain rfl : i = n := by omega
    rw [hend k x0 hn]
    congr 2
    apply List.ext_getElem?
    intro j
    by_cases hj : j < i
    · rw [hp j hj, marks_get _ _ _ hj]
    · rw [List.getElem?_eq_none (by omega), List.getElem?_eq_none (by rw [marks_length]; omega)]
  | succ d ih =>
    intro k x0 i hn hi hk hp
    obtain ⟨k, rfl⟩ : ∃ m, k = m + 1 := ⟨k - 1, by omega⟩
    rw [hstep k x0 i hn (by omega)]
    refine ih k _ (i + 1) (by simp [hn]) (by omega) (by omega) (fun j hj => ?_)
    by_cases e : j = i
    · subst e
      simp [List.getElem?_set, hn, show j < n by omega]
    · rw [List.getElem?_set_ne (by omega)]
      exact hp j (by omega)

theorem held_loop (F : Nat → List Int → Int → Int → Option Int) (n : Nat) (m : Int)
    (hstep : ∀ k (i : Nat), i < n → F (k + 1) (marks m n) (m + i) (i : Int) = F k (marks m n) (m + ((i + 1 : Nat) : Int)) ((i + 1 : Nat) : Int))
    (hend : ∀ k, F (k + 1) (marks m n) (m + n) (n : Int) = some (m + n)) :
    ∀ d k (i : Nat), i + d = n → d < k → F k (marks m n) (m + i) (i : Int) = some (m + n) := by
  intro d
  induction d with
  | zero =>
    intro k i hi hk
    obtain ⟨k, rfl⟩ : ∃ m, k = m + 1 := ⟨k - 1, by omega⟩
    obtain rfl : i = n := by omega
    exact hend k
  | succ d ih =>
    intro k i hi hk
    obtain ⟨k, rfl⟩ : ∃ m, k = m + 1 := ⟨k - 1, by omega⟩
    rw [hstep k i (by omega)]
    exact ih k (i + 1) (by omega) (by omega)

end Go.Proofs.Ytabefbjagompoaa.Com
