/- Of every arbiter and row of asking ports: the program's Grant and the reference's answer alike. -/
import Derived.Test.YtphlfmmhpmhjfaaPFnExactGrantx9
import Derived.Test.YtphlfmmhpmhjfaaCom
namespace Go.Proofs.Ytphlfmmhpmhjfaa.Pure
open Go.RowKit Go.Proofs.Ytphlfmmhpmhjfaa.PFnExactGrant Go.Proofs.YtphlfmmhpmhjfaaW.PrintWords Go.Proofs.YtphlfmmhpmhjfaaW.PrintLast Go.Proofs.YtphlfmmhpmhjfaaW.PrintMore Go.Proofs.Ytphlfmmhpmhjfaa.Com
set_option linter.unusedVariables false
set_option linter.unusedSimpArgs false

theorem within_eq (a b c : Int) : impl_within.f a b c = some (decide (b ≤ a ∧ a ≤ c)) := by
  unfold impl_within.f; by_cases h : a ≥ b <;> simp [h]

theorem l01In_eq (a b c : Int) : spec_l01In.f a b c = some (decide (b ≤ a ∧ a ≤ c)) := by
  unfold spec_l01In.f; by_cases h : a ≥ b <;> simp [h]

theorem toIntS_eq (k : Nat) (l : List Int) (hl : l.length ≤ 1048576) (hk : l.length < k) : laws_toIntS.f k l = some l := by
  unfold laws_toIntS.f
  rw [if_pos (by omega), if_pos (by omega)]
  have h := copy_loop laws_toIntS.l0 (fun x => x) l hl (fun k x3 i h h3 => by
      simp only [laws_toIntS.l0]
      rw [if_pos (by omega), if_pos (by omega), if_pos (by omega), rd_nat _ _ h, wr _ (by omega) (by omega)]
      rfl) (fun k x3 h3 => by
      simp only [laws_toIntS.l0]
      rw [if_neg (by omega)]) l.length k (List.replicate ((l.length : Int)).toNat 0) 0 (by omega) hk (by simp) (fun j hj => by omega)
  simpa using h

theorem eqIntS_eq (k : Nat) (a b : List Int) (hl : a.length ≤ 1048576) (hk : a.length < k) : laws_eqIntS.f k a b = some (decide (a = b)) := by
  unfold laws_eqIntS.f
  by_cases e : b.length = a.length
  · rw [if_pos (by omega)]
    have h := eq_loop laws_eqIntS.l0 a b hl e (fun k i h hx => by
        simp only [laws_eqIntS.l0]
        rw [if_pos (by omega), if_pos (by omega), if_pos (by omega), rd_nat _ _ h, rd_nat _ _ (by omega), if_neg hx]) (fun k i h hx => by
        simp only [laws_eqIntS.l0]
        rw [if_pos (by omega), if_pos (by omega), if_pos (by omega), rd_nat _ _ h, rd_nat _ _ (by omega), if_pos hx, wr _ (by omega) (by omega)]
        rfl) (fun k => by
        simp only [laws_eqIntS.l0]
        rw [if_neg (by omega)]) a.length k 0 (by omega) hk
    simpa using h
  · rw [if_neg (by omega)]
    congr 1
    symm
    rw [decide_eq_false_iff_not]
    rintro rfl
    exact e rfl

/-- Weights are 1 to 4 of 1 to 9, the place and what is left fit. -/
def arb_ (l : List Int) (a b : Int) : Prop := (1 ≤ l.length ∧ l.length ≤ 4) ∧ (∀ x ∈ l, 1 ≤ x ∧ x ≤ 9) ∧ (0 ≤ a ∧ a ≤ (l.length : Int) - 1) ∧ (0 ≤ b ∧ b ≤ rd l a)
instance (l : List Int) (a b : Int) : Decidable (arb_ l a b) := by unfold arb_; infer_instance
theorem iarb_eq (l : List Int) (a b : Int) (hl : l.length ≤ 1048576) : impl_ArbiterOk.f l a b = some (decide (arb_ l a b)) := by
  have hv : ∀ x, (impl_ArbiterOk_1.f x).getD false = !decide (1 ≤ x ∧ x ≤ 9) := by
    intro x; unfold impl_ArbiterOk_1.f; rw [within_eq]; rfl
  have hany : slices_ContainsFunc_int_int_impl_ArbiterOk_1.f l = some (!decide (∀ x ∈ l, 1 ≤ x ∧ x ≤ 9)) := by
    unfold slices_ContainsFunc_int_int_impl_ArbiterOk_1.f
    congr 1
    simp only [hv]
    rw [Bool.eq_iff_iff, List.any_eq_true, Bool.not_eq_true', decide_eq_false_iff_not]
    simp only [Bool.not_eq_true', decide_eq_false_iff_not, Classical.not_forall, exists_prop]
  unfold impl_ArbiterOk.f
  rw [hany]
  simp only [within_eq, Option.bind_some, decide_eq_true_eq, wr ((l.length : Int) - 1) (by omega) (by omega)]
  by_cases h1 : 1 ≤ (l.length : Int) ∧ (l.length : Int) ≤ 4
  · rw [if_pos h1]
    by_cases h4 : ∀ x ∈ l, 1 ≤ x ∧ x ≤ 9
    · rw [if_neg (by rw [decide_eq_true h4]; simp)]
      by_cases h2 : 0 ≤ a ∧ a ≤ (l.length : Int) - 1
      · rw [if_pos h2, if_pos (by omega), if_pos (by omega)]
        congr 1
        rw [Bool.eq_iff_iff, decide_eq_true_eq, decide_eq_true_eq]
        unfold arb_
        exact ⟨fun h => ⟨by omega, h4, h2, h⟩, fun h => h.2.2.2⟩
      · rw [if_neg h2]
        congr 1; symm; rw [decide_eq_false_iff_not]; intro h; exact h2 h.2.2.1
    · rw [if_pos (by rw [decide_eq_false h4]; rfl)]
      congr 1; symm; rw [decide_eq_false_iff_not]; intro h; exact h4 h.2.1
  · rw [if_neg h1]
    congr 1; symm; rw [decide_eq_false_iff_not]; intro h; exact h1 (by have := h.1; omega)

theorem sarb_eq (k : Nat) (l : List Int) (a b : Int) (hl : l.length ≤ 1048576) (hk : l.length < k) : spec_ArbiterOk.f k l a b = some (decide (arb_ l a b)) := by
  have h := scan_loop (fun k (_ : Unit) i => spec_ArbiterOk.l0 k i l a b) l (fun _ x => if 1 ≤ x ∧ x ≤ 9 then Sum.inl () else Sum.inr false)
    (fun _ => decide ((1 ≤ (l.length : Int) ∧ (l.length : Int) ≤ 4) ∧ (0 ≤ a ∧ a ≤ (l.length : Int) - 1) ∧ (0 ≤ b ∧ b ≤ rd l a)))
    (fun k s i h s' e => by
      have hx : 1 ≤ l[i] ∧ l[i] ≤ 9 := by
        by_cases hx : 1 ≤ l[i] ∧ l[i] ≤ 9
        · exact hx
        · simp [hx] at e
      simp only [spec_ArbiterOk.l0]
      rw [if_pos (by omega), if_pos (by omega), l01In_eq, Option.bind_some, rd_nat _ _ h, if_pos (by simp [hx]), wr ((i : Int) + 1) (by omega) (by omega)]
      rfl)
    (fun k s i h r e => by
      have hx : ¬ (1 ≤ l[i] ∧ l[i] ≤ 9) := by
        intro hx; simp [hx] at e
      rw [if_neg hx] at e
      injection e with e
      subst e
      simp only [spec_ArbiterOk.l0]
      rw [if_pos (by omega), if_pos (by omega), l01In_eq, Option.bind_some, rd_nat _ _ h, if_neg (by simp only [decide_eq_true_eq]; exact hx)])
    (fun k s => by
      simp only [spec_ArbiterOk.l0]
      rw [if_neg (by omega)]
      simp only [l01In_eq, Option.bind_some, decide_eq_true_eq, wr ((l.length : Int) - 1) (by omega) (by omega)]
      by_cases h1 : 1 ≤ (l.length : Int) ∧ (l.length : Int) ≤ 4
      · rw [if_pos h1]
        by_cases h2 : 0 ≤ a ∧ a ≤ (l.length : Int) - 1
        · rw [if_pos h2, if_pos (by omega), if_pos (by omega)]
          simp [h1, h2]
        · rw [if_neg h2]; simp only [h2, false_and, and_false, decide_false]
      · rw [if_neg h1]; simp only [h1, false_and, decide_false]) l.length k () 0 (by omega) hk
  have e : ∀ xs : List Int, ∀ f : Unit → Bool, runL (fun _ x => if 1 ≤ x ∧ x ≤ 9 then Sum.inl () else Sum.inr false) f () xs = (decide (∀ x ∈ xs, 1 ≤ x ∧ x ≤ 9) && f ()) := by
    intro xs f
    induction xs with
    | nil => simp [runL]
    | cons x xs ih =>
      unfold runL
      by_cases hx : 1 ≤ x ∧ x ≤ 9
      · rw [if_pos hx]; simp only [ih]; simp [hx]
      · rw [if_neg hx]; simp only [List.mem_cons, forall_eq_or_imp, hx, false_and, decide_false, Bool.false_and]
  rw [e] at h
  unfold spec_ArbiterOk.f
  have h' : spec_ArbiterOk.l0 k ((0 : Nat) : Int) l a b = _ := h
  rw [show (0 : Int) = ((0 : Nat) : Int) from rfl, h']
  congr 1
  rw [Bool.eq_iff_iff]
  simp only [Bool.and_eq_true, decide_eq_true_eq, List.drop_zero]
  unfold arb_
  constructor
  · rintro ⟨h1, h2, h3⟩; exact ⟨by omega, h1, h3⟩
  · rintro ⟨h2, h1, h3⟩; exact ⟨h1, by omega, h3⟩
theorem toArb_eq (k : Nat) (l : List Int) (a b : Int) (hl : l.length ≤ 1048576) (hk : l.length < k) : laws_toArbiter.f k l a b = some (l, a, b) := by
  unfold laws_toArbiter.f; rw [toIntS_eq k l hl hk]; rfl
theorem eqArb_eq (k : Nat) (l : List Int) (a b : Int) (m : List Int) (c d : Int) (hl : l.length ≤ 1048576) (hk : l.length < k) : laws_eqArbiter.f k l a b m c d = some (decide (l = m ∧ a = c ∧ b = d)) := by
  unfold laws_eqArbiter.f; rw [eqIntS_eq k l m hl hk]
  by_cases h1 : l = m <;> by_cases h2 : a = c <;> by_cases h3 : b = d <;> simp [h1, h2, h3]
theorem szInt_eq (l : List Int) (n : Int) (hl : l.length ≤ 9223372036854775807) (h1 : 0 ≤ n) (h2 : n ≤ 1048576) : laws_szIntS.f l n = some (if n < (l.length : Int) then -1 else n - l.length) := by
  unfold laws_szIntS.f
  rw [wr (n - (l.length : Int)) (by omega) (by omega)]
  by_cases h : n < (l.length : Int)
  · rw [if_pos (by omega), if_pos h]
  · rw [if_neg (by omega), if_neg h]
theorem szArb_eq (l : List Int) (a b : Int) (n : Int) (hl : l.length ≤ 9223372036854775807) (h1 : 0 ≤ n) (h2 : n ≤ 1048576) : laws_szArbiter.f l a b n = some (if n < (l.length : Int) then -1 else n - l.length) := by
  unfold laws_szArbiter.f
  rw [szInt_eq l n hl h1 h2]
  simp only [Option.bind_some]
  by_cases h : n < (l.length : Int)
  · simp [h]
  · rw [if_neg h, if_neg (by omega)]

theorem rd_mem (l : List Int) (p : Int) (h0 : 0 ≤ p) (h1 : p < (l.length : Int)) : rd l p ∈ l := by
  obtain ⟨m, rfl⟩ : ∃ m : Nat, p = m := ⟨p.toNat, by omega⟩
  rw [rd_nat _ _ (by omega)]; exact List.getElem_mem _

/-- The port after a's that asks, d steps from a + j on. -/
def nx_ (q : List Bool) (a n : Int) : Nat → Int → Option Int
  | 0, _ => none
  | d + 1, j => if rdOf false q (Int.tmod (a + j) n) = true then some (Int.tmod (a + j) n) else nx_ q a n d (j + 1)
/-- One grant. -/
def gr_ (l : List Int) (a b : Int) (q : List Bool) : List Int × Int × Int × Int :=
  if arb_ l a b ∧ q.length = l.length then
    (if rdOf false q a = true ∧ 0 < b then (l, a, b - 1, a) else match nx_ q a l.length l.length 1 with | some p => (l, p, rd l p - 1, p) | none => (l, a, b, -1))
  else (l, a, b, -1)
theorem tm_ (a n : Int) (h0 : 0 ≤ a) (hn : 0 < n) : 0 ≤ Int.tmod a n ∧ Int.tmod a n < n := ⟨Int.tmod_nonneg _ h0, Int.tmod_lt_of_pos _ hn⟩
theorem igl_eq (l : List Int) (a b : Int) (q : List Bool) (h : arb_ l a b) (hq : q.length = l.length) : ∀ (d k : Nat) (j : Int), 1 ≤ j → j + d = (l.length : Int) + 1 → d < k →
    impl_Grant.l0 k q (l.length : Int) j l a b l a b = some (match nx_ q a l.length d j with | some p => (l, p, rd l p - 1, p) | none => (l, a, b - 1, a)) := by
  obtain ⟨h1, h2, h3, h4⟩ := h
  have hb := h2 _ (rd_mem l a (by omega) (by omega))
  intro d
  induction d with
  | zero =>
    intro k j hj he hk
    obtain ⟨k, rfl⟩ : ∃ m, k = m + 1 := ⟨k - 1, by omega⟩
    simp only [impl_Grant.l0, nx_]
    rw [if_neg (by omega), wr (b - 1) (by omega) (by omega)]
  | succ d ih =>
    intro k j hj he hk
    obtain ⟨k, rfl⟩ : ∃ m, k = m + 1 := ⟨k - 1, by omega⟩
    obtain ⟨t0, t1⟩ := tm_ (a + j) (l.length : Int) (by omega) (by omega)
    have hm := h2 _ (rd_mem l _ t0 t1)
    simp only [impl_Grant.l0, nx_]
    rw [wr (a + j) (by omega) (by omega), if_pos (by omega), if_neg (by omega), if_pos t0, if_pos (by omega), wr (j + 1) (by omega) (by omega)]
    by_cases hx : rdOf false q (Int.tmod (a + j) (l.length : Int)) = true
    · rw [if_pos hx, if_pos hx, if_pos t1, wr _ (by omega) (by omega)]
    · rw [if_neg hx, if_neg hx]
      exact ih k (j + 1) (by omega) (by omega) (by omega)
theorem rdOf_nat {α : Type} (z : α) (xs : List α) (i : Nat) (h : i < xs.length) : rdOf z xs (i : Int) = xs[i] := by
  unfold rdOf; simp [List.getD_eq_getElem?_getD, h]
/-- The search goes over every port. -/
theorem nx_none (q : List Bool) (a n : Int) : ∀ (d : Nat) (j : Int), nx_ q a n d j = none → ∀ i : Int, j ≤ i → i < j + d → rdOf false q (Int.tmod (a + i) n) = false := by
  intro d
  induction d with
  | zero => intro j _ i h1 h2; omega
  | succ d ih =>
    intro j h i h1 h2
    unfold nx_ at h
    by_cases hx : rdOf false q (Int.tmod (a + j) n) = true
    · simp [hx] at h
    · rw [if_neg hx] at h
      by_cases e : i = j
      · subst e; simpa using hx
      · exact ih (j + 1) h i (by omega) (by omega)
theorem nx_some (q : List Bool) (a n p : Int) (ha : 0 ≤ a) (hn : 0 < n) : ∀ (d : Nat) (j : Int), 0 ≤ j → nx_ q a n d j = some p → rdOf false q p = true ∧ 0 ≤ p ∧ p < n := by
  intro d
  induction d with
  | zero => intro j _ h; simp [nx_] at h
  | succ d ih =>
    intro j hj h
    unfold nx_ at h
    by_cases hx : rdOf false q (Int.tmod (a + j) n) = true
    · rw [if_pos hx] at h
      injection h with h
      subst h
      exact ⟨hx, tm_ (a + j) n (by omega) hn⟩
    · rw [if_neg hx] at h
      exact ih (j + 1) (by omega) h
theorem nx_all (q : List Bool) (a n : Int) (ha : 0 ≤ a) (han : a < n) (hn : (n.toNat : Int) = n) (h : nx_ q a n n.toNat 1 = none) : ∀ p : Int, 0 ≤ p → p < n → rdOf false q p = false := by
  intro p h0 h1
  have e := nx_none q a n n.toNat 1 h
  by_cases hp : a < p
  · have e1 := e (p - a) (by omega) (by omega)
    rw [show a + (p - a) = p by omega, Int.tmod_eq_of_lt h0 h1] at e1
    exact e1
  · have e1 := e (p - a + n) (by omega) (by omega)
    rw [show a + (p - a + n) = p + n by omega, Int.tmod_eq_emod_of_nonneg (by omega), Int.add_emod_right, Int.emod_eq_of_lt h0 h1] at e1
    exact e1
theorem ibc_eq (k : Nat) (q : List Bool) (hl : q.length ≤ 1048576) (hk : q.length < k) : slices_Contains_bool_bool.f k q true = some (decide (true ∈ q)) := by
  unfold slices_Contains_bool_bool.f slices_Index_bool_bool.f
  have hL : ∀ (d k : Nat) (i : Nat), i + d = q.length → d < k → ∃ r : Int, slices_Index_bool_bool.l0 k q true (q.length : Int) (i : Int) = some r ∧ (0 ≤ r ↔ true ∈ q.drop i) := by
    intro d
    induction d with
    | zero =>
      intro k i hi hk
      obtain ⟨k, rfl⟩ : ∃ m, k = m + 1 := ⟨k - 1, by omega⟩
      simp only [slices_Index_bool_bool.l0]
      rw [if_neg (by omega), List.drop_of_length_le (by omega)]
      exact ⟨-1, rfl, by simp⟩
    | succ d ih =>
      intro k i hi hk
      obtain ⟨k, rfl⟩ : ∃ m, k = m + 1 := ⟨k - 1, by omega⟩
      simp only [slices_Index_bool_bool.l0]
      rw [if_pos (by omega), if_pos (by omega), if_pos (by omega), rdOf_nat _ _ _ (by omega), List.drop_eq_getElem_cons (by omega), wr ((i : Int) + 1) (by omega) (by omega)]
      by_cases hx : q[i]'(by omega) = true
      · rw [hx]
        exact ⟨i, rfl, by simp⟩
      · rw [if_neg (by simpa using hx)]
        obtain ⟨r, e1, e2⟩ := ih k (i + 1) (by omega) (by omega)
        refine ⟨r, e1, ?_⟩
        rw [e2]
        simp only [Bool.not_eq_true] at hx
        simp [hx]
  obtain ⟨r, e1, e2⟩ := hL q.length k 0 (by omega) hk
  have e1' : slices_Index_bool_bool.l0 k q true (q.length : Int) 0 = some r := e1
  rw [e1']
  simp only [Option.bind_some]
  congr 1
  rw [Bool.eq_iff_iff, decide_eq_true_eq, decide_eq_true_eq]
  simpa using e2
theorem igr_eq (k : Nat) (l : List Int) (a b : Int) (q : List Bool) (hl : l.length ≤ 1048576) (hk : l.length + 10 < k) : impl_Grant.f k l a b q = some (gr_ l a b q) := by
  obtain ⟨k, rfl⟩ : ∃ m, k = m + 2 := ⟨k - 2, by omega⟩
  unfold impl_Grant.f impl_copyArbiter.f slices_Clone_int_int.f
  rw [if_pos (by omega)]
  simp only [Option.bind_some]
  rw [iarb_eq _ _ _ hl]
  simp only [Option.bind_some, decide_eq_true_eq]
  by_cases h : arb_ l a b
  · rw [if_pos h]
    by_cases hq : q.length = l.length
    · have hh := h
      obtain ⟨h1, h2, h3, h4⟩ := h
      have hb := h2 _ (rd_mem l a (by omega) (by omega))
      unfold gr_
      rw [if_pos (show arb_ l a b ∧ q.length = l.length from ⟨hh, hq⟩), if_pos (by omega), ibc_eq _ _ (by omega) (by omega)]
      simp only [impl_Grant.j0, Option.bind_some]
      have hin : ∀ p : Int, 0 ≤ p → p < (l.length : Int) → rdOf false q p = true → true ∈ q := by
        intro p p0 p1 hp
        obtain ⟨m, rfl⟩ : ∃ m : Nat, p = m := ⟨p.toNat, by omega⟩
        rw [rdOf_nat _ _ _ (by omega)] at hp
        rw [← hp]; exact List.getElem_mem _
      by_cases hc : true ∈ q
      · rw [if_neg (by simp [hc]), if_pos (by omega), if_pos (by omega)]
        have hL := igl_eq l a b q hh hq l.length k 1 (by omega) (by omega) (by omega)
        have hno : nx_ q a l.length l.length 1 ≠ none := by
          intro e
          have hall := nx_all q a l.length (by omega) (by omega) (by omega) (by simpa using e)
          obtain ⟨m, hm, e2⟩ := List.getElem_of_mem hc
          have := hall (m : Int) (by omega) (by omega)
          rw [rdOf_nat _ _ _ hm, e2] at this
          cases this
        have hL' : impl_Grant.l0 k q (l.length : Int) 1 l a b l a b = some (match nx_ q a l.length l.length 1 with | some p => (l, p, rd l p - 1, p) | none => (l, a, b, -1)) := by
          rw [hL]
          cases e : nx_ q a l.length l.length 1 with
          | none => exact absurd e hno
          | some p => rfl
        by_cases hx : rdOf false q a = true
        · rw [if_pos hx]
          simp only [impl_Grant.j1]
          by_cases hp : b > 0
          · rw [if_neg (by simp; omega), if_pos (show rdOf false q a = true ∧ 0 < b from ⟨hx, hp⟩), wr (b - 1) (by omega) (by omega)]
          · rw [if_pos (by simp; omega), if_neg (show ¬ (rdOf false q a = true ∧ 0 < b) from fun h => hp h.2), hL']
        · rw [if_neg hx]
          simp only [impl_Grant.j1]
          rw [if_pos trivial, if_neg (show ¬ (rdOf false q a = true ∧ 0 < b) from fun h => hx h.1), hL']
      · rw [if_pos (by simp [hc]), if_neg (show ¬ (rdOf false q a = true ∧ 0 < b) from fun h => hc (hin a (by omega) (by omega) h.1))]
        cases e : nx_ q a l.length l.length 1 with
        | none => rfl
        | some p =>
          obtain ⟨e1, e2, e3⟩ := nx_some q a _ p (by omega) (by omega) _ _ (by omega) e
          exact absurd (hin p e2 e3 e1) hc
    · unfold gr_
      rw [if_neg (show ¬ (arb_ l a b ∧ q.length = l.length) from fun h => hq h.2), if_neg (by omega)]
      simp only [impl_Grant.j0]
      rw [if_pos trivial]
  · rw [if_neg h]
    unfold gr_
    rw [if_neg (fun e => h e.1)]
    simp only [impl_Grant.j0]
    rw [if_pos trivial]

theorem sgl_eq (l : List Int) (a b : Int) (q : List Bool) (h : arb_ l a b) (hq : q.length = l.length) : ∀ (d k : Nat) (j : Int), 1 ≤ j → j + d = (l.length : Int) + 1 → d < k →
    spec_Grant.l0 k q (l.length : Int) j l a b l a b = some (match nx_ q a l.length d j with | some p => (l, p, rd l p - 1, p) | none => (l, a, b, -1)) := by
  obtain ⟨h1, h2, h3, h4⟩ := h
  intro d
  induction d with
  | zero =>
    intro k j hj he hk
    obtain ⟨k, rfl⟩ : ∃ m, k = m + 1 := ⟨k - 1, by omega⟩
    simp only [spec_Grant.l0, nx_]
    rw [if_neg (by omega)]
  | succ d ih =>
    intro k j hj he hk
    obtain ⟨k, rfl⟩ : ∃ m, k = m + 1 := ⟨k - 1, by omega⟩
    obtain ⟨t0, t1⟩ := tm_ (a + j) (l.length : Int) (by omega) (by omega)
    have hm := h2 _ (rd_mem l _ t0 t1)
    simp only [spec_Grant.l0, nx_]
    rw [wr (a + j) (by omega) (by omega), if_pos (by omega), if_neg (by omega), if_pos t0, if_pos (by omega), wr (j + 1) (by omega) (by omega)]
    by_cases hx : rdOf false q (Int.tmod (a + j) (l.length : Int)) = true
    · rw [if_pos hx, if_pos hx, if_pos t1, wr _ (by omega) (by omega)]
    · rw [if_neg hx, if_neg hx]
      exact ih k (j + 1) (by omega) (by omega) (by omega)
theorem sgr_eq (k : Nat) (l : List Int) (a b : Int) (q : List Bool) (hl : l.length ≤ 1048576) (hk : l.length + 10 < k) : spec_Grant.f k l a b q = some (gr_ l a b q) := by
  obtain ⟨k, rfl⟩ : ∃ m, k = m + 2 := ⟨k - 2, by omega⟩
  unfold spec_Grant.f spec_l18Copy.f
  simp only [Option.bind_some, List.length_nil, List.nil_append]
  rw [if_pos (by omega), sarb_eq _ _ _ _ hl (by omega)]
  simp only [Option.bind_some, decide_eq_true_eq]
  by_cases h : arb_ l a b
  · rw [if_pos h]
    by_cases hq : q.length = l.length
    · have hh := h
      obtain ⟨h1, h2, h3, h4⟩ := h
      have hb := h2 _ (rd_mem l a (by omega) (by omega))
      unfold gr_
      rw [if_pos ⟨hh, hq⟩]
      simp only [spec_Grant.j0]
      rw [if_neg (by simp [hq]), if_pos (by omega), if_pos (by omega)]
      have hL := sgl_eq l a b q hh hq l.length k 1 (by omega) (by omega) (by omega)
      by_cases hx : rdOf false q a = true
      · rw [if_pos hx]
        simp only [spec_Grant.j1, decide_eq_true_eq]
        by_cases hp : b > 0
        · rw [if_pos hp, if_pos ⟨hx, hp⟩, wr (b - 1) (by omega) (by omega)]
        · rw [if_neg hp, if_neg (fun h => hp h.2), hL]
      · rw [if_neg hx]
        simp only [spec_Grant.j1]
        rw [if_neg (by simp), if_neg (fun h => hx h.1), hL]
    · unfold gr_
      rw [if_neg (fun h => hq h.2)]
      simp only [spec_Grant.j0]
      rw [if_pos (by simp; omega)]
  · rw [if_neg h]
    unfold gr_
    rw [if_neg (fun e => h e.1)]
    simp only [spec_Grant.j0]
    rw [if_pos trivial]


theorem toBoolS_eq (k : Nat) (l : List Bool) (hl : l.length ≤ 1048576) (hk : l.length < k) : laws_toBoolS.f k l = some l := by
  unfold laws_toBoolS.f
  rw [if_pos (by omega), if_pos (by omega)]
  have h := copy_loop laws_toBoolS.l0 (fun x => x) l hl (fun k x3 i h h3 => by
      simp only [laws_toBoolS.l0]
      rw [if_pos (by omega), if_pos (by omega), if_pos (by omega), rdOf_nat _ _ _ h, wr _ (by omega) (by omega)]
      rfl) (fun k x3 h3 => by
      simp only [laws_toBoolS.l0]
      rw [if_neg (by omega)]) l.length k (List.replicate ((l.length : Int)).toNat false) 0 (by omega) hk (by simp) (fun j hj => by omega)
  simpa using h
theorem eqBoolS_eq (k : Nat) (a b : List Bool) (hl : a.length ≤ 1048576) (hk : a.length < k) : laws_eqBoolS.f k a b = some (decide (a = b)) := by
  unfold laws_eqBoolS.f
  by_cases e : b.length = a.length
  · rw [if_pos (by omega)]
    have h := eq_loop laws_eqBoolS.l0 a b hl e (fun k i h hx => by
        simp only [laws_eqBoolS.l0]
        rw [if_pos (by omega), if_pos (by omega), if_pos (by omega), rdOf_nat _ _ _ h, rdOf_nat _ _ _ (by omega), if_pos (by simpa using hx)]) (fun k i h hx => by
        simp only [laws_eqBoolS.l0]
        rw [if_pos (by omega), if_pos (by omega), if_pos (by omega), rdOf_nat _ _ _ h, rdOf_nat _ _ _ (by omega), if_neg (by simp [hx]), wr _ (by omega) (by omega)]
        rfl) (fun k => by
        simp only [laws_eqBoolS.l0]
        rw [if_neg (by omega)]) a.length k 0 (by omega) hk
    simpa using h
  · rw [if_neg (by omega)]
    congr 1
    symm
    rw [decide_eq_false_iff_not]
    rintro rfl
    exact e rfl
/-- Marking a row of bools counts on, whatever the row holds after. -/
theorem markBool_eq (k : Nat) (l : List Bool) (m : Int) (hl : l.length ≤ 1048576) (hk : l.length < k) (h0 : 0 ≤ m) (h1 : m ≤ 1048577) : ∃ r, laws_markBoolS.f k l m = some (m + l.length, r) ∧ r.length = l.length := by
  have hL : ∀ (d k : Nat) (x0 : List Bool) (i : Nat), x0.length = l.length → i + d = l.length → d < k → ∃ r, laws_markBoolS.l0 k x0 (m + i) (i : Int) = some (m + l.length, r) ∧ r.length = l.length := by
    intro d
    induction d with
    | zero =>
      intro k x0 i h3 hi hk
      obtain ⟨k, rfl⟩ : ∃ m, k = m + 1 := ⟨k - 1, by omega⟩
      simp only [laws_markBoolS.l0]
      rw [if_neg (by omega)]
      exact ⟨x0, by rw [show i = l.length by omega], h3⟩
    | succ d ih =>
      intro k x0 i h3 hi hk
      obtain ⟨k, rfl⟩ : ∃ m, k = m + 1 := ⟨k - 1, by omega⟩
      simp only [laws_markBoolS.l0]
      rw [if_pos (by omega), if_pos (by omega), wr (m + i + 1) (by omega) (by omega), wr ((i : Int) + 1) (by omega) (by omega), show m + (i : Int) + 1 = m + ((i + 1 : Nat) : Int) by omega]
      exact ih k _ (i + 1) (by simp [h3]) (by omega) (by omega)
  have h := hL l.length k l 0 rfl (by omega) hk
  unfold laws_markBoolS.f
  simpa using h

theorem markIntS_eq (k : Nat) (l : List Int) (m : Int) (hl : l.length ≤ 1048576) (hk : l.length < k) (h0 : 0 ≤ m) (h1 : m ≤ 4194304) : laws_markIntS.f k l m = some (m + l.length, marks m l.length) := by
  have h := mark_loop laws_markIntS.l0 l.length m (fun k x0 i h3 h => by
      simp only [laws_markIntS.l0]
      rw [if_pos (by omega), if_pos (by omega), wr (m + i + 1) (by omega) (by omega), wr ((i : Int) + 1) (by omega) (by omega), show m + (i : Int) + 1 = m + ((i + 1 : Nat) : Int) by omega]
      rfl) (fun k x0 h3 => by
      simp only [laws_markIntS.l0]
      rw [if_neg (by omega)]) l.length k l 0 rfl (by omega) hk (fun j hj => by omega)
  unfold laws_markIntS.f
  simpa using h

theorem heldIntS_eq (k n : Nat) (m : Int) (hl : n ≤ 1048576) (hk : n < k) (h0 : 0 ≤ m) (h1 : m ≤ 4194304) : laws_heldIntS.f k (marks m n) m = some (m + n) := by
  have h := held_loop laws_heldIntS.l0 n m (fun k i h => by
      have hg : rd (marks m n) (i : Int) = m + i := by
        rw [rd_nat _ _ (by rw [marks_length]; exact h)]
        have := marks_get m n i h
        rw [List.getElem?_eq_getElem (by rw [marks_length]; exact h)] at this
        injection this
      simp only [laws_heldIntS.l0, marks_length]
      rw [if_pos (by omega), if_pos (by omega), hg, if_pos rfl, wr (m + i + 1) (by omega) (by omega), wr ((i : Int) + 1) (by omega) (by omega), show m + (i : Int) + 1 = m + ((i + 1 : Nat) : Int) by omega]
      rfl) (fun k => by
      simp only [laws_heldIntS.l0, marks_length]
      rw [if_neg (by omega)]) n k 0 (by omega) hk
  unfold laws_heldIntS.f
  simpa using h

/-- A grant leaves the weights, and after one that was given the arbiter is right and the next is given too. -/
theorem gr_w (l : List Int) (a b : Int) (q : List Bool) : (gr_ l a b q).1 = l := by
  unfold gr_
  by_cases h : arb_ l a b ∧ q.length = l.length
  · rw [if_pos h]
    by_cases hx : rdOf false q a = true ∧ 0 < b
    · rw [if_pos hx]
    · rw [if_neg hx]
      split <;> rfl
  · rw [if_neg h]
theorem gr_ok (l : List Int) (a b : Int) (q : List Bool) (h : 0 ≤ (gr_ l a b q).2.2.2) : arb_ l (gr_ l a b q).2.1 (gr_ l a b q).2.2.1 ∧ q.length = l.length ∧ (gr_ l a b q).2.1 = (gr_ l a b q).2.2.2 ∧ rdOf false q (gr_ l a b q).2.2.2 = true ∧ (gr_ l a b q).2.2.2 < l.length := by
  unfold gr_ at h ⊢
  by_cases hc : arb_ l a b ∧ q.length = l.length
  · rw [if_pos hc] at h ⊢
    obtain ⟨⟨h1, h2, h3, h4⟩, hq⟩ := hc
    by_cases hx : rdOf false q a = true ∧ 0 < b
    · rw [if_pos hx] at h ⊢
      exact ⟨⟨h1, h2, h3, by show 0 ≤ b - 1 ∧ b - 1 ≤ rd l a; omega⟩, hq, rfl, hx.1, by show a < _; omega⟩
    · rw [if_neg hx] at h ⊢
      cases e : nx_ q a l.length l.length 1 with
      | none => rw [e] at h; exact absurd h (by simp)
      | some p =>
        obtain ⟨e1, e2, e3⟩ := nx_some q a _ p (by omega) (by omega) _ _ (by omega) e
        have hm := h2 _ (rd_mem l p e2 e3)
        exact ⟨⟨h1, h2, by show 0 ≤ p ∧ p ≤ _; omega, by show 0 ≤ rd l p - 1 ∧ rd l p - 1 ≤ rd l p; omega⟩, hq, rfl, e1, e3⟩
  · rw [if_neg hc] at h; exact absurd h (by simp)
theorem gr_go (l : List Int) (a b : Int) (q : List Bool) (h : arb_ l a b) (hq : q.length = l.length) (p : Int) (p0 : 0 ≤ p) (p1 : p < l.length) (hp : rdOf false q p = true) : 0 ≤ (gr_ l a b q).2.2.2 := by
  unfold gr_
  rw [if_pos ⟨h, hq⟩]
  obtain ⟨h1, h2, h3, h4⟩ := h
  by_cases hx : rdOf false q a = true ∧ 0 < b
  · rw [if_pos hx]; exact h3.1
  · rw [if_neg hx]
    cases e : nx_ q a l.length l.length 1 with
    | none =>
      have := nx_all q a l.length (by omega) (by omega) (by omega) (by simpa using e) p p0 p1
      rw [this] at hp; cases hp
    | some p =>
      obtain ⟨e1, e2, e3⟩ := nx_some q a _ p (by omega) (by omega) _ _ (by omega) e
      exact e2

theorem markArb_eq (k : Nat) (l : List Int) (a b m : Int) (hl : l.length ≤ 1048576) (hk : l.length < k) (h0 : 0 ≤ m) (h1 : m ≤ 4194304) : laws_markArbiter.f k l a b m = some (m + l.length, marks m l.length) := by
  unfold laws_markArbiter.f; rw [markIntS_eq k l m hl hk h0 h1]; rfl

/-- As Option.bind_some, but not by rfl: rewriting with it below an 'if' with a great number keeps the kernel from unfolding that number. -/
theorem obs {α β : Type} (a : α) (f : α → Option β) : (some a).bind f = f a := by rw [Option.bind_some]

theorem heldArb_eq (k n : Nat) (a b m : Int) (hl : n ≤ 1048576) (hk : n < k) (h0 : 0 ≤ m) (h1 : m ≤ 4194304) : laws_heldArbiter.f k (marks m n) a b m = some (m + n) := by
  unfold laws_heldArbiter.f
  rw [heldIntS_eq k n m hl hk h0 h1, Option.bind_some, if_neg (by omega)]
theorem grant_tail (k : Nat) (l : List Int) (a b : Int) (q : List Bool) (c d P : Int) (hl : l.length ≤ 1048576) (hq : q.length ≤ 1048576) (hk : 1500000 < k) (hg : gr_ l a b q = (l, c, d, P)) (p9 : List Bool) (hp9 : p9 = q) :
    laws_FnExactGrant.j0 (k + 3) q P p9 P false l a b l c d l a b l c d = some true := by
  subst hp9
  have e1 := toArb_eq (k + 2) l a b hl (by omega)
  have e2 := eqArb_eq (k + 2) l a b l a b hl (by omega)
  have e3 := toBoolS_eq (k + 2) p9 hq (by omega)
  have e4 := eqBoolS_eq (k + 2) p9 p9 hq (by omega)
  have e5 := markArb_eq (k + 2) l a b 1 hl (by omega) (by omega) (by omega)
  obtain ⟨r, e6, _⟩ := markBool_eq (k + 2) p9 (1 + l.length) hq (by omega) (by omega) (by omega)
  have e7 := eqArb_eq (k + 2) l c d l c d hl (by omega)
  have f1 := markArb_eq (k + 1) l c d 1 hl (by omega) (by omega) (by omega)
  have f2 := heldArb_eq (k + 1) l.length c d 1 hl (by omega) (by omega) (by omega)
  have f3 := toArb_eq (k + 1) l a b hl (by omega)
  have f4 := toBoolS_eq (k + 1) p9 hq (by omega)
  have f5 := igr_eq (k + 1) l a b p9 hl (by omega)
  have f6 := eqArb_eq (k + 1) l c d l c d hl (by omega)
  have g1 := heldArb_eq k l.length c d 1 hl (by omega) (by omega) (by omega)
  have n1 : ¬ (1 + (l.length : Int) + (p9.length : Int) < 0) := by omega
  have n2 : ¬ (1 + (l.length : Int) < 0) := by omega
  show laws_FnExactGrant.j0 ((k + 2) + 1) _ _ _ _ _ _ _ _ _ _ _ _ _ _ _ _ _ = _
  simp only [laws_FnExactGrant.j0]
  rw [if_neg (by simp), e1, obs, e2, obs, if_pos (by simp), e3, obs, e4, obs, if_pos (by simp), e5, obs, e6, obs, if_neg n1, e7, obs, if_pos (by simp)]
  show laws_FnExactGrant.j1 ((k + 1) + 1) _ _ _ _ _ _ _ _ _ _ _ _ = _
  simp only [laws_FnExactGrant.j1]
  rw [if_neg (by simp), f1, obs, f2, obs, if_neg n2, if_pos rfl, f3, obs, f4, obs, f5, hg, obs, f6, obs, if_pos (by simp)]
  simp only [laws_FnExactGrant.j2]
  rw [if_neg (by simp), g1, obs, if_neg n2, if_pos rfl]
theorem FnExactGrant (l0_0 : List Int) (a0_1 : Int) (a0_2 : Int) (l1 : List Bool)
    (h0 : l0_0.length ≤ 9223372036854775807) (h1 : (∀ y ∈ l0_0, (Lit.int .i64 y).wf = true)) (h2 : (Lit.int .i64 a0_1).wf = true) (h3 : (Lit.int .i64 a0_2).wf = true) (h4 : l1.length ≤ 9223372036854775807) :
    ∃ k, laws_FnExactGrant.f k l0_0 a0_1 a0_2 l1 = some true := by
  obtain ⟨K, hK⟩ : ∃ K : Nat, 1500000 < K := ⟨1500001, by omega⟩
  refine ⟨K + 3, ?_⟩
  unfold laws_FnExactGrant.f
  by_cases hb1 : (l1.length : Int) > 1048576
  · rw [if_pos hb1]
  · rw [if_neg hb1, szArb_eq _ _ _ _ h0 (by omega) (by omega), obs]
    by_cases hb : (1048576 : Int) < (l0_0.length : Int)
    · rw [if_pos hb, if_pos (by omega)]
    · have hl : l0_0.length ≤ 1048576 := by omega
      have hl1 : l1.length ≤ 1048576 := by omega
      have e1 := toArb_eq (K + 3) l0_0 a0_1 a0_2 hl (by omega)
      have e2 := toBoolS_eq (K + 3) l1 hl1 (by omega)
      have e3 := sgr_eq (K + 3) l0_0 a0_1 a0_2 l1 hl (by omega)
      have e4 := igr_eq (K + 3) l0_0 a0_1 a0_2 l1 hl (by omega)
      have hg : gr_ l0_0 a0_1 a0_2 l1 = (l0_0, (gr_ l0_0 a0_1 a0_2 l1).2.1, (gr_ l0_0 a0_1 a0_2 l1).2.2.1, (gr_ l0_0 a0_1 a0_2 l1).2.2.2) := by
        exact Prod.ext (gr_w l0_0 a0_1 a0_2 l1) rfl
      obtain ⟨c, d, P, hg'⟩ : ∃ c d P, gr_ l0_0 a0_1 a0_2 l1 = (l0_0, c, d, P) := ⟨_, _, _, hg⟩
      have e5 := eqArb_eq (K + 3) l0_0 c d l0_0 c d hl (by omega)
      rw [hg'] at e3 e4
      rw [if_neg hb, if_neg (by omega), e1, obs, e2, obs, e3, obs, obs, obs, e4, obs, e5, obs, if_pos (by simp)]
      rw [show (P != P) = false by simp]
      exact grant_tail K l0_0 a0_1 a0_2 l1 c d P hl hl1 hK hg' l1 rfl

end Go.Proofs.Ytphlfmmhpmhjfaa.Pure
