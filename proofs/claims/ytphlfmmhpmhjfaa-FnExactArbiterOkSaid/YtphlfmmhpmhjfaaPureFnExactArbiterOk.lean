/- Of every arbiter: the program's ArbiterOk and the reference's answer alike, and the copy reads as before. -/
import Derived.Test.YtphlfmmhpmhjfaaPFnExactArbiterOkx4
import Derived.Test.YtphlfmmhpmhjfaaCom
namespace Go.Proofs.Ytphlfmmhpmhjfaa.Pure
open Go.RowKit Go.Proofs.Ytphlfmmhpmhjfaa.PFnExactArbiterOk Go.Proofs.YtphlfmmhpmhjfaaW.PrintWords Go.Proofs.YtphlfmmhpmhjfaaW.PrintLast Go.Proofs.YtphlfmmhpmhjfaaW.PrintMore Go.Proofs.Ytphlfmmhpmhjfaa.Com
set_option linter.unusedVariables false
set_option linter.unusedSimpArgs false

theorem within_eq (a b c : Int) : impl_within.f a b c = some (decide (b ≤ a ∧ a ≤ c)) := by
  unfold impl_within.f; by_cases h : a ≥ b <;> simp [h]

theorem l01In_eq (a b c : Int) : spec_l01In.f a b c = some (decide (b ≤ a ∧ a ≤ c)) := by
  unfold spec_l01In.f; by_cases h : a ≥ b <;> simp [h]

theorem toIntS_eq (k : Nat) (l : List Int) (hl : l.length ≤ 1048576) (hk : l.length < k) : laws_toIntS.f k l = some l := by
  unfold laws_toIntS.f
  rw [if_pos (by omega), if_pos (by omega)]
  have h := copy_loop laws_toIntS.l0 (fun x => x) l hl (fun k x3 i h h3 => by
      simp only [laws_toIntS.l0]
      rw [if_pos (by omega), if_pos (by omega), if_pos (by omega), rd_nat _ _ h, wr _ (by omega) (by omega)]
      rfl) (fun k x3 h3 => by
      simp only [laws_toIntS.l0]
      rw [if_neg (by omega)]) l.length k (List.replicate ((l.length : Int)).toNat 0) 0 (by omega) hk (by simp) (fun j hj => by omega)
  simpa using h

theorem eqIntS_eq (k : Nat) (a b : List Int) (hl : a.length ≤ 1048576) (hk : a.length < k) : laws_eqIntS.f k a b = some (decide (a = b)) := by
  unfold laws_eqIntS.f
  by_cases e : b.length = a.length
  · rw [if_pos (by omega)]
    have h := eq_loop laws_eqIntS.l0 a b hl e (fun k i h hx => by
        simp only [laws_eqIntS.l0]
        rw [if_pos (by omega), if_pos (by omega), if_pos (by omega), rd_nat _ _ h, rd_nat _ _ (by omega), if_neg hx]) (fun k i h hx => by
        simp only [laws_eqIntS.l0]
        rw [if_pos (by omega), if_pos (by omega), if_pos (by omega), rd_nat _ _ h, rd_nat _ _ (by omega), if_pos hx, wr _ (by omega) (by omega)]
        rfl) (fun k => by
        simp only [laws_eqIntS.l0]
        rw [if_neg (by omega)]) a.length k 0 (by omega) hk
    simpa using h
  · rw [if_neg (by omega)]
    congr 1
    symm
    rw [decide_eq_false_iff_not]
    rintro rfl
    exact e rfl

/-- Weights are 1 to 4 of 1 to 9, the place and what is left fit. -/
def arb_ (l : List Int) (a b : Int) : Prop := (1 ≤ l.length ∧ l.length ≤ 4) ∧ (∀ x ∈ l, 1 ≤ x ∧ x ≤ 9) ∧ (0 ≤ a ∧ a ≤ (l.length : Int) - 1) ∧ (0 ≤ b ∧ b ≤ rd l a)
instance (l : List Int) (a b : Int) : Decidable (arb_ l a b) := by unfold arb_; infer_instance
theorem sarb_eq (k : Nat) (l : List Int) (a b : Int) (hl : l.length ≤ 1048576) (hk : l.length < k) : spec_ArbiterOk.f k l a b = some (decide (arb_ l a b)) := by
  have h := scan_loop (fun k (_ : Unit) i => spec_ArbiterOk.l0 k i l a b) l (fun _ x => if 1 ≤ x ∧ x ≤ 9 then Sum.inl () else Sum.inr false)
    (fun _ => decide ((1 ≤ (l.length : Int) ∧ (l.length : Int) ≤ 4) ∧ (0 ≤ a ∧ a ≤ (l.length : Int) - 1) ∧ (0 ≤ b ∧ b ≤ rd l a)))
    (fun k s i h s' e => by
      have hx : 1 ≤ l[i] ∧ l[i] ≤ 9 := by
        by_cases hx : 1 ≤ l[i] ∧ l[i] ≤ 9
        · exact hx
        · simp [hx] at e
      simp only [spec_ArbiterOk.l0]
      rw [if_pos (by omega), if_pos (by omega), l01In_eq, Option.bind_some, rd_nat _ _ h, if_pos (by simp [hx]), wr ((i : Int) + 1) (by omega) (by omega)]
      rfl)
    (fun k s i h r e => by
      have hx : ¬ (1 ≤ l[i] ∧ l[i] ≤ 9) := by
        intro hx; simp [hx] at e
      rw [if_neg hx] at e
      injection e with e
      subst e
      simp only [spec_ArbiterOk.l0]
      rw [if_pos (by omega), if_pos (by omega), l01In_eq, Option.bind_some, rd_nat _ _ h, if_neg (by simp only [decide_eq_true_eq]; exact hx)])
    (fun k s => by
      simp only [spec_ArbiterOk.l0]
      rw [if_neg (by omega)]
      simp only [l01In_eq, Option.bind_some, decide_eq_true_eq, wr ((l.length : Int) - 1) (by omega) (by omega)]
      by_cases h1 : 1 ≤ (l.length : Int) ∧ (l.length : Int) ≤ 4
      · rw [if_pos h1]
        by_cases h2 : 0 ≤ a ∧ a ≤ (l.length : Int) - 1
        · rw [if_pos h2, if_pos (by omega), if_pos (by omega)]
          simp [h1, h2]
        · rw [if_neg h2]; simp only [h2, false_and, and_false, decide_false]
      · rw [if_neg h1]; simp only [h1, false_and, decide_false]) l.length k () 0 (by omega) hk
  have e : ∀ xs : List Int, ∀ f : Unit → Bool, runL (fun _ x => if 1 ≤ x ∧ x ≤ 9 then Sum.inl () else Sum.inr false) f () xs = (decide (∀ x ∈ xs, 1 ≤ x ∧ x ≤ 9) && f ()) := by
    intro xs f
    induction xs with
    | nil => simp [runL]
    | cons x xs ih =>
      unfold runL
      by_cases hx : 1 ≤ x ∧ x ≤ 9
      · rw [if_pos hx]; simp only [ih]; simp [hx]
      · rw [if_neg hx]; simp only [List.mem_cons, forall_eq_or_imp, hx, false_and, decide_false, Bool.false_and]
  rw [e] at h
  unfold spec_ArbiterOk.f
  have h' : spec_ArbiterOk.l0 k ((0 : Nat) : Int) l a b = _ := h
  rw [show (0 : Int) = ((0 : Nat) : Int) from rfl, h']
  congr 1
  rw [Bool.eq_iff_iff]
  simp only [Bool.and_eq_true, decide_eq_true_eq, List.drop_zero]
  unfold arb_
  constructor
  · rintro ⟨h1, h2, h3⟩; exact ⟨by omega, h1, h3⟩
  · rintro ⟨h2, h1, h3⟩; exact ⟨h1, by omega, h3⟩
theorem iarb_eq (l : List Int) (a b : Int) (hl : l.length ≤ 1048576) : impl_ArbiterOk.f l a b = some (decide (arb_ l a b)) := by
  have hv : ∀ x, (impl_ArbiterOk_1.f x).getD false = !decide (1 ≤ x ∧ x ≤ 9) := by
    intro x; unfold impl_ArbiterOk_1.f; rw [within_eq]; rfl
  have hany : slices_ContainsFunc_int_int_impl_ArbiterOk_1.f l = some (!decide (∀ x ∈ l, 1 ≤ x ∧ x ≤ 9)) := by
    unfold slices_ContainsFunc_int_int_impl_ArbiterOk_1.f
    congr 1
    simp only [hv]
    rw [Bool.eq_iff_iff, List.any_eq_true, Bool.not_eq_true', decide_eq_false_iff_not]
    simp only [Bool.not_eq_true', decide_eq_false_iff_not, Classical.not_forall, exists_prop]
  unfold impl_ArbiterOk.f
  rw [hany]
  simp only [within_eq, Option.bind_some, decide_eq_true_eq, wr ((l.length : Int) - 1) (by omega) (by omega)]
  by_cases h1 : 1 ≤ (l.length : Int) ∧ (l.length : Int) ≤ 4
  · rw [if_pos h1]
    by_cases h4 : ∀ x ∈ l, 1 ≤ x ∧ x ≤ 9
    · rw [if_neg (by rw [decide_eq_true h4]; simp)]
      by_cases h2 : 0 ≤ a ∧ a ≤ (l.length : Int) - 1
      · rw [if_pos h2, if_pos (by omega), if_pos (by omega)]
        congr 1
        rw [Bool.eq_iff_iff, decide_eq_true_eq, decide_eq_true_eq]
        unfold arb_
        exact ⟨fun h => ⟨by omega, h4, h2, h⟩, fun h => h.2.2.2⟩
      · rw [if_neg h2]
        congr 1; symm; rw [decide_eq_false_iff_not]; intro h; exact h2 h.2.2.1
    · rw [if_pos (by rw [decide_eq_false h4]; rfl)]
      congr 1; symm; rw [decide_eq_false_iff_not]; intro h; exact h4 h.2.1
  · rw [if_neg h1]
    congr 1; symm; rw [decide_eq_false_iff_not]; intro h; exact h1 (by have := h.1; omega)
theorem toArb_eq (k : Nat) (l : List Int) (a b : Int) (hl : l.length ≤ 1048576) (hk : l.length < k) : laws_toArbiter.f k l a b = some (l, a, b) := by
  unfold laws_toArbiter.f; rw [toIntS_eq k l hl hk]; rfl
theorem eqArb_eq (k : Nat) (l : List Int) (a b : Int) (m : List Int) (c d : Int) (hl : l.length ≤ 1048576) (hk : l.length < k) : laws_eqArbiter.f k l a b m c d = some (decide (l = m ∧ a = c ∧ b = d)) := by
  unfold laws_eqArbiter.f; rw [eqIntS_eq k l m hl hk]
  by_cases h1 : l = m <;> by_cases h2 : a = c <;> by_cases h3 : b = d <;> simp [h1, h2, h3]
theorem szInt_eq (l : List Int) (n : Int) (hl : l.length ≤ 9223372036854775807) (h1 : 0 ≤ n) (h2 : n ≤ 1048576) : laws_szIntS.f l n = some (if n < (l.length : Int) then -1 else n - l.length) := by
  unfold laws_szIntS.f
  rw [wr (n - (l.length : Int)) (by omega) (by omega)]
  by_cases h : n < (l.length : Int)
  · rw [if_pos (by omega), if_pos h]
  · rw [if_neg (by omega), if_neg h]
theorem szArb_eq (l : List Int) (a b : Int) (n : Int) (hl : l.length ≤ 9223372036854775807) (h1 : 0 ≤ n) (h2 : n ≤ 1048576) : laws_szArbiter.f l a b n = some (if n < (l.length : Int) then -1 else n - l.length) := by
  unfold laws_szArbiter.f
  rw [szInt_eq l n hl h1 h2]
  simp only [Option.bind_some]
  by_cases h : n < (l.length : Int)
  · simp [h]
  · rw [if_neg h, if_neg (by omega)]

theorem FnExactArbiterOk (l0_0 : List Int) (a0_1 : Int) (a0_2 : Int)
    (h0 : l0_0.length ≤ 9223372036854775807) (h1 : (∀ y ∈ l0_0, (Lit.int .i64 y).wf = true)) (h2 : (Lit.int .i64 a0_1).wf = true) (h3 : (Lit.int .i64 a0_2).wf = true) :
    ∃ k, laws_FnExactArbiterOk.f k l0_0 a0_1 a0_2 = some true := by
  refine ⟨1048577, ?_⟩
  unfold laws_FnExactArbiterOk.f
  rw [szArb_eq _ _ _ _ h0 (by omega) (by omega)]
  by_cases hb : (1048576 : Int) < (l0_0.length : Int)
  · simp [hb]
  · have hl : l0_0.length ≤ 1048576 := by omega
    simp only [if_neg hb, Option.bind_some]
    rw [if_neg (by omega)]
    simp only [toArb_eq 1048577 l0_0 a0_1 a0_2 hl (by omega), Option.bind_some, sarb_eq 1048577 l0_0 _ _ hl (by omega), iarb_eq l0_0 _ _ hl, eqArb_eq 1048577 l0_0 _ _ _ _ _ hl (by omega)]
    simp

end Go.Proofs.Ytphlfmmhpmhjfaa.Pure
