/- Of every row of weights: the program's NewArbiter and the reference's answer alike. -/
import Derived.Test.YtphlfmmhpmhjfaaPFnExactNewArbiterx6
import Derived.Test.YtphlfmmhpmhjfaaCom
namespace Go.Proofs.Ytphlfmmhpmhjfaa.Pure
open Go.RowKit Go.Proofs.Ytphlfmmhpmhjfaa.PFnExactNewArbiter Go.Proofs.YtphlfmmhpmhjfaaW.PrintWords Go.Proofs.YtphlfmmhpmhjfaaW.PrintLast Go.Proofs.YtphlfmmhpmhjfaaW.PrintMore Go.Proofs.Ytphlfmmhpmhjfaa.Com
set_option linter.unusedVariables false
set_option linter.unusedSimpArgs false

theorem within_eq (a b c : Int) : impl_within.f a b c = some (decide (b ≤ a ∧ a ≤ c)) := by
  unfold impl_within.f; by_cases h : a ≥ b <;> simp [h]

theorem l01In_eq (a b c : Int) : spec_l01In.f a b c = some (decide (b ≤ a ∧ a ≤ c)) := by
  unfold spec_l01In.f; by_cases h : a ≥ b <;> simp [h]

theorem toIntS_eq (k : Nat) (l : List Int) (hl : l.length ≤ 1048576) (hk : l.length < k) : laws_toIntS.f k l = some l := by
  unfold laws_toIntS.f
  rw [if_pos (by omega), if_pos (by omega)]
  have h := copy_loop laws_toIntS.l0 (fun x => x) l hl (fun k x3 i h h3 => by
      simp only [laws_toIntS.l0]
      rw [if_pos (by omega), if_pos (by omega), if_pos (by omega), rd_nat _ _ h, wr _ (by omega) (by omega)]
      rfl) (fun k x3 h3 => by
      simp only [laws_toIntS.l0]
      rw [if_neg (by omega)]) l.length k (List.replicate ((l.length : Int)).toNat 0) 0 (by omega) hk (by simp) (fun j hj => by omega)
  simpa using h

theorem eqIntS_eq (k : Nat) (a b : List Int) (hl : a.length ≤ 1048576) (hk : a.length < k) : laws_eqIntS.f k a b = some (decide (a = b)) := by
  unfold laws_eqIntS.f
  by_cases e : b.length = a.length
  · rw [if_pos (by omega)]
    have h := eq_loop laws_eqIntS.l0 a b hl e (fun k i h hx => by
        simp only [laws_eqIntS.l0]
        rw [if_pos (by omega), if_pos (by omega), if_pos (by omega), rd_nat _ _ h, rd_nat _ _ (by omega), if_neg hx]) (fun k i h hx => by
        simp only [laws_eqIntS.l0]
        rw [if_pos (by omega), if_pos (by omega), if_pos (by omega), rd_nat _ _ h, rd_nat _ _ (by omega), if_pos hx, wr _ (by omega) (by omega)]
        rfl) (fun k => by
        simp only [laws_eqIntS.l0]
        rw [if_neg (by omega)]) a.length k 0 (by omega) hk
    simpa using h
  · rw [if_neg (by omega)]
    congr 1
    symm
    rw [decide_eq_false_iff_not]
    rintro rfl
    exact e rfl

/-- Weights are 1 to 4 of 1 to 9, the place and what is left fit. -/
def arb_ (l : List Int) (a b : Int) : Prop := (1 ≤ l.length ∧ l.length ≤ 4) ∧ (∀ x ∈ l, 1 ≤ x ∧ x ≤ 9) ∧ (0 ≤ a ∧ a ≤ (l.length : Int) - 1) ∧ (0 ≤ b ∧ b ≤ rd l a)
instance (l : List Int) (a b : Int) : Decidable (arb_ l a b) := by unfold arb_; infer_instance
theorem iarb_eq (l : List Int) (a b : Int) (hl : l.length ≤ 1048576) : impl_ArbiterOk.f l a b = some (decide (arb_ l a b)) := by
  have hv : ∀ x, (impl_ArbiterOk_1.f x).getD false = !decide (1 ≤ x ∧ x ≤ 9) := by
    intro x; unfold impl_ArbiterOk_1.f; rw [within_eq]; rfl
  have hany : slices_ContainsFunc_int_int_impl_ArbiterOk_1.f l = some (!decide (∀ x ∈ l, 1 ≤ x ∧ x ≤ 9)) := by
    unfold slices_ContainsFunc_int_int_impl_ArbiterOk_1.f
    congr 1
    simp only [hv]
    rw [Bool.eq_iff_iff, List.any_eq_true, Bool.not_eq_true', decide_eq_false_iff_not]
    simp only [Bool.not_eq_true', decide_eq_false_iff_not, Classical.not_forall, exists_prop]
  unfold impl_ArbiterOk.f
  rw [hany]
  simp only [within_eq, Option.bind_some, decide_eq_true_eq, wr ((l.length : Int) - 1) (by omega) (by omega)]
  by_cases h1 : 1 ≤ (l.length : Int) ∧ (l.length : Int) ≤ 4
  · rw [if_pos h1]
    by_cases h4 : ∀ x ∈ l, 1 ≤ x ∧ x ≤ 9
    · rw [if_neg (by rw [decide_eq_true h4]; simp)]
      by_cases h2 : 0 ≤ a ∧ a ≤ (l.length : Int) - 1
      · rw [if_pos h2, if_pos (by omega), if_pos (by omega)]
        congr 1
        rw [Bool.eq_iff_iff, decide_eq_true_eq, decide_eq_true_eq]
        unfold arb_
        exact ⟨fun h => ⟨by omega, h4, h2, h⟩, fun h => h.2.2.2⟩
      · rw [if_neg h2]
        congr 1; symm; rw [decide_eq_false_iff_not]; intro h; exact h2 h.2.2.1
    · rw [if_pos (by rw [decide_eq_false h4]; rfl)]
      congr 1; symm; rw [decide_eq_false_iff_not]; intro h; exact h4 h.2.1
  · rw [if_neg h1]
    congr 1; symm; rw [decide_eq_false_iff_not]; intro h; exact h1 (by have := h.1; omega)

theorem sarb_eq (k : Nat) (l : List Int) (a b : Int) (hl : l.length ≤ 1048576) (hk : l.length < k) : spec_ArbiterOk.f k l a b = some (decide (arb_ l a b)) := by
  have h := scan_loop (fun k (_ : Unit) i => spec_ArbiterOk.l0 k i l a b) l (fun _ x => if 1 ≤ x ∧ x ≤ 9 then Sum.inl () else Sum.inr false)
    (fun _ => decide ((1 ≤ (l.length : Int) ∧ (l.length : Int) ≤ 4) ∧ (0 ≤ a ∧ a ≤ (l.length : Int) - 1) ∧ (0 ≤ b ∧ b ≤ rd l a)))
    (fun k s i h s' e => by
      have hx : 1 ≤ l[i] ∧ l[i] ≤ 9 := by
        by_cases hx : 1 ≤ l[i] ∧ l[i] ≤ 9
        · exact hx
        · simp [hx] at e
      simp only [spec_ArbiterOk.l0]
      rw [if_pos (by omega), if_pos (by omega), l01In_eq, Option.bind_some, rd_nat _ _ h, if_pos (by simp [hx]), wr ((i : Int) + 1) (by omega) (by omega)]
      rfl)
    (fun k s i h r e => by
      have hx : ¬ (1 ≤ l[i] ∧ l[i] ≤ 9) := by
        intro hx; simp [hx] at e
      rw [if_neg hx] at e
      injection e with e
      subst e
      simp only [spec_ArbiterOk.l0]
      rw [if_pos (by omega), if_pos (by omega), l01In_eq, Option.bind_some, rd_nat _ _ h, if_neg (by simp only [decide_eq_true_eq]; exact hx)])
    (fun k s => by
      simp only [spec_ArbiterOk.l0]
      rw [if_neg (by omega)]
      simp only [l01In_eq, Option.bind_some, decide_eq_true_eq, wr ((l.length : Int) - 1) (by omega) (by omega)]
      by_cases h1 : 1 ≤ (l.length : Int) ∧ (l.length : Int) ≤ 4
      · rw [if_pos h1]
        by_cases h2 : 0 ≤ a ∧ a ≤ (l.length : Int) - 1
        · rw [if_pos h2, if_pos (by omega), if_pos (by omega)]
          simp [h1, h2]
        · rw [if_neg h2]; simp only [h2, false_and, and_false, decide_false]
      · rw [if_neg h1]; simp only [h1, false_and, decide_false]) l.length k () 0 (by omega) hk
  have e : ∀ xs : List Int, ∀ f : Unit → Bool, runL (fun _ x => if 1 ≤ x ∧ x ≤ 9 then Sum.inl () else Sum.inr false) f () xs = (decide (∀ x ∈ xs, 1 ≤ x ∧ x ≤ 9) && f ()) := by
    intro xs f
    induction xs with
    | nil => simp [runL]
    | cons x xs ih =>
      unfold runL
      by_cases hx : 1 ≤ x ∧ x ≤ 9
      · rw [if_pos hx]; simp only [ih]; simp [hx]
      · rw [if_neg hx]; simp only [List.mem_cons, forall_eq_or_imp, hx, false_and, decide_false, Bool.false_and]
  rw [e] at h
  unfold spec_ArbiterOk.f
  have h' : spec_ArbiterOk.l0 k ((0 : Nat) : Int) l a b = _ := h
  rw [show (0 : Int) = ((0 : Nat) : Int) from rfl, h']
  congr 1
  rw [Bool.eq_iff_iff]
  simp only [Bool.and_eq_true, decide_eq_true_eq, List.drop_zero]
  unfold arb_
  constructor
  · rintro ⟨h1, h2, h3⟩; exact ⟨by omega, h1, h3⟩
  · rintro ⟨h2, h1, h3⟩; exact ⟨h1, by omega, h3⟩

theorem eqArb_eq (k : Nat) (l : List Int) (a b : Int) (m : List Int) (c d : Int) (hl : l.length ≤ 1048576) (hk : l.length < k) : laws_eqArbiter.f k l a b m c d = some (decide (l = m ∧ a = c ∧ b = d)) := by
  unfold laws_eqArbiter.f; rw [eqIntS_eq k l m hl hk]
  by_cases h1 : l = m <;> by_cases h2 : a = c <;> by_cases h3 : b = d <;> simp [h1, h2, h3]

theorem rd_mem (l : List Int) (p : Int) (h0 : 0 ≤ p) (h1 : p < (l.length : Int)) : rd l p ∈ l := by
  obtain ⟨m, rfl⟩ : ∃ m : Nat, p = m := ⟨p.toNat, by omega⟩
  rw [rd_nat _ _ (by omega)]; exact List.getElem_mem _

theorem markIntS_eq (k : Nat) (l : List Int) (m : Int) (hl : l.length ≤ 1048576) (hk : l.length < k) (h0 : 0 ≤ m) (h1 : m ≤ 4194304) : laws_markIntS.f k l m = some (m + l.length, marks m l.length) := by
  have h := mark_loop laws_markIntS.l0 l.length m (fun k x0 i h3 h => by
      simp only [laws_markIntS.l0]
      rw [if_pos (by omega), if_pos (by omega), wr (m + i + 1) (by omega) (by omega), wr ((i : Int) + 1) (by omega) (by omega), show m + (i : Int) + 1 = m + ((i + 1 : Nat) : Int) by omega]
      rfl) (fun k x0 h3 => by
      simp only [laws_markIntS.l0]
      rw [if_neg (by omega)]) l.length k l 0 rfl (by omega) hk (fun j hj => by omega)
  unfold laws_markIntS.f
  simpa using h

theorem heldIntS_eq (k n : Nat) (m : Int) (hl : n ≤ 1048576) (hk : n < k) (h0 : 0 ≤ m) (h1 : m ≤ 4194304) : laws_heldIntS.f k (marks m n) m = some (m + n) := by
  have h := held_loop laws_heldIntS.l0 n m (fun k i h => by
      have hg : rd (marks m n) (i : Int) = m + i := by
        rw [rd_nat _ _ (by rw [marks_length]; exact h)]
        have := marks_get m n i h
        rw [List.getElem?_eq_getElem (by rw [marks_length]; exact h)] at this
        injection this
      simp only [laws_heldIntS.l0, marks_length]
      rw [if_pos (by omega), if_pos (by omega), hg, if_pos rfl, wr (m + i + 1) (by omega) (by omega), wr ((i : Int) + 1) (by omega) (by omega), show m + (i : Int) + 1 = m + ((i + 1 : Nat) : Int) by omega]
      rfl) (fun k => by
      simp only [laws_heldIntS.l0, marks_length]
      rw [if_neg (by omega)]) n k 0 (by omega) hk
  unfold laws_heldIntS.f
  simpa using h

theorem markArb_eq (k : Nat) (l : List Int) (a b m : Int) (hl : l.length ≤ 1048576) (hk : l.length < k) (h0 : 0 ≤ m) (h1 : m ≤ 4194304) : laws_markArbiter.f k l a b m = some (m + l.length, marks m l.length) := by
  unfold laws_markArbiter.f; rw [markIntS_eq k l m hl hk h0 h1]; rfl

theorem heldArb_eq (k n : Nat) (a b m : Int) (hl : n ≤ 1048576) (hk : n < k) (h0 : 0 ≤ m) (h1 : m ≤ 4194304) : laws_heldArbiter.f k (marks m n) a b m = some (m + n) := by
  unfold laws_heldArbiter.f
  rw [heldIntS_eq k n m hl hk h0 h1, Option.bind_some, if_neg (by omega)]

/-- As Option.bind_some, but not by rfl: rewriting with it below an 'if' with a great number keeps the kernel from unfolding that number. -/
theorem obs {α β : Type} (a : α) (f : α → Option β) : (some a).bind f = f a := by rw [Option.bind_some]

def new_ (l : List Int) : List Int × Int × Int × Bool := if arb_ l 0 (rd l 0) then (l, 0, rd l 0, true) else ([], 0, 0, false)
theorem inew_eq (l : List Int) (hl : l.length ≤ 1048576) : impl_NewArbiter.f l = some (new_ l) := by
  unfold impl_NewArbiter.f slices_Clone_int_int.f new_
  by_cases h0 : l.length = 0
  · rw [if_pos (show (l.length : Int) = 0 by omega), if_neg (show ¬ arb_ l 0 (rd l 0) from fun h => by have := h.1; omega)]
  · rw [if_neg (show ¬ (l.length : Int) = 0 by omega), if_pos (show l.length ≤ 17592186044416 by omega), obs, if_pos (show (0 : Int) < (l.length : Int) by omega), iarb_eq l 0 (rd l 0) hl, obs]
    by_cases h : arb_ l 0 (rd l 0)
    · rw [decide_eq_true h, if_pos rfl, if_pos h]
    · rw [decide_eq_false h, if_neg (show ¬ arb_ l 0 (rd l 0) from h), if_neg (by simp)]
theorem snew_eq (k : Nat) (l : List Int) (hl : l.length ≤ 1048576) (hk : l.length < k) : spec_NewArbiter.f k l = some (new_ l) := by
  unfold spec_NewArbiter.f new_
  rw [obs, if_pos (show ([] : List Int).length + l.length < 17592186044416 by simp; omega), obs, List.nil_append]
  by_cases h0 : l.length = 0
  · have he : ¬ arb_ l 0 0 := fun h => by have := h.1; omega
    rw [if_neg (show ¬ (l.length : Int) > 0 by omega), sarb_eq k l 0 0 hl hk, obs, decide_eq_false he, if_neg (show ¬ arb_ l 0 (rd l 0) from fun h => by have := h.1; omega), if_neg (by simp)]
  · rw [if_pos (show (l.length : Int) > 0 by omega), if_pos (show (0 : Int) < (l.length : Int) by omega), sarb_eq k l 0 (rd l 0) hl hk, obs]
    by_cases h : arb_ l 0 (rd l 0)
    · rw [decide_eq_true h, if_pos rfl, if_pos h]
    · rw [decide_eq_false h, if_neg (show ¬ arb_ l 0 (rd l 0) from h), if_neg (by simp)]
theorem new_tail (k : Nat) (l m : List Int) (c d : Int) (P : Bool) (hl : l.length ≤ 1048576) (hm : m.length ≤ 1048576) (hk : 1500000 < k) (hg : new_ l = (m, c, d, P)) :
    laws_FnExactNewArbiter.j0 (k + 3) l P l P false m c d m c d = some true := by
  have e1 := toIntS_eq (k + 2) l hl (by omega)
  have e2 := eqIntS_eq (k + 2) l l hl (by omega)
  have e5 := markIntS_eq (k + 2) l 1 hl (by omega) (by omega) (by omega)
  have e7 := eqArb_eq (k + 2) m c d m c d hm (by omega)
  have f1 := markArb_eq (k + 1) m c d 1 hm (by omega) (by omega) (by omega)
  have f2 := heldArb_eq (k + 1) m.length c d 1 hm (by omega) (by omega) (by omega)
  have f3 := toIntS_eq (k + 1) l hl (by omega)
  have f5 := inew_eq l hl
  have f6 := eqArb_eq (k + 1) m c d m c d hm (by omega)
  have g1 := heldArb_eq k m.length c d 1 hm (by omega) (by omega) (by omega)
  have n1 : ¬ (1 + (l.length : Int) < 0) := by omega
  have n2 : ¬ (1 + (m.length : Int) < 0) := by omega
  show laws_FnExactNewArbiter.j0 ((k + 2) + 1) _ _ _ _ _ _ _ _ _ _ _ = _
  simp only [laws_FnExactNewArbiter.j0]
  rw [if_neg (by simp), e1, obs, e2, obs, if_pos (by simp), e5, obs, if_neg n1, e7, obs, if_pos (by simp)]
  show laws_FnExactNewArbiter.j1 ((k + 1) + 1) _ _ _ _ _ _ _ _ _ = _
  simp only [laws_FnExactNewArbiter.j1]
  rw [if_neg (by simp), f1, obs, f2, obs, if_neg n2, if_pos rfl, f3, obs, f5, hg, obs, f6, obs, if_pos (by simp)]
  simp only [laws_FnExactNewArbiter.j2]
  rw [if_neg (by simp), g1, obs, if_neg n2, if_pos rfl]
theorem FnExactNewArbiter : laws_FnExactNewArbiter.Pure := by
  intro l h1 h2 hw
  obtain ⟨K, hK⟩ : ∃ K : Nat, 1500000 < K := ⟨1500001, by omega⟩
  refine ⟨K + 3, ?_⟩
  unfold laws_FnExactNewArbiter.f
  by_cases hb : (l.length : Int) > 1048576
  · rw [if_pos hb]
  · rw [if_neg hb]
    have hl : l.length ≤ 1048576 := by omega
    have e1 := toIntS_eq (K + 3) l hl (by omega)
    have e3 := snew_eq (K + 3) l hl (by omega)
    have e4 := inew_eq l hl
    have hml : (new_ l).1.length ≤ 1048576 := by
      unfold new_
      split
      · exact hl
      · simp
    obtain ⟨m, c, d, P, hg⟩ : ∃ m c d P, new_ l = (m, c, d, P) := ⟨_, _, _, _, rfl⟩
    rw [hg] at e3 e4 hml
    have hml' : m.length ≤ 1048576 := hml
    have e5 := eqArb_eq (K + 3) m c d m c d hml' (by omega)
    rw [e1, obs, e3, obs, obs, e4, obs, e5, obs, if_pos (by simp), show (P != P) = false by simp]
    exact new_tail K l m c d P hl hml' hK hg

end Go.Proofs.Ytphlfmmhpmhjfaa.Pure
