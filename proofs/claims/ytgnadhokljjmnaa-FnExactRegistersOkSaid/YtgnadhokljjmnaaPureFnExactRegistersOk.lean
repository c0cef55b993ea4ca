/- Of every row of registers: the program's RegistersOk and the reference's answer alike. -/
import Derived.Test.YtgnadhokljjmnaaPFnExactRegistersOkx1
import Derived.Test.YtgnadhokljjmnaaCom
namespace Go.Proofs.Ytgnadhokljjmnaa.Pure
open Go.RowKit Go.Proofs.Ytgnadhokljjmnaa.PFnExactRegistersOk Go.Proofs.YtgnadhokljjmnaaW.PrintWords Go.Proofs.YtgnadhokljjmnaaW.PrintLast Go.Proofs.YtgnadhokljjmnaaW.PrintMore Go.Proofs.Ytgnadhokljjmnaa.Com
set_option linter.unusedVariables false
set_option linter.unusedSimpArgs false

theorem within_eq (a b c : Int) : impl_within.f a b c = some (decide (b ≤ a ∧ a ≤ c)) := by
  unfold impl_within.f; by_cases h : a ≥ b <;> simp [h]

theorem l01In_eq (a b c : Int) : spec_l01In.f a b c = some (decide (b ≤ a ∧ a ≤ c)) := by
  unfold spec_l01In.f; by_cases h : a ≥ b <;> simp [h]

theorem toIntS_eq (k : Nat) (l : List Int) (hl : l.length ≤ 1048576) (hk : l.length < k) : laws_toIntS.f k l = some l := by
  unfold laws_toIntS.f
  rw [if_pos (by omega), if_pos (by omega)]
  have h := copy_loop laws_toIntS.l0 (fun x => x) l hl (fun k x3 i h h3 => by
      simp only [laws_toIntS.l0]
      rw [if_pos (by omega), if_pos (by omega), if_pos (by omega), rd_nat _ _ h, wr _ (by omega) (by omega)]
      rfl) (fun k x3 h3 => by
      simp only [laws_toIntS.l0]
      rw [if_neg (by omega)]) l.length k (List.replicate ((l.length : Int)).toNat 0) 0 (by omega) hk (by simp) (fun j hj => by omega)
  simpa using h

theorem eqIntS_eq (k : Nat) (a b : List Int) (hl : a.length ≤ 1048576) (hk : a.length < k) : laws_eqIntS.f k a b = some (decide (a = b)) := by
  unfold laws_eqIntS.f
  by_cases e : b.length = a.length
  · rw [if_pos (by omega)]
    have h := eq_loop laws_eqIntS.l0 a b hl e (fun k i h hx => by
        simp only [laws_eqIntS.l0]
        rw [if_pos (by omega), if_pos (by omega), if_pos (by omega), rd_nat _ _ h, rd_nat _ _ (by omega), if_neg hx]) (fun k i h hx => by
        simp only [laws_eqIntS.l0]
        rw [if_pos (by omega), if_pos (by omega), if_pos (by omega), rd_nat _ _ h, rd_nat _ _ (by omega), if_pos hx, wr _ (by omega) (by omega)]
        rfl) (fun k => by
        simp only [laws_eqIntS.l0]
        rw [if_neg (by omega)]) a.length k 0 (by omega) hk
    simpa using h
  · rw [if_neg (by omega)]
    congr 1
    symm
    rw [decide_eq_false_iff_not]
    rintro rfl
    exact e rfl

def reg_ (l : List Int) : Prop := l.length = 64 ∧ ∀ x ∈ l, 0 ≤ x ∧ x ≤ 65535
instance (l : List Int) : Decidable (reg_ l) := by unfold reg_; infer_instance
theorem sreg_eq (k : Nat) (l : List Int) (hk : 64 < k) : spec_RegistersOk.f k l = some (decide (reg_ l)) := by
  unfold spec_RegistersOk.f
  by_cases h64 : l.length = 64
  · rw [if_pos (by omega)]
    have h := scan_loop (fun k (_ : Unit) i => spec_l04Words.l0 k l i) l (fun _ x => if 0 ≤ x ∧ x ≤ 65535 then Sum.inl () else Sum.inr false) (fun _ => true)
      (fun k s i h s' e => by
        have hx : 0 ≤ l[i] ∧ l[i] ≤ 65535 := by
          by_cases hx : 0 ≤ l[i] ∧ l[i] ≤ 65535
          · exact hx
          · simp [hx] at e
        simp only [spec_l04Words.l0]
        rw [if_pos (by omega), if_pos (by omega), l01In_eq, Option.bind_some, rd_nat _ _ h, if_pos (by simp [hx]), wr ((i : Int) + 1) (by omega) (by omega)]
        rfl)
      (fun k s i h r e => by
        have hx : ¬ (0 ≤ l[i] ∧ l[i] ≤ 65535) := by
          intro hx; simp [hx] at e
        rw [if_neg hx] at e
        injection e with e
        subst e
        simp only [spec_l04Words.l0]
        rw [if_pos (by omega), if_pos (by omega), l01In_eq, Option.bind_some, rd_nat _ _ h, if_neg (by simp only [decide_eq_true_eq]; exact hx)])
      (fun k s => by
        simp only [spec_l04Words.l0]
        rw [if_neg (by omega)]) l.length k () 0 (by omega) (by omega)
    have e : ∀ xs : List Int, runL (fun _ x => if 0 ≤ x ∧ x ≤ 65535 then Sum.inl () else Sum.inr false) (fun _ => true) () xs = decide (∀ x ∈ xs, 0 ≤ x ∧ x ≤ 65535) := by
      intro xs
      induction xs with
      | nil => simp [runL]
      | cons x xs ih =>
        unfold runL
        by_cases hx : 0 ≤ x ∧ x ≤ 65535
        · rw [if_pos hx]; simp only [ih]; simp [hx]
        · rw [if_neg hx]; simp only [List.mem_cons, forall_eq_or_imp, hx, false_and, decide_false]
    rw [e] at h
    have h' : spec_l04Words.f k l = some (decide (∀ x ∈ l, 0 ≤ x ∧ x ≤ 65535)) := h
    rw [h']
    simp only [Option.bind_some]
    congr 1
    rw [Bool.eq_iff_iff, decide_eq_true_eq, decide_eq_true_eq]
    exact ⟨fun h => ⟨h64, h⟩, fun h => h.2⟩
  · rw [if_neg (by omega)]
    congr 1; symm; rw [decide_eq_false_iff_not]; exact fun h => h64 h.1
theorem ireg_eq (l : List Int) : impl_RegistersOk.f l = some (decide (reg_ l)) := by
  have hv : ∀ x, (impl_RegistersOk_1.f x).getD false = !decide (0 ≤ x ∧ x ≤ 65535) := by
    intro x; unfold impl_RegistersOk_1.f impl_isWord.f; rw [within_eq]; rfl
  have hany : slices_ContainsFunc_int_int_impl_RegistersOk_1.f l = some (!decide (∀ x ∈ l, 0 ≤ x ∧ x ≤ 65535)) := by
    unfold slices_ContainsFunc_int_int_impl_RegistersOk_1.f
    congr 1
    simp only [hv]
    rw [Bool.eq_iff_iff, List.any_eq_true, Bool.not_eq_true', decide_eq_false_iff_not]
    simp only [Bool.not_eq_true', decide_eq_false_iff_not, Classical.not_forall, exists_prop]
  unfold impl_RegistersOk.f
  rw [hany]
  by_cases h64 : l.length = 64
  · rw [if_pos (by omega)]
    simp only [Option.bind_some, Bool.not_not]
    congr 1
    rw [Bool.eq_iff_iff, decide_eq_true_eq, decide_eq_true_eq]
    exact ⟨fun h => ⟨h64, h⟩, fun h => h.2⟩
  · rw [if_neg (by omega)]
    congr 1; symm; rw [decide_eq_false_iff_not]; exact fun h => h64 h.1

theorem FnExactRegistersOk : laws_FnExactRegistersOk.Pure := by
  intro l h1 h2 hw
  refine ⟨1048577, ?_⟩
  unfold laws_FnExactRegistersOk.f
  by_cases hb : (l.length : Int) > 1048576
  · rw [if_pos hb]
  · rw [if_neg hb]
    simp only [toIntS_eq 1048577 l (by omega) (by omega), Option.bind_some, sreg_eq 1048577 l (by omega), ireg_eq, eqIntS_eq 1048577 l l (by omega) (by omega), decide_true, if_true]
    simp

end Go.Proofs.Ytgnadhokljjmnaa.Pure
