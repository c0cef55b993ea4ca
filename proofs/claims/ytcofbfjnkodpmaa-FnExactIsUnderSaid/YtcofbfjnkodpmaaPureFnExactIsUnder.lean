/- Of all numbers, nodes and buses: the program's IsUnder and the reference's are one function, and the copies read as before. -/
import Derived.Test.YtcofbfjnkodpmaaPFnExactIsUnderx5
import Derived.Test.YtcofbfjnkodpmaaCom
namespace Go.Proofs.Ytcofbfjnkodpmaa.Pure
open Go.RowKit Go.Proofs.Ytcofbfjnkodpmaa.PFnExactIsUnder Go.Proofs.YtcofbfjnkodpmaaW.PrintWords Go.Proofs.YtcofbfjnkodpmaaW.PrintLast Go.Proofs.YtcofbfjnkodpmaaW.PrintMore Go.Proofs.Ytcofbfjnkodpmaa.Com
set_option linter.unusedVariables false
set_option linter.unusedSimpArgs false

theorem within_eq (a b c : Int) : impl_within.f a b c = some (decide (b ≤ a ∧ a ≤ c)) := by
  unfold impl_within.f; by_cases h : a ≥ b <;> simp [h]

theorem l01In_eq (a b c : Int) : spec_l01In.f a b c = some (decide (b ≤ a ∧ a ≤ c)) := by
  unfold spec_l01In.f; by_cases h : a ≥ b <;> simp [h]

theorem toIntS_eq (k : Nat) (l : List Int) (hl : l.length ≤ 1048576) (hk : l.length < k) : laws_toIntS.f k l = some l := by
  unfold laws_toIntS.f
  rw [if_pos (by omega), if_pos (by omega)]
  have h := copy_loop laws_toIntS.l0 (fun x => x) l hl (fun k x3 i h h3 => by
      simp only [laws_toIntS.l0]
      rw [if_pos (by omega), if_pos (by omega), if_pos (by omega), rd_nat _ _ h, wr _ (by omega) (by omega)]
      rfl) (fun k x3 h3 => by
      simp only [laws_toIntS.l0]
      rw [if_neg (by omega)]) l.length k (List.replicate ((l.length : Int)).toNat 0) 0 (by omega) hk (by simp) (fun j hj => by omega)
  simpa using h

theorem eqIntS_eq (k : Nat) (a b : List Int) (hl : a.length ≤ 1048576) (hk : a.length < k) : laws_eqIntS.f k a b = some (decide (a = b)) := by
  unfold laws_eqIntS.f
  by_cases e : b.length = a.length
  · rw [if_pos (by omega)]
    have h := eq_loop laws_eqIntS.l0 a b hl e (fun k i h hx => by
        simp only [laws_eqIntS.l0]
        rw [if_pos (by omega), if_pos (by omega), if_pos (by omega), rd_nat _ _ h, rd_nat _ _ (by omega), if_neg hx]) (fun k i h hx => by
        simp only [laws_eqIntS.l0]
        rw [if_pos (by omega), if_pos (by omega), if_pos (by omega), rd_nat _ _ h, rd_nat _ _ (by omega), if_pos hx, wr _ (by omega) (by omega)]
        rfl) (fun k => by
        simp only [laws_eqIntS.l0]
        rw [if_neg (by omega)]) a.length k 0 (by omega) hk
    simpa using h
  · rw [if_neg (by omega)]
    congr 1
    symm
    rw [decide_eq_false_iff_not]
    rintro rfl
    exact e rfl

theorem under_same (a b c : List Int) (k bus : Int) : spec_IsUnder.f a b c k bus = impl_IsUnder.f a b c k bus := by
  unfold spec_IsUnder.f impl_IsUnder.f
  simp only [within_eq, l01In_eq, Option.bind_some]
theorem under_some (a b c : List Int) (k bus : Int) (hb : b.length ≤ 1048576) (hc : c.length ≤ 1048576) : ∃ r, impl_IsUnder.f a b c k bus = some r := by
  unfold impl_IsUnder.f
  have hm : mn (b.length : Int) c.length ≤ b.length ∧ mn (b.length : Int) c.length ≤ c.length ∧ 0 ≤ mn (b.length : Int) c.length := by unfold mn; split <;> omega
  rw [within_eq, wr _ (by omega) (by omega)]
  simp only [Option.bind_some, decide_eq_true_eq, within_eq]
  by_cases h : 0 ≤ k ∧ k ≤ mn (b.length : Int) c.length - 1
  · rw [if_pos h, if_pos h.1, if_pos (by omega)]
    split
    · rw [if_pos (by omega)]; exact ⟨_, rfl⟩
    · exact ⟨_, rfl⟩
  · rw [if_neg h]; exact ⟨_, rfl⟩
theorem FnExactIsUnder (l0_0 : List Int) (l0_1 : List Int) (l0_2 : List Int) (a1 : Int) (a2 : Int)
    (h0 : l0_0.length ≤ 9223372036854775807) (h1 : (∀ y ∈ l0_0, (Lit.int .i64 y).wf = true)) (h2 : l0_1.length ≤ 9223372036854775807) (h3 : (∀ y ∈ l0_1, (Lit.int .i64 y).wf = true)) (h4 : l0_2.length ≤ 9223372036854775807) (h5 : (∀ y ∈ l0_2, (Lit.int .i64 y).wf = true)) (h6 : (Lit.int .i64 a1).wf = true) (h7 : (Lit.int .i64 a2).wf = true) :
    ∃ k, laws_FnExactIsUnder.f k l0_0 l0_1 l0_2 a1 a2 = some true := by
  obtain ⟨k, hk⟩ : ∃ k : Nat, 1048576 < k := ⟨1048577, by omega⟩
  refine ⟨k, ?_⟩
  unfold laws_FnExactIsUnder.f laws_szNumbers.f laws_szIntS.f
  rw [wr (1048576 - (l0_0.length : Int)) (by omega) (by omega)]
  by_cases c0 : (1048576 : Int) - l0_0.length < 0
  · simp [c0]
  · rw [if_neg c0]
    simp only [Option.bind_some, c0, if_false]
    rw [wr (1048576 - (l0_0.length : Int) - l0_1.length) (by omega) (by omega)]
    by_cases c1 : (1048576 : Int) - l0_0.length - l0_1.length < 0
    · simp [c1]
    · rw [if_neg c1]
      simp only [Option.bind_some, c1, if_false]
      rw [wr (1048576 - (l0_0.length : Int) - l0_1.length - l0_2.length) (by omega) (by omega)]
      by_cases c2 : (1048576 : Int) - l0_0.length - l0_1.length - l0_2.length < 0
      · simp [c2]
      · rw [if_neg c2]
        obtain ⟨r, hr⟩ := under_some l0_0 l0_1 l0_2 a1 a2 (by omega) (by omega)
        unfold laws_toNumbers.f laws_eqNumbers.f
        simp only [Option.bind_some, c2, if_false, toIntS_eq k l0_0 (by omega) (by omega), toIntS_eq k l0_1 (by omega) (by omega), toIntS_eq k l0_2 (by omega) (by omega), under_same, hr, bne_self_eq_false, eqIntS_eq k l0_0 l0_0 (by omega) (by omega), eqIntS_eq k l0_1 l0_1 (by omega) (by omega), eqIntS_eq k l0_2 l0_2 (by omega) (by omega), decide_true, if_true]
        rfl

end Go.Proofs.Ytcofbfjnkodpmaa.Pure
