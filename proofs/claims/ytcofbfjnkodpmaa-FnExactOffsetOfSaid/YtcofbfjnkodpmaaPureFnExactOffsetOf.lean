/- Of every list of windows, index and address: the program's OffsetOf and the reference's are one function, and the copies read as before. -/
import Derived.Test.YtcofbfjnkodpmaaPFnExactOffsetOfx2
import Derived.Test.YtcofbfjnkodpmaaCom
namespace Go.Proofs.Ytcofbfjnkodpmaa.Pure
open Go.RowKit Go.Proofs.Ytcofbfjnkodpmaa.PFnExactOffsetOf Go.Proofs.YtcofbfjnkodpmaaW.PrintWords Go.Proofs.YtcofbfjnkodpmaaW.PrintLast Go.Proofs.YtcofbfjnkodpmaaW.PrintMore Go.Proofs.Ytcofbfjnkodpmaa.Com
set_option linter.unusedVariables false
set_option linter.unusedSimpArgs false

theorem within_eq (a b c : Int) : impl_within.f a b c = some (decide (b ≤ a ∧ a ≤ c)) := by
  unfold impl_within.f; by_cases h : a ≥ b <;> simp [h]

theorem l01In_eq (a b c : Int) : spec_l01In.f a b c = some (decide (b ≤ a ∧ a ≤ c)) := by
  unfold spec_l01In.f; by_cases h : a ≥ b <;> simp [h]

def toB (x : S39) : S41 := ⟨x.f0, x.f1⟩
theorem rd_lbar (xs : List S39) (i : Nat) (h : i < xs.length) : rd_T39 xs (i : Int) = xs[i] := getD_nat _ _ _ h
theorem rd_ibar (xs : List S41) (i : Nat) (h : i < xs.length) : rd_T41 xs (i : Int) = xs[i] := getD_nat _ _ _ h
theorem toBarS_eq (k : Nat) (l : List S39) (hl : l.length ≤ 1048576) (hk : l.length < k) : laws_toBarS.f k l = some (l.map toB) := by
  unfold laws_toBarS.f
  rw [if_pos (by omega), if_pos (by omega)]
  have h := copy_loop laws_toBarS.l0 toB l hl (fun k x3 i h h3 => by
      simp only [laws_toBarS.l0]
      rw [if_pos (by omega), if_pos (by omega), rd_lbar _ _ h]
      simp only [laws_toBar.f, Option.bind_some]
      rw [if_pos (by omega), wr _ (by omega) (by omega)]
      rfl) (fun k x3 h3 => by
      simp only [laws_toBarS.l0]
      rw [if_neg (by omega)]) l.length k (List.replicate ((l.length : Int)).toNat z41) 0 (by omega) hk (by simp) (fun j hj => by omega)
  exact h
theorem bar_ext (a b : S41) (h0 : a.f0 = b.f0) (h1 : a.f1 = b.f1) : a = b := by cases a; cases b; simp_all
instance : DecidableEq S41 := fun a b => decidable_of_iff (a.f0 = b.f0 ∧ a.f1 = b.f1) ⟨fun h => bar_ext a b h.1 h.2, fun h => by rw [h]; exact ⟨rfl, rfl⟩⟩
theorem eqBar_eq (a b : S41) : laws_eqBar.f a.f0 a.f1 b.f0 b.f1 = some (decide (a = b)) := by
  unfold laws_eqBar.f
  by_cases h0 : a.f0 = b.f0
  · by_cases h1 : a.f1 = b.f1
    · rw [if_pos h0, if_pos h1]; simp [bar_ext a b h0 h1]
    · rw [if_pos h0, if_neg h1]; simp only [Option.some.injEq]; symm; rw [decide_eq_false_iff_not]; rintro rfl; exact h1 rfl
  · rw [if_neg h0]; simp only [Option.some.injEq]; symm; rw [decide_eq_false_iff_not]; rintro rfl; exact h0 rfl
theorem eqBarS_eq (k : Nat) (a b : List S41) (hl : a.length ≤ 1048576) (hk : a.length < k) : laws_eqBarS.f k a b = some (decide (a = b)) := by
  unfold laws_eqBarS.f
  by_cases e : b.length = a.length
  · rw [if_pos (by omega)]
    have h := eq_loop laws_eqBarS.l0 a b hl e (fun k i h hx => by
        simp only [laws_eqBarS.l0]
        rw [if_pos (by omega), if_pos (by omega), if_pos (by omega), rd_ibar _ _ h, rd_ibar _ _ (by omega), eqBar_eq]
        simp [hx]) (fun k i h hx => by
        simp only [laws_eqBarS.l0]
        rw [if_pos (by omega), if_pos (by omega), if_pos (by omega), rd_ibar _ _ h, rd_ibar _ _ (by omega), eqBar_eq, wr _ (by omega) (by omega)]
        simp only [hx, decide_true, Option.bind_some, if_true]
        rfl) (fun k => by
        simp only [laws_eqBarS.l0]
        rw [if_neg (by omega)]) a.length k 0 (by omega) hk
    simpa using h
  · rw [if_neg (by omega)]
    congr 1
    symm
    rw [decide_eq_false_iff_not]
    rintro rfl
    exact e rfl

theorem offset_same (l : List S41) (a1 a2 : Int) : spec_OffsetOf.f l a1 a2 = impl_OffsetOf.f l a1 a2 := by
  unfold spec_OffsetOf.f impl_OffsetOf.f spec_l25Covers.f impl_Bar_covers.f spec_l24Far.f
  rw [within_eq, l01In_eq]
  simp only [Option.bind_some]
theorem offset_some (l : List S41) (a1 a2 : Int) (hl : l.length ≤ 1048576) : ∃ r, impl_OffsetOf.f l a1 a2 = some r := by
  unfold impl_OffsetOf.f impl_Bar_covers.f
  rw [within_eq, wr _ (by omega) (by omega)]
  simp only [Option.bind_some, decide_eq_true_eq]
  by_cases h : 0 ≤ a1 ∧ a1 ≤ (l.length : Int) - 1
  · rw [if_pos h, if_pos h.1, if_pos (by omega)]
    split
    · split
      · simp only [Option.bind_some]; split <;> exact ⟨_, rfl⟩
      · exact ⟨_, rfl⟩
    · exact ⟨_, rfl⟩
  · rw [if_neg h]; exact ⟨_, rfl⟩
theorem FnExactOffsetOf (l0 : List (S39)) (a1 : Int) (a2 : Int)
    (h0 : l0.length ≤ 9223372036854775807) (h1 : (∀ y ∈ l0, ((Lit.int .i64 y.f0).wf = true) ∧ ((Lit.int .i64 y.f1).wf = true))) (h2 : (Lit.int .i64 a1).wf = true) (h3 : (Lit.int .i64 a2).wf = true) :
    ∃ k, laws_FnExactOffsetOf.f k l0 a1 a2 = some true := by
  obtain ⟨k, hk⟩ : ∃ k : Nat, 1048576 < k := ⟨1048577, by omega⟩
  refine ⟨k, ?_⟩
  unfold laws_FnExactOffsetOf.f laws_szBarS.f
  rw [wr _ (by omega) (by omega)]
  by_cases hl : (1048576 : Int) - l0.length < 0
  · rw [if_pos hl]; rfl
  · have hl' : l0.length ≤ 1048576 := by omega
    obtain ⟨r, hr⟩ := offset_some (l0.map toB) a1 a2 (by simpa using hl')
    rw [if_neg hl]
    simp only [Option.bind_some, hl, if_false, toBarS_eq k l0 hl' (by omega), offset_same, hr, if_true, eqBarS_eq k (l0.map toB) (l0.map toB) (by simpa using hl') (by simp; omega), decide_true]

end Go.Proofs.Ytcofbfjnkodpmaa.Pure
