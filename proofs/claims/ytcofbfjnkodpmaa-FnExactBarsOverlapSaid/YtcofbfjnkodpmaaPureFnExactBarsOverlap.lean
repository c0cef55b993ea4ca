/- Of every two registers: the program's BarsOverlap and the reference's are one function. -/
import Derived.Test.YtcofbfjnkodpmaaPFnExactBarsOverlapx2
import Derived.Test.YtcofbfjnkodpmaaCom
import Derived.Test.YtcofbfjnkodpmaaPow
namespace Go.Proofs.Ytcofbfjnkodpmaa.Pure
open Go.RowKit Go.Proofs.Ytcofbfjnkodpmaa.PFnExactBarsOverlap Go.Proofs.YtcofbfjnkodpmaaW.PrintWords Go.Proofs.YtcofbfjnkodpmaaW.PrintLast Go.Proofs.YtcofbfjnkodpmaaW.PrintMore Go.Proofs.Ytcofbfjnkodpmaa.Com
set_option linter.unusedVariables false
set_option linter.unusedSimpArgs false

theorem within_eq (a b c : Int) : impl_within.f a b c = some (decide (b ≤ a ∧ a ≤ c)) := by
  unfold impl_within.f; by_cases h : a ≥ b <;> simp [h]

theorem l01In_eq (a b c : Int) : spec_l01In.f a b c = some (decide (b ≤ a ∧ a ≤ c)) := by
  unfold spec_l01In.f; by_cases h : a ≥ b <;> simp [h]

theorem oc_eq (a : Int) : bits_OnesCount.f a = some (oc64 a) := rfl
theorem ipow_some (n : Int) : ∃ b, impl_IsPower.f n = some b := by
  unfold impl_IsPower.f
  rw [within_eq]
  simp only [Option.bind_some, oc_eq]
  split <;> exact ⟨_, rfl⟩
theorem ipow_eq (n : Nat) (h0 : 1 ≤ n) (h : n ≤ 32768) : impl_IsPower.f (n : Int) = some (pwF n) := by
  unfold impl_IsPower.f
  rw [within_eq, u64_of (by omega) (by omega)]
  simp only [Option.bind_some, oc_eq]
  rw [if_pos (by rw [decide_eq_true_iff]; omega), oc64_nat n (by omega), ← pop_pw n h0 h]
  congr 1
  rw [Bool.eq_iff_iff, beq_iff_eq, beq_iff_eq]
  omega
theorem shl_one (j : Nat) (h : j ≤ 20) : shl .i64 1 (j : Int) = ((2 ^ j : Nat) : Int) := by
  unfold shl
  rw [show min ((j : Int)).toNat IntKind.i64.bits = j by simp [IntKind.bits]; omega]
  have h2 : 2 ^ j ≤ 2 ^ 20 := Nat.pow_le_pow_right (by decide) h
  rw [Go.IntKind.wrap_i64]
  have h3 : (1 : Int) * 2 ^ j = ((2 ^ j : Nat) : Int) := by rw [Int.one_mul]; norm_cast
  rw [h3]
  have h4 : (2 : Nat) ^ 20 = 1048576 := by decide
  generalize 2 ^ j = p at *
  omega
theorem spow_l0 (n : Int) : ∀ d k (j : Nat), j + d = 21 → d < k → ∃ b, spec_IsPower.l0 k n (j : Int) = some b ∧ (b = true ↔ ∃ i : Nat, j ≤ i ∧ i ≤ 20 ∧ n = ((2 ^ i : Nat) : Int)) := by
  intro d
  induction d with
  | zero =>
    intro k j hj hk
    obtain ⟨k, rfl⟩ : ∃ m, k = m + 1 := ⟨k - 1, by omega⟩
    simp only [spec_IsPower.l0]
    rw [if_neg (by omega)]
    refine ⟨false, rfl, ⟨fun h => absurd h (by decide), ?_⟩⟩
    rintro ⟨i, h1, h2, _⟩
    omega
  | succ d ih =>
    intro k j hj hk
    obtain ⟨k, rfl⟩ : ∃ m, k = m + 1 := ⟨k - 1, by omega⟩
    simp only [spec_IsPower.l0]
    rw [if_pos (by omega), if_pos (by omega), shl_one j (by omega)]
    by_cases e : n = ((2 ^ j : Nat) : Int)
    · rw [if_pos e]
      exact ⟨true, rfl, ⟨fun _ => ⟨j, by omega, by omega, e⟩, fun _ => rfl⟩⟩
    · rw [if_neg e, wr _ (by omega) (by omega)]
      obtain ⟨b, hb, hi⟩ := ih k (j + 1) (by omega) (by omega)
      refine ⟨b, hb, hi.trans ⟨?_, ?_⟩⟩
      · rintro ⟨i, h1, h2, h3⟩
        exact ⟨i, by omega, h2, h3⟩
      · rintro ⟨i, h1, h2, h3⟩
        refine ⟨i, ?_, h2, h3⟩
        by_cases e2 : i = j
        · subst e2; exact absurd h3 e
        · omega
theorem spow_some (k : Nat) (hk : 21 < k) (n : Int) : ∃ b, spec_IsPower.f k n = some b := by
  obtain ⟨b, hb, _⟩ := spow_l0 n 21 k 0 (by omega) hk
  exact ⟨b, hb⟩
theorem spow_eq (k : Nat) (hk : 21 < k) (n : Nat) (h0 : 1 ≤ n) (h : n ≤ 1048576) : spec_IsPower.f k (n : Int) = some (pwF n) := by
  obtain ⟨b, hb, hi⟩ := spow_l0 (n : Int) 21 k 0 (by omega) hk
  have h2 : spec_IsPower.f k (n : Int) = spec_IsPower.l0 k (n : Int) ((0 : Nat) : Int) := rfl
  rw [h2, hb]
  congr 1
  rw [Bool.eq_iff_iff, hi, pwF_iff n h0 h]
  constructor
  · rintro ⟨i, _, h3, h4⟩
    exact ⟨i, h3, by exact_mod_cast h4⟩
  · rintro ⟨i, h3, h4⟩
    exact ⟨i, by omega, h3, by exact_mod_cast h4⟩

/-- A size of a register: a power of two from 16 to 32768. -/
def szB (n : Int) : Bool := decide (16 ≤ n ∧ n ≤ 32768) && pwF n.toNat
theorem isz_eq (n : Int) : impl_isBarSize.f n = some (szB n) := by
  unfold impl_isBarSize.f szB
  rw [within_eq]
  by_cases h : 16 ≤ n ∧ n ≤ 32768
  · obtain ⟨m, rfl⟩ := Int.eq_ofNat_of_zero_le (show 0 ≤ n by omega)
    rw [ipow_eq m (by omega) (by omega)]
    cases hp : pwF m <;> simp [h, hp]
  · obtain ⟨b, hb⟩ := ipow_some n
    rw [hb]
    cases b <;> simp [h]
theorem ssz_eq (k : Nat) (hk : 21 < k) (n : Int) : spec_l23Size.f k n = some (szB n) := by
  unfold spec_l23Size.f szB
  rw [l01In_eq]
  by_cases h : 16 ≤ n ∧ n ≤ 32768
  · obtain ⟨m, rfl⟩ := Int.eq_ofNat_of_zero_le (show 0 ≤ n by omega)
    rw [spow_eq k hk m (by omega) (by omega)]
    cases hp : pwF m <;> simp [h, hp]
  · obtain ⟨b, hb⟩ := spow_some k hk n
    rw [hb]
    cases b <;> simp [h]
theorem szB_range {n : Int} (h : szB n = true) : 16 ≤ n ∧ n ≤ 32768 := by
  unfold szB at h
  simp only [Bool.and_eq_true, decide_eq_true_eq] at h
  exact h.1

def bok (sz base : Int) : Bool := if sz = 0 then base == 0 else szB sz && (decide (0 ≤ base ∧ base ≤ 65536 - sz) && (Int.tmod base sz == 0))
theorem iok_eq (sz base : Int) : impl_BarOk.f sz base = some (bok sz base) := by
  unfold impl_BarOk.f bok
  by_cases h : sz = 0
  · rw [if_pos h, if_pos h]
  · rw [if_neg h, if_neg h, isz_eq]
    cases hs : szB sz
    · simp
    · have hr := szB_range hs
      simp only [Option.bind_some, if_true, within_eq]
      rw [wr _ (by omega) (by omega)]
      cases decide (0 ≤ base ∧ base ≤ 65536 - sz) <;> simp
theorem sok_eq (k : Nat) (hk : 21 < k) (sz base : Int) : spec_BarOk.f k sz base = some (bok sz base) := by
  unfold spec_BarOk.f bok
  by_cases h : sz = 0
  · rw [if_pos h, if_pos h]
  · rw [if_neg h, if_neg h, ssz_eq k hk]
    cases hs : szB sz
    · simp
    · have hr := szB_range hs
      simp only [Option.bind_some, if_true, l01In_eq]
      rw [wr _ (by omega) (by omega)]
      cases decide (0 ≤ base ∧ base ≤ 65536 - sz) <;> simp
theorem bok_facts {sz base : Int} (h : bok sz base = true) : (sz = 0 ∧ base = 0) ∨ (16 ≤ sz ∧ sz ≤ 32768 ∧ 0 ≤ base ∧ base ≤ 65536 - sz ∧ szB sz = true ∧ Int.tmod base sz = 0) := by
  unfold bok at h
  by_cases h0 : sz = 0
  · rw [if_pos h0] at h
    exact .inl ⟨h0, by simpa using h⟩
  · rw [if_neg h0] at h
    simp only [Bool.and_eq_true, decide_eq_true_eq, beq_iff_eq] at h
    have := szB_range h.1
    exact .inr ⟨this.1, this.2, h.2.1.1, h.2.1.2, h.1, h.2.2⟩

theorem cov_eq (sz base a : Int) (hs : 0 ≤ sz ∧ sz ≤ 65536) (hb : 0 ≤ base ∧ base ≤ 65536) (ha : -9223372036854775808 ≤ a ∧ a ≤ 9223372036854775807) : impl_Bar_covers.f sz base a = some (decide (base ≤ a ∧ a < base + sz)) := by
  unfold impl_Bar_covers.f
  by_cases h0 : sz > 0
  · rw [if_pos h0]
    by_cases h1 : a ≥ base
    · rw [if_pos h1, u64_of (n := a) (by omega) (by omega), u64_of (n := base) (by omega) (by omega), u64_of (n := sz) (by omega) (by omega), u64_of (by omega) (by omega)]
      congr 1
      rw [decide_eq_decide]
      omega
    · rw [if_neg h1]
      congr 1
      symm
      rw [decide_eq_false_iff_not]
      omega
  · rw [if_neg h0]
    congr 1
    symm
    rw [decide_eq_false_iff_not]
    omega

theorem FnExactBarsOverlap (a0_0 : Int) (a0_1 : Int) (a1_0 : Int) (a1_1 : Int)
    (h0 : (Lit.int .i64 a0_0).wf = true) (h1 : (Lit.int .i64 a0_1).wf = true) (h2 : (Lit.int .i64 a1_0).wf = true) (h3 : (Lit.int .i64 a1_1).wf = true) :
    ∃ k, laws_FnExactBarsOverlap.f k a0_0 a0_1 a1_0 a1_1 = some true := by
  obtain ⟨k, hk⟩ : ∃ k : Nat, 21 < k := ⟨22, by omega⟩
  refine ⟨k, ?_⟩
  unfold laws_FnExactBarsOverlap.f laws_toBar.f spec_BarsOverlap.f impl_BarsOverlap.f impl_Bar_overlaps.f
  simp only [Option.bind_some, iok_eq, sok_eq k hk]
  cases hok : bok a0_0 a0_1
  · simp
  · cases hok2 : bok a1_0 a1_1
    · simp
    · have hf := bok_facts hok
      have hf2 := bok_facts hok2
      simp only [if_true, cov_eq a0_0 a0_1 a1_1 (by omega) (by omega) (by omega), cov_eq a1_0 a1_1 a0_1 (by omega) (by omega) (by omega), Option.bind_some]
      rw [wr (a1_1 + a1_0) (by omega) (by omega), wr (a0_1 + a0_0) (by omega) (by omega)]
      by_cases hs : a0_0 > 0 <;> by_cases hs2 : a1_0 > 0
      · rw [if_pos hs, if_pos hs2, if_pos hs, if_pos hs2]
        by_cases c1 : a0_1 < a1_1 + a1_0 <;> by_cases c2 : a1_1 < a0_1 + a0_0 <;> by_cases c3 : a0_1 ≤ a1_1 <;> by_cases c4 : a1_1 ≤ a0_1 <;> simp [c1, c2, c3, c4] <;> omega
      · simp [hs, hs2]
      · simp [hs, hs2]
      · simp [hs, hs2]

end Go.Proofs.Ytcofbfjnkodpmaa.Pure
