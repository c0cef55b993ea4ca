/- Of every draw: a register takes the multiple of its size below what is written, and tells its size. -/
import Derived.Test.YtcofbfjnkodpmaaPFnBarsx4
import Derived.Test.YtcofbfjnkodpmaaCom
import Derived.Test.YtcofbfjnkodpmaaPow
namespace Go.Proofs.Ytcofbfjnkodpmaa.Pure
open Go.RowKit Go.Proofs.Ytcofbfjnkodpmaa.PFnBars Go.Proofs.YtcofbfjnkodpmaaW.PrintWords Go.Proofs.YtcofbfjnkodpmaaW.PrintLast Go.Proofs.YtcofbfjnkodpmaaW.PrintMore Go.Proofs.Ytcofbfjnkodpmaa.Com
set_option linter.unusedVariables false
set_option linter.unusedSimpArgs false

theorem within_eq (a b c : Int) : impl_within.f a b c = some (decide (b ≤ a ∧ a ≤ c)) := by
  unfold impl_within.f; by_cases h : a ≥ b <;> simp [h]

theorem l01In_eq (a b c : Int) : spec_l01In.f a b c = some (decide (b ≤ a ∧ a ≤ c)) := by
  unfold spec_l01In.f; by_cases h : a ≥ b <;> simp [h]

theorem oc_eq (a : Int) : bits_OnesCount.f a = some (oc64 a) := rfl
theorem ipow_some (n : Int) : ∃ b, impl_IsPower.f n = some b := by
  unfold impl_IsPower.f
  rw [within_eq]
  simp only [Option.bind_some, oc_eq]
  split <;> exact ⟨_, rfl⟩
theorem ipow_eq (n : Nat) (h0 : 1 ≤ n) (h : n ≤ 32768) : impl_IsPower.f (n : Int) = some (pwF n) := by
  unfold impl_IsPower.f
  rw [within_eq, u64_of (by omega) (by omega)]
  simp only [Option.bind_some, oc_eq]
  rw [if_pos (by rw [decide_eq_true_iff]; omega), oc64_nat n (by omega), ← pop_pw n h0 h]
  congr 1
  rw [Bool.eq_iff_iff, beq_iff_eq, beq_iff_eq]
  omega
theorem shl_one (j : Nat) (h : j ≤ 20) : shl .i64 1 (j : Int) = ((2 ^ j : Nat) : Int) := by
  unfold shl
  rw [show min ((j : Int)).toNat IntKind.i64.bits = j by simp [IntKind.bits]; omega]
  have h2 : 2 ^ j ≤ 2 ^ 20 := Nat.pow_le_pow_right (by decide) h
  rw [Go.IntKind.wrap_i64]
  have h3 : (1 : Int) * 2 ^ j = ((2 ^ j : Nat) : Int) := by rw [Int.one_mul]; norm_cast
  rw [h3]
  have h4 : (2 : Nat) ^ 20 = 1048576 := by decide
  generalize 2 ^ j = p at *
  omega
theorem spow_l0 (n : Int) : ∀ d k (j : Nat), j + d = 21 → d < k → ∃ b, spec_IsPower.l0 k n (j : Int) = some b ∧ (b = true ↔ ∃ i : Nat, j ≤ i ∧ i ≤ 20 ∧ n = ((2 ^ i : Nat) : Int)) := by
  intro d
  induction d with
  | zero =>
    intro k j hj hk
    obtain ⟨k, rfl⟩ : ∃ m, k = m + 1 := ⟨k - 1, by omega⟩
    simp only [spec_IsPower.l0]
    rw [if_neg (by omega)]
    refine ⟨false, rfl, ⟨fun h => absurd h (by decide), ?_⟩⟩
    rintro ⟨i, h1, h2, _⟩
    omega
  | succ d ih =>
    intro k j hj hk
    obtain ⟨k, rfl⟩ : ∃ m, k = m + 1 := ⟨k - 1, by omega⟩
    simp only [spec_IsPower.l0]
    rw [if_pos (by omega), if_pos (by omega), shl_one j (by omega)]
    by_cases e : n = ((2 ^ j : Nat) : Int)
    · rw [if_pos e]
      exact ⟨true, rfl, ⟨fun _ => ⟨j, by omega, by omega, e⟩, fun _ => rfl⟩⟩
    · rw [if_neg e, wr _ (by omega) (by omega)]
      obtain ⟨b, hb, hi⟩ := ih k (j + 1) (by omega) (by omega)
      refine ⟨b, hb, hi.trans ⟨?_, ?_⟩⟩
      · rintro ⟨i, h1, h2, h3⟩
        exact ⟨i, by omega, h2, h3⟩
      · rintro ⟨i, h1, h2, h3⟩
        refine ⟨i, ?_, h2, h3⟩
        by_cases e2 : i = j
        · subst e2; exact absurd h3 e
        · omega
theorem spow_some (k : Nat) (hk : 21 < k) (n : Int) : ∃ b, spec_IsPower.f k n = some b := by
  obtain ⟨b, hb, _⟩ := spow_l0 n 21 k 0 (by omega) hk
  exact ⟨b, hb⟩
theorem spow_eq (k : Nat) (hk : 21 < k) (n : Nat) (h0 : 1 ≤ n) (h : n ≤ 1048576) : spec_IsPower.f k (n : Int) = some (pwF n) := by
  obtain ⟨b, hb, hi⟩ := spow_l0 (n : Int) 21 k 0 (by omega) hk
  have h2 : spec_IsPower.f k (n : Int) = spec_IsPower.l0 k (n : Int) ((0 : Nat) : Int) := rfl
  rw [h2, hb]
  congr 1
  rw [Bool.eq_iff_iff, hi, pwF_iff n h0 h]
  constructor
  · rintro ⟨i, _, h3, h4⟩
    exact ⟨i, h3, by exact_mod_cast h4⟩
  · rintro ⟨i, h3, h4⟩
    exact ⟨i, by omega, h3, by exact_mod_cast h4⟩

/-- A size of a register: a power of two from 16 to 32768. -/
def szB (n : Int) : Bool := decide (16 ≤ n ∧ n ≤ 32768) && pwF n.toNat
theorem isz_eq (n : Int) : impl_isBarSize.f n = some (szB n) := by
  unfold impl_isBarSize.f szB
  rw [within_eq]
  by_cases h : 16 ≤ n ∧ n ≤ 32768
  · obtain ⟨m, rfl⟩ := Int.eq_ofNat_of_zero_le (show 0 ≤ n by omega)
    rw [ipow_eq m (by omega) (by omega)]
    cases hp : pwF m <;> simp [h, hp]
  · obtain ⟨b, hb⟩ := ipow_some n
    rw [hb]
    cases b <;> simp [h]
theorem ssz_eq (k : Nat) (hk : 21 < k) (n : Int) : spec_l23Size.f k n = some (szB n) := by
  unfold spec_l23Size.f szB
  rw [l01In_eq]
  by_cases h : 16 ≤ n ∧ n ≤ 32768
  · obtain ⟨m, rfl⟩ := Int.eq_ofNat_of_zero_le (show 0 ≤ n by omega)
    rw [spow_eq k hk m (by omega) (by omega)]
    cases hp : pwF m <;> simp [h, hp]
  · obtain ⟨b, hb⟩ := spow_some k hk n
    rw [hb]
    cases b <;> simp [h]
theorem szB_range {n : Int} (h : szB n = true) : 16 ≤ n ∧ n ≤ 32768 := by
  unfold szB at h
  simp only [Bool.and_eq_true, decide_eq_true_eq] at h
  exact h.1

def bok (sz base : Int) : Bool := if sz = 0 then base == 0 else szB sz && (decide (0 ≤ base ∧ base ≤ 65536 - sz) && (Int.tmod base sz == 0))
theorem iok_eq (sz base : Int) : impl_BarOk.f sz base = some (bok sz base) := by
  unfold impl_BarOk.f bok
  by_cases h : sz = 0
  · rw [if_pos h, if_pos h]
  · rw [if_neg h, if_neg h, isz_eq]
    cases hs : szB sz
    · simp
    · have hr := szB_range hs
      simp only [Option.bind_some, if_true, within_eq]
      rw [wr _ (by omega) (by omega)]
      cases decide (0 ≤ base ∧ base ≤ 65536 - sz) <;> simp
theorem sok_eq (k : Nat) (hk : 21 < k) (sz base : Int) : spec_BarOk.f k sz base = some (bok sz base) := by
  unfold spec_BarOk.f bok
  by_cases h : sz = 0
  · rw [if_pos h, if_pos h]
  · rw [if_neg h, if_neg h, ssz_eq k hk]
    cases hs : szB sz
    · simp
    · have hr := szB_range hs
      simp only [Option.bind_some, if_true, l01In_eq]
      rw [wr _ (by omega) (by omega)]
      cases decide (0 ≤ base ∧ base ≤ 65536 - sz) <;> simp
theorem bok_facts {sz base : Int} (h : bok sz base = true) : (sz = 0 ∧ base = 0) ∨ (16 ≤ sz ∧ sz ≤ 32768 ∧ 0 ≤ base ∧ base ≤ 65536 - sz ∧ szB sz = true ∧ Int.tmod base sz = 0) := by
  unfold bok at h
  by_cases h0 : sz = 0
  · rw [if_pos h0] at h
    exact .inl ⟨h0, by simpa using h⟩
  · rw [if_neg h0] at h
    simp only [Bool.and_eq_true, decide_eq_true_eq, beq_iff_eq] at h
    have := szB_range h.1
    exact .inr ⟨this.1, this.2, h.2.1.1, h.2.1.2, h.1, h.2.2⟩

theorem cov_eq (sz base a : Int) (hs : 0 ≤ sz ∧ sz ≤ 65536) (hb : 0 ≤ base ∧ base ≤ 65536) (ha : -9223372036854775808 ≤ a ∧ a ≤ 9223372036854775807) : impl_Bar_covers.f sz base a = some (decide (base ≤ a ∧ a < base + sz)) := by
  unfold impl_Bar_covers.f
  by_cases h0 : sz > 0
  · rw [if_pos h0]
    by_cases h1 : a ≥ base
    · rw [if_pos h1, u64_of (n := a) (by omega) (by omega), u64_of (n := base) (by omega) (by omega), u64_of (n := sz) (by omega) (by omega), u64_of (by omega) (by omega)]
      congr 1
      rw [decide_eq_decide]
      omega
    · rw [if_neg h1]
      congr 1
      symm
      rw [decide_eq_false_iff_not]
      omega
  · rw [if_neg h0]
    congr 1
    symm
    rw [decide_eq_false_iff_not]
    omega


theorem isWord_eq (n : Int) : impl_isWord.f n = some (decide (0 ≤ n ∧ n ≤ 65535)) := by
  unfold impl_isWord.f; rw [within_eq]; rfl

/-- The lowest eight bits. -/
theorem and255 (x : Int) : 0 ≤ Go.bits .and .i64 x 255 ∧ Go.bits .and .i64 x 255 ≤ 255 := by
  have h1 : (BitVec.ofInt 64 x &&& BitVec.ofInt 64 255).toNat ≤ 255 := by
    rw [BitVec.toNat_and]
    exact Nat.le_trans Nat.and_le_right (by decide)
  have h2 : Go.bits .and .i64 x 255 = IntKind.i64.wrap ((BitVec.ofInt 64 x &&& BitVec.ofInt 64 255).toNat : Int) := rfl
  rw [h2, Go.IntKind.wrap_i64]
  omega
theorem byte_some (s : List Int) (i h : Int) (hs : s.length ≤ 1048576) (h0 : 0 ≤ i) (h1 : i ≤ s.length) :
    ∃ x i' h', spec_l01Byte.f s i h = some (x, i', h') ∧ 0 ≤ x ∧ x ≤ 255 ∧ 0 ≤ i' ∧ i' ≤ s.length := by
  unfold spec_l01Byte.f
  by_cases hlt : i < (s.length : Int)
  · rw [if_pos hlt, if_pos h0]
    refine ⟨_, _, _, rfl, (and255 _).1, (and255 _).2, ?_, ?_⟩ <;> rw [wr _ (by omega) (by omega)] <;> omega
  · rw [if_neg hlt]
    exact ⟨_, _, _, rfl, (and255 _).1, (and255 _).2, h0, h1⟩
theorem below_some (s : List Int) (i h n : Int) (hs : s.length ≤ 1048576) (h0 : 0 ≤ i) (h1 : i ≤ s.length) (hn : 0 < n) (hm : n ≤ 4294967296) :
    ∃ x i' h', spec_l01Below.f s i h n = some (x, i', h') ∧ 0 ≤ x ∧ x < n ∧ 0 ≤ i' ∧ i' ≤ s.length := by
  unfold spec_l01Below.f
  rw [if_neg (by omega)]
  by_cases hlt : n ≤ 256
  · rw [if_pos hlt]
    obtain ⟨x, i1, h1', e, x0, x1, i0, i2⟩ := byte_some s i h hs h0 h1
    rw [e]
    simp only [Option.bind_some]
    rw [if_neg (by omega)]
    refine ⟨_, _, _, rfl, ?_, ?_, i0, i2⟩
    · exact Int.tmod_nonneg _ x0
    · exact Int.tmod_lt_of_pos _ hn
  · rw [if_neg hlt]
    obtain ⟨x, i1, h1', e, x0, x1, i0, i2⟩ := byte_some s i h hs h0 h1
    obtain ⟨y, i3, h3', e3, y0, y1, i4, i5⟩ := byte_some s i1 h1' hs i0 i2
    obtain ⟨z, i6, h6', e6, z0, z1, i7, i8⟩ := byte_some s i3 h3' hs i4 i5
    obtain ⟨w, i9, h9', e9, w0, w1, i10, i11⟩ := byte_some s i6 h6' hs i7 i8
    simp only [e, e3, e6, e9, Option.bind_some]
    rw [if_neg (by omega)]
    refine ⟨_, _, _, rfl, ?_, ?_, i10, i11⟩
    · rw [wr (x * 16777216) (by omega) (by omega), wr (y * 65536) (by omega) (by omega), wr (z * 256) (by omega) (by omega), wr (x * 16777216 + y * 65536) (by omega) (by omega), wr (x * 16777216 + y * 65536 + z * 256) (by omega) (by omega), wr _ (by omega) (by omega)]
      exact Int.tmod_nonneg _ (by omega)
    · exact Int.tmod_lt_of_pos _ hn
theorem new_some (k : Nat) (s : List Int) (hs : s.length ≤ 1048576) (hk : 4000 < k) : ∃ h, spec_l01New.f k s = some (s, 0, h) := by
  have key : ∀ d k (h : Int) (i : Nat), i + d = 4000 → d < k → ∃ h', spec_l01New.l0 k s h (i : Int) = some (s, 0, h') := by
    intro d
    induction d with
    | zero =>
      intro k h i hi hk
      obtain ⟨k, rfl⟩ : ∃ m, k = m + 1 := ⟨k - 1, by omega⟩
      simp only [spec_l01New.l0]
      rw [if_neg (show ¬ ((i : Int) < 4000) by omega)]
      split <;> exact ⟨_, rfl⟩
    | succ d ih =>
      intro k h i hi hk
      obtain ⟨k, rfl⟩ : ∃ m, k = m + 1 := ⟨k - 1, by omega⟩
      simp only [spec_l01New.l0]
      by_cases hlt : (i : Int) < s.length
      · rw [if_pos hlt, if_pos (by omega), if_pos (by omega), wr ((i : Int) + 1) (by omega) (by omega)]
        exact ih k _ (i + 1) (by omega) (by omega)
      · rw [if_neg hlt]; exact ⟨_, rfl⟩
  exact key 4000 k _ 0 (by omega) hk

theorem places_some (k : Nat) (s : List Int) (hs : s.length ≤ 1048576) (hk : 4000 < k) : ∃ p, spec_DrawPlaces.f k s = some p ∧ p.length = 12 ∧ ∀ x ∈ p, 0 ≤ x ∧ x < 10000 := by
  have key : ∀ d k (p : List Int) (i : Nat) (j h : Int), i + d = 12 → d < k → p.length = i → 0 ≤ j → j ≤ s.length → (∀ x ∈ p, 0 ≤ x ∧ x < 10000) →
      ∃ q, spec_DrawPlaces.l0 k p (i : Int) s j h = some q ∧ q.length = 12 ∧ ∀ x ∈ q, 0 ≤ x ∧ x < 10000 := by
    intro d
    induction d with
    | zero =>
      intro k p i j h hi hk hp h0 h1 hx
      obtain ⟨k, rfl⟩ : ∃ m, k = m + 1 := ⟨k - 1, by omega⟩
      simp only [spec_DrawPlaces.l0]
      rw [if_neg (by omega)]
      exact ⟨p, rfl, by omega, hx⟩
    | succ d ih =>
      intro k p i j h hi hk hp h0 h1 hx
      obtain ⟨k, rfl⟩ : ∃ m, k = m + 1 := ⟨k - 1, by omega⟩
      simp only [spec_DrawPlaces.l0]
      obtain ⟨x, i1, h1', e, x0, x1, i0, i2⟩ := below_some s j h 10000 hs h0 h1 (by omega) (by omega)
      rw [if_pos (by omega), e]
      simp only [Option.bind_some]
      rw [if_pos (by omega), wr ((i : Int) + 1) (by omega) (by omega)]
      refine ih k _ (i + 1) _ _ (by omega) (by omega) (by simp [hp]) i0 i2 (fun y hy => ?_)
      rcases List.mem_append.1 hy with hy | hy
      · exact hx y hy
      · rw [List.mem_singleton.1 hy]; exact ⟨x0, x1⟩
  obtain ⟨h, hn⟩ := new_some k s hs hk
  unfold spec_DrawPlaces.f
  rw [hn]
  exact key 12 k [] 0 0 h (by omega) (by omega) rfl (by omega) (by omega) (by simp)


theorem pick_some (s : List Int) (i h : Int) (l : List Int) (hs : s.length ≤ 1048576) (h0 : 0 ≤ i) (h1 : i ≤ s.length) (hl : 0 < l.length) (hm : l.length ≤ 4294967296) :
    ∃ x i' h', spec_l01PickInt.f s i h l = some (x, i', h') ∧ x ∈ l ∧ 0 ≤ i' ∧ i' ≤ s.length := by
  unfold spec_l01PickInt.f
  obtain ⟨x, i1, h1', e, x0, x1, i0, i2⟩ := below_some s i h l.length hs h0 h1 (by omega) (by omega)
  rw [e]
  simp only [Option.bind_some]
  rw [if_pos x0, if_pos x1]
  refine ⟨_, _, _, rfl, ?_, i0, i2⟩
  obtain ⟨m, rfl⟩ := Int.eq_ofNat_of_zero_le x0
  rw [rd_nat _ _ (by omega)]
  exact List.getElem_mem _

theorem write_eq (s b v : Int) (hok : bok s b = true) (hs : s ≠ 0) (hv : 0 ≤ v ∧ v ≤ 65535) : impl_WriteBar.f s b v = some (s, v / s * s) := by
  have hf := bok_facts hok
  have hpos : 0 < s := by omega
  unfold impl_WriteBar.f
  simp only [iok_eq, hok, isWord_eq, Option.bind_some, if_true, hv, and_self, decide_true]
  have h1 : 0 ≤ v / s := Int.ediv_nonneg hv.1 (by omega)
  have h2 : v / s * s ≤ v := Int.ediv_mul_le v hs
  have h3 : v / s ≤ v := Int.ediv_le_self _ hv.1
  have h4 : 0 ≤ v / s * s := Int.mul_nonneg h1 (by omega)
  rw [if_pos hpos, if_neg hs, Int.tdiv_eq_ediv_of_nonneg hv.1, wr (v / s) (by omega) (by omega), wr (v / s * s) (by omega) (by omega)]
theorem bok_zero (s : Int) (h : szB s = true) : bok s 0 = true := by
  have := szB_range h
  unfold bok
  rw [if_neg (by omega), h]
  simp
  omega
theorem bok_mult (s v : Int) (h : szB s = true) (hv : 0 ≤ v) (hb : v / s * s ≤ 65536 - s) : bok s (v / s * s) = true := by
  have := szB_range h
  have h1 : 0 ≤ v / s := Int.ediv_nonneg hv (by omega)
  have h4 : 0 ≤ v / s * s := Int.mul_nonneg h1 (by omega)
  unfold bok
  rw [if_neg (by omega), h]
  simp only [Bool.true_and, Bool.and_eq_true, decide_eq_true_eq, beq_iff_eq]
  exact ⟨⟨h4, hb⟩, Int.mul_tmod_left _ _⟩
theorem FnBars : laws_FnBars.Pure := by
  intro l hl1 hl2 hwf
  obtain ⟨k, hk⟩ : ∃ k : Nat, 4000 < k := ⟨4001, by omega⟩
  refine ⟨k, ?_⟩
  unfold laws_FnBars.f laws_big.f
  simp only [Option.bind_some, decide_eq_true_eq]
  by_cases hbig : (l.length : Int) > 1048576
  · rw [if_pos hbig]
  rw [if_neg hbig]
  have hs : l.length ≤ 1048576 := by omega
  obtain ⟨p, hp, hp12, hpx⟩ := places_some k l hs hk
  unfold spec_DrawBar.f spec_l23Bar.f
  obtain ⟨h, hn⟩ := new_some k l hs hk
  obtain ⟨s, i1, h1, e1, hmem, a1, a2⟩ := pick_some l 0 h [16, 64, 256, 4096, 32768, 0] hs (by omega) (by omega) (by simp) (by simp)
  obtain ⟨w, i2, h2, e2, b1, b2, a3, a4⟩ := below_some l i1 h1 65536 hs a1 a2 (by omega) (by omega)
  simp only [hn, e1, e2, hp, Option.bind_some]
  have hp0 : 0 ≤ rd p 0 ∧ rd p 0 < 10000 := by
    have := hpx (rd p ((0 : Nat) : Int)) (by rw [rd_nat _ _ (by omega)]; exact List.getElem_mem _)
    exact this
  rw [wr (rd p 0 * 6) (by omega) (by omega), Int.tmod_eq_emod_of_nonneg (by omega)]
  obtain ⟨v, hv⟩ : ∃ v, rd p 0 * 6 % 65536 = v := ⟨_, rfl⟩
  have hv0 : 0 ≤ v ∧ v ≤ 65535 := by omega
  rw [hv]
  have hlen : (0 < (p.length : Int)) = True := eq_true (by omega)
  clear hv hp0 hp hpx
  by_cases hs0 : s = 0
  · subst hs0
    have hb0 : bok 0 0 = true := by decide
    have hw : spec_WriteBar.f k 0 0 w = some (0, 0) := by
      unfold spec_WriteBar.f
      simp only [sok_eq k (by omega), hb0, l01In_eq, Option.bind_some, if_true]
      split <;> rfl
    have hi : ∀ x, impl_WriteBar.f 0 0 x = some (0, 0) := by
      intro x
      unfold impl_WriteBar.f
      simp only [iok_eq, hb0, isWord_eq, Option.bind_some, if_true]
      split <;> simp
    have hm : impl_SizeFromMask.f 0 = some 0 := by unfold impl_SizeFromMask.f; simp
    simp only [hlen, hw, hi, hm, iok_eq, hb0, Option.bind_some, if_true]
    obtain ⟨k, rfl⟩ : ∃ m, k = m + 1 := ⟨k - 1, by omega⟩
    simp only [laws_FnBars.j0]
    simp
  · have hsz : szB s = true := by
      simp only [List.mem_cons, List.not_mem_nil, or_false] at hmem
      rcases hmem with rfl | rfl | rfl | rfl | rfl | rfl <;> first | decide | exact absurd rfl hs0
    have hrange := szB_range hsz
    have hdiv : 65535 / s * s = 65536 - s := by
      simp only [List.mem_cons, List.not_mem_nil, or_false] at hmem
      rcases hmem with rfl | rfl | rfl | rfl | rfl | rfl <;> first | rfl | exact absurd rfl hs0
    have hle : ∀ x, 0 ≤ x → x ≤ 65535 → x / s * s ≤ 65536 - s := by
      intro x hx0 hx1
      rw [← hdiv]
      exact Int.mul_le_mul_of_nonneg_right (Int.ediv_le_ediv (by omega) hx1) (by omega)
    have hw : spec_WriteBar.f k s 0 w = some (s, w / s * s) := by
      unfold spec_WriteBar.f
      have q1 : 0 ≤ w / s := Int.ediv_nonneg b1 (by omega)
      have q2 : w / s * s ≤ w := Int.ediv_mul_le w hs0
      have q3 : w / s ≤ w := Int.ediv_le_self _ b1
      have q4 : 0 ≤ w / s * s := Int.mul_nonneg q1 (by omega)
      simp only [sok_eq k (by omega), bok_zero s hsz, l01In_eq, Option.bind_some, if_true]
      rw [if_pos (by rw [decide_eq_true_iff]; omega), if_neg hs0, Int.tdiv_eq_ediv_of_nonneg b1, wr (w / s) (by omega) (by omega), wr (w / s * s) (by omega) (by omega)]
    have hbb := bok_mult s w hsz b1 (hle w b1 (by omega))
    have hbv := bok_mult s v hsz hv0.1 (hle v hv0.1 hv0.2)
    have hf := bok_facts hbv
    have hmask : impl_SizeFromMask.f (65536 - s) = some s := by
      unfold impl_SizeFromMask.f
      rw [if_neg (by omega), isWord_eq]
      simp only [Option.bind_some]
      rw [if_pos (by rw [decide_eq_true_iff]; omega), wr _ (by omega) (by omega), show (65536 : Int) - (65536 - s) = s by omega, isz_eq, hsz]
      rfl
    have r1 : v / s * s ≤ v := Int.ediv_mul_le v hs0
    have r2 : v < v / s * s + s := by
      have := Int.lt_ediv_add_one_mul_self v (show 0 < s by omega)
      rw [Int.add_mul, Int.one_mul] at this
      exact this
    obtain ⟨b, hb⟩ : ∃ b, v / s * s = b := ⟨_, rfl⟩
    simp only [hlen, hw, Option.bind_some, write_eq s _ v hbb hs0 hv0, write_eq s _ 65535 hbb hs0 (by omega), iok_eq, hbv, if_true, hdiv, hmask]
    obtain ⟨k, rfl⟩ : ∃ m, k = m + 1 := ⟨k - 1, by omega⟩
    simp only [laws_FnBars.j0, hb]
    rw [hb] at hf r1 r2 hbv
    unfold impl_Covers.f impl_BarsOverlap.f impl_Bar_overlaps.f
    rw [if_neg (by simp), if_neg hs0, if_pos r1, wr (v - b) (by omega) (by omega), if_pos (by omega), wr (b - 1) (by omega) (by omega)]
    simp only [iok_eq, hbv, Option.bind_some, if_true, cov_eq s b v (by omega) (by omega) (by omega), cov_eq s b (b - 1) (by omega) (by omega) (by omega), cov_eq s b b (by omega) (by omega) (by omega)]
    rw [if_pos (by rw [decide_eq_true_iff]; omega), if_neg (by rw [decide_eq_true_iff]; omega), if_pos (by omega), if_pos (by omega), if_pos (by rw [decide_eq_true_iff]; omega)]
    rfl

end Go.Proofs.Ytcofbfjnkodpmaa.Pure
