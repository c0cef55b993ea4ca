/- Of every code: only a port that asks is granted, and one that asks gets its turn. -/
import Derived.Test.YtphlfmmhpmhjfaaPFnGrantsx6
import Derived.Test.YtphlfmmhpmhjfaaCom
namespace Go.Proofs.Ytphlfmmhpmhjfaa.Pure
open Go.RowKit Go.Proofs.Ytphlfmmhpmhjfaa.PFnGrants Go.Proofs.YtphlfmmhpmhjfaaW.PrintWords Go.Proofs.YtphlfmmhpmhjfaaW.PrintLast Go.Proofs.YtphlfmmhpmhjfaaW.PrintMore Go.Proofs.Ytphlfmmhpmhjfaa.Com
set_option linter.unusedVariables false
set_option linter.unusedSimpArgs false

theorem within_eq (a b c : Int) : impl_within.f a b c = some (decide (b ≤ a ∧ a ≤ c)) := by
  unfold impl_within.f; by_cases h : a ≥ b <;> simp [h]

/-- Weights are 1 to 4 of 1 to 9, the place and what is left fit. -/
def arb_ (l : List Int) (a b : Int) : Prop := (1 ≤ l.length ∧ l.length ≤ 4) ∧ (∀ x ∈ l, 1 ≤ x ∧ x ≤ 9) ∧ (0 ≤ a ∧ a ≤ (l.length : Int) - 1) ∧ (0 ≤ b ∧ b ≤ rd l a)
instance (l : List Int) (a b : Int) : Decidable (arb_ l a b) := by unfold arb_; infer_instance
theorem iarb_eq (l : List Int) (a b : Int) (hl : l.length ≤ 1048576) : impl_ArbiterOk.f l a b = some (decide (arb_ l a b)) := by
  have hv : ∀ x, (impl_ArbiterOk_1.f x).getD false = !decide (1 ≤ x ∧ x ≤ 9) := by
    intro x; unfold impl_ArbiterOk_1.f; rw [within_eq]; rfl
  have hany : slices_ContainsFunc_int_int_impl_ArbiterOk_1.f l = some (!decide (∀ x ∈ l, 1 ≤ x ∧ x ≤ 9)) := by
    unfold slices_ContainsFunc_int_int_impl_ArbiterOk_1.f
    congr 1
    simp only [hv]
    rw [Bool.eq_iff_iff, List.any_eq_true, Bool.not_eq_true', decide_eq_false_iff_not]
    simp only [Bool.not_eq_true', decide_eq_false_iff_not, Classical.not_forall, exists_prop]
  unfold impl_ArbiterOk.f
  rw [hany]
  simp only [within_eq, Option.bind_some, decide_eq_true_eq, wr ((l.length : Int) - 1) (by omega) (by omega)]
  by_cases h1 : 1 ≤ (l.length : Int) ∧ (l.length : Int) ≤ 4
  · rw [if_pos h1]
    by_cases h4 : ∀ x ∈ l, 1 ≤ x ∧ x ≤ 9
    · rw [if_neg (by rw [decide_eq_true h4]; simp)]
      by_cases h2 : 0 ≤ a ∧ a ≤ (l.length : Int) - 1
      · rw [if_pos h2, if_pos (by omega), if_pos (by omega)]
        congr 1
        rw [Bool.eq_iff_iff, decide_eq_true_eq, decide_eq_true_eq]
        unfold arb_
        exact ⟨fun h => ⟨by omega, h4, h2, h⟩, fun h => h.2.2.2⟩
      · rw [if_neg h2]
        congr 1; symm; rw [decide_eq_false_iff_not]; intro h; exact h2 h.2.2.1
    · rw [if_pos (by rw [decide_eq_false h4]; rfl)]
      congr 1; symm; rw [decide_eq_false_iff_not]; intro h; exact h4 h.2.1
  · rw [if_neg h1]
    congr 1; symm; rw [decide_eq_false_iff_not]; intro h; exact h1 (by have := h.1; omega)

theorem rd_mem (l : List Int) (p : Int) (h0 : 0 ≤ p) (h1 : p < (l.length : Int)) : rd l p ∈ l := by
  obtain ⟨m, rfl⟩ : ∃ m : Nat, p = m := ⟨p.toNat, by omega⟩
  rw [rd_nat _ _ (by omega)]; exact List.getElem_mem _

/-- The port after a's that asks, d steps from a + j on. -/
def nx_ (q : List Bool) (a n : Int) : Nat → Int → Option Int
  | 0, _ => none
  | d + 1, j => if rdOf false q (Int.tmod (a + j) n) = true then some (Int.tmod (a + j) n) else nx_ q a n d (j + 1)
/-- One grant. -/
def gr_ (l : List Int) (a b : Int) (q : List Bool) : List Int × Int × Int × Int :=
  if arb_ l a b ∧ q.length = l.length then
    (if rdOf false q a = true ∧ 0 < b then (l, a, b - 1, a) else match nx_ q a l.length l.length 1 with | some p => (l, p, rd l p - 1, p) | none => (l, a, b, -1))
  else (l, a, b, -1)
theorem tm_ (a n : Int) (h0 : 0 ≤ a) (hn : 0 < n) : 0 ≤ Int.tmod a n ∧ Int.tmod a n < n := ⟨Int.tmod_nonneg _ h0, Int.tmod_lt_of_pos _ hn⟩
theorem igl_eq (l : List Int) (a b : Int) (q : List Bool) (h : arb_ l a b) (hq : q.length = l.length) : ∀ (d k : Nat) (j : Int), 1 ≤ j → j + d = (l.length : Int) + 1 → d < k →
    impl_Grant.l0 k q (l.length : Int) j l a b l a b = some (match nx_ q a l.length d j with | some p => (l, p, rd l p - 1, p) | none => (l, a, b - 1, a)) := by
  obtain ⟨h1, h2, h3, h4⟩ := h
  have hb := h2 _ (rd_mem l a (by omega) (by omega))
  intro d
  induction d with
  | zero =>
    intro k j hj he hk
    obtain ⟨k, rfl⟩ : ∃ m, k = m + 1 := ⟨k - 1, by omega⟩
    simp only [impl_Grant.l0, nx_]
    rw [if_neg (by omega), wr (b - 1) (by omega) (by omega)]
  | succ d ih =>
    intro k j hj he hk
    obtain ⟨k, rfl⟩ : ∃ m, k = m + 1 := ⟨k - 1, by omega⟩
    obtain ⟨t0, t1⟩ := tm_ (a + j) (l.length : Int) (by omega) (by omega)
    have hm := h2 _ (rd_mem l _ t0 t1)
    simp only [impl_Grant.l0, nx_]
    rw [wr (a + j) (by omega) (by omega), if_pos (by omega), if_neg (by omega), if_pos t0, if_pos (by omega), wr (j + 1) (by omega) (by omega)]
    by_cases hx : rdOf false q (Int.tmod (a + j) (l.length : Int)) = true
    · rw [if_pos hx, if_pos hx, if_pos t1, wr _ (by omega) (by omega)]
    · rw [if_neg hx, if_neg hx]
      exact ih k (j + 1) (by omega) (by omega) (by omega)
theorem rdOf_nat {α : Type} (z : α) (xs : List α) (i : Nat) (h : i < xs.length) : rdOf z xs (i : Int) = xs[i] := by
  unfold rdOf; simp [List.getD_eq_getElem?_getD, h]
/-- The search goes over every port. -/
theorem nx_none (q : List Bool) (a n : Int) : ∀ (d : Nat) (j : Int), nx_ q a n d j = none → ∀ i : Int, j ≤ i → i < j + d → rdOf false q (Int.tmod (a + i) n) = false := by
  intro d
  induction d with
  | zero => intro j _ i h1 h2; omega
  | succ d ih =>
    intro j h i h1 h2
    unfold nx_ at h
    by_cases hx : rdOf false q (Int.tmod (a + j) n) = true
    · simp [hx] at h
    · rw [if_neg hx] at h
      by_cases e : i = j
      · subst e; simpa using hx
      · exact ih (j + 1) h i (by omega) (by omega)
theorem nx_some (q : List Bool) (a n p : Int) (ha : 0 ≤ a) (hn : 0 < n) : ∀ (d : Nat) (j : Int), 0 ≤ j → nx_ q a n d j = some p → rdOf false q p = true ∧ 0 ≤ p ∧ p < n := by
  intro d
  induction d with
  | zero => intro j _ h; simp [nx_] at h
  | succ d ih =>
    intro j hj h
    unfold nx_ at h
    by_cases hx : rdOf false q (Int.tmod (a + j) n) = true
    · rw [if_pos hx] at h
      injection h with h
      subst h
      exact ⟨hx, tm_ (a + j) n (by omega) hn⟩
    · rw [if_neg hx] at h
      exact ih (j + 1) (by omega) h
theorem nx_all (q : List Bool) (a n : Int) (ha : 0 ≤ a) (han : a < n) (hn : (n.toNat : Int) = n) (h : nx_ q a n n.toNat 1 = none) : ∀ p : Int, 0 ≤ p → p < n → rdOf false q p = false := by
  intro p h0 h1
  have e := nx_none q a n n.toNat 1 h
  by_cases hp : a < p
  · have e1 := e (p - a) (by omega) (by omega)
    rw [show a + (p - a) = p by omega, Int.tmod_eq_of_lt h0 h1] at e1
    exact e1
  · have e1 := e (p - a + n) (by omega) (by omega)
    rw [show a + (p - a + n) = p + n by omega, Int.tmod_eq_emod_of_nonneg (by omega), Int.add_emod_right, Int.emod_eq_of_lt h0 h1] at e1
    exact e1
theorem ibc_eq (k : Nat) (q : List Bool) (hl : q.length ≤ 1048576) (hk : q.length < k) : slices_Contains_bool_bool.f k q true = some (decide (true ∈ q)) := by
  unfold slices_Contains_bool_bool.f slices_Index_bool_bool.f
  have hL : ∀ (d k : Nat) (i : Nat), i + d = q.length → d < k → ∃ r : Int, slices_Index_bool_bool.l0 k q true (q.length : Int) (i : Int) = some r ∧ (0 ≤ r ↔ true ∈ q.drop i) := by
    intro d
    induction d with
    | zero =>
      intro k i hi hk
      obtain ⟨k, rfl⟩ : ∃ m, k = m + 1 := ⟨k - 1, by omega⟩
      simp only [slices_Index_bool_bool.l0]
      rw [if_neg (by omega), List.drop_of_length_le (by omega)]
      exact ⟨-1, rfl, by simp⟩
    | succ d ih =>
      intro k i hi hk
      obtain ⟨k, rfl⟩ : ∃ m, k = m + 1 := ⟨k - 1, by omega⟩
      simp only [slices_Index_bool_bool.l0]
      rw [if_pos (by omega), if_pos (by omega), if_pos (by omega), rdOf_nat _ _ _ (by omega), List.drop_eq_getElem_cons (by omega), wr ((i : Int) + 1) (by omega) (by omega)]
      by_cases hx : q[i]'(by omega) = true
      · rw [hx]
        exact ⟨i, rfl, by simp⟩
      · rw [if_neg (by simpa using hx)]
        obtain ⟨r, e1, e2⟩ := ih k (i + 1) (by omega) (by omega)
        refine ⟨r, e1, ?_⟩
        rw [e2]
        simp only [Bool.not_eq_true] at hx
        simp [hx]
  obtain ⟨r, e1, e2⟩ := hL q.length k 0 (by omega) hk
  have e1' : slices_Index_bool_bool.l0 k q true (q.length : Int) 0 = some r := e1
  rw [e1']
  simp only [Option.bind_some]
  congr 1
  rw [Bool.eq_iff_iff, decide_eq_true_eq, decide_eq_true_eq]
  simpa using e2
theorem igr_eq (k : Nat) (l : List Int) (a b : Int) (q : List Bool) (hl : l.length ≤ 1048576) (hk : l.length + 10 < k) : impl_Grant.f k l a b q = some (gr_ l a b q) := by
  obtain ⟨k, rfl⟩ : ∃ m, k = m + 2 := ⟨k - 2, by omega⟩
  unfold impl_Grant.f impl_copyArbiter.f slices_Clone_int_int.f
  rw [if_pos (by omega)]
  simp only [Option.bind_some]
  rw [iarb_eq _ _ _ hl]
  simp only [Option.bind_some, decide_eq_true_eq]
  by_cases h : arb_ l a b
  · rw [if_pos h]
    by_cases hq : q.length = l.length
    · have hh := h
      obtain ⟨h1, h2, h3, h4⟩ := h
      have hb := h2 _ (rd_mem l a (by omega) (by omega))
      unfold gr_
      rw [if_pos (show arb_ l a b ∧ q.length = l.length from ⟨hh, hq⟩), if_pos (by omega), ibc_eq _ _ (by omega) (by omega)]
      simp only [impl_Grant.j0, Option.bind_some]
      have hin : ∀ p : Int, 0 ≤ p → p < (l.length : Int) → rdOf false q p = true → true ∈ q := by
        intro p p0 p1 hp
        obtain ⟨m, rfl⟩ : ∃ m : Nat, p = m := ⟨p.toNat, by omega⟩
        rw [rdOf_nat _ _ _ (by omega)] at hp
        rw [← hp]; exact List.getElem_mem _
      by_cases hc : true ∈ q
      · rw [if_neg (by simp [hc]), if_pos (by omega), if_pos (by omega)]
        have hL := igl_eq l a b q hh hq l.length k 1 (by omega) (by omega) (by omega)
        have hno : nx_ q a l.length l.length 1 ≠ none := by
          intro e
          have hall := nx_all q a l.length (by omega) (by omega) (by omega) (by simpa using e)
          obtain ⟨m, hm, e2⟩ := List.getElem_of_mem hc
          have := hall (m : Int) (by omega) (by omega)
          rw [rdOf_nat _ _ _ hm, e2] at this
          cases this
        have hL' : impl_Grant.l0 k q (l.length : Int) 1 l a b l a b = some (match nx_ q a l.length l.length 1 with | some p => (l, p, rd l p - 1, p) | none => (l, a, b, -1)) := by
          rw [hL]
          cases e : nx_ q a l.length l.length 1 with
          | none => exact absurd e hno
          | some p => rfl
        by_cases hx : rdOf false q a = true
        · rw [if_pos hx]
          simp only [impl_Grant.j1]
          by_cases hp : b > 0
          · rw [if_neg (by simp; omega), if_pos (show rdOf false q a = true ∧ 0 < b from ⟨hx, hp⟩), wr (b - 1) (by omega) (by omega)]
          · rw [if_pos (by simp; omega), if_neg (show ¬ (rdOf false q a = true ∧ 0 < b) from fun h => hp h.2), hL']
        · rw [if_neg hx]
          simp only [impl_Grant.j1]
          rw [if_pos trivial, if_neg (show ¬ (rdOf false q a = true ∧ 0 < b) from fun h => hx h.1), hL']
      · rw [if_pos (by simp [hc]), if_neg (show ¬ (rdOf false q a = true ∧ 0 < b) from fun h => hc (hin a (by omega) (by omega) h.1))]
        cases e : nx_ q a l.length l.length 1 with
        | none => rfl
        | some p =>
          obtain ⟨e1, e2, e3⟩ := nx_some q a _ p (by omega) (by omega) _ _ (by omega) e
          exact absurd (hin p e2 e3 e1) hc
    · unfold gr_
      rw [if_neg (show ¬ (arb_ l a b ∧ q.length = l.length) from fun h => hq h.2), if_neg (by omega)]
      simp only [impl_Grant.j0]
      rw [if_pos trivial]
  · rw [if_neg h]
    unfold gr_
    rw [if_neg (fun e => h e.1)]
    simp only [impl_Grant.j0]
    rw [if_pos trivial]

/-- A grant leaves the weights, and after one that was given the arbiter is right and the next is given too. -/
theorem gr_w (l : List Int) (a b : Int) (q : List Bool) : (gr_ l a b q).1 = l := by
  unfold gr_
  by_cases h : arb_ l a b ∧ q.length = l.length
  · rw [if_pos h]
    by_cases hx : rdOf false q a = true ∧ 0 < b
    · rw [if_pos hx]
    · rw [if_neg hx]
      split <;> rfl
  · rw [if_neg h]
theorem gr_ok (l : List Int) (a b : Int) (q : List Bool) (h : 0 ≤ (gr_ l a b q).2.2.2) : arb_ l (gr_ l a b q).2.1 (gr_ l a b q).2.2.1 ∧ q.length = l.length ∧ (gr_ l a b q).2.1 = (gr_ l a b q).2.2.2 ∧ rdOf false q (gr_ l a b q).2.2.2 = true ∧ (gr_ l a b q).2.2.2 < l.length := by
  unfold gr_ at h ⊢
  by_cases hc : arb_ l a b ∧ q.length = l.length
  · rw [if_pos hc] at h ⊢
    obtain ⟨⟨h1, h2, h3, h4⟩, hq⟩ := hc
    by_cases hx : rdOf false q a = true ∧ 0 < b
    · rw [if_pos hx] at h ⊢
      exact ⟨⟨h1, h2, h3, by show 0 ≤ b - 1 ∧ b - 1 ≤ rd l a; omega⟩, hq, rfl, hx.1, by show a < _; omega⟩
    · rw [if_neg hx] at h ⊢
      cases e : nx_ q a l.length l.length 1 with
      | none => rw [e] at h; exact absurd h (by simp)
      | some p =>
        obtain ⟨e1, e2, e3⟩ := nx_some q a _ p (by omega) (by omega) _ _ (by omega) e
        have hm := h2 _ (rd_mem l p e2 e3)
        exact ⟨⟨h1, h2, by show 0 ≤ p ∧ p ≤ _; omega, by show 0 ≤ rd l p - 1 ∧ rd l p - 1 ≤ rd l p; omega⟩, hq, rfl, e1, e3⟩
  · rw [if_neg hc] at h; exact absurd h (by simp)
theorem gr_go (l : List Int) (a b : Int) (q : List Bool) (h : arb_ l a b) (hq : q.length = l.length) (p : Int) (p0 : 0 ≤ p) (p1 : p < l.length) (hp : rdOf false q p = true) : 0 ≤ (gr_ l a b q).2.2.2 := by
  unfold gr_
  rw [if_pos ⟨h, hq⟩]
  obtain ⟨h1, h2, h3, h4⟩ := h
  by_cases hx : rdOf false q a = true ∧ 0 < b
  · rw [if_pos hx]; exact h3.1
  · rw [if_neg hx]
    cases e : nx_ q a l.length l.length 1 with
    | none =>
      have := nx_all q a l.length (by omega) (by omega) (by omega) (by simpa using e) p p0 p1
      rw [this] at hp; cases hp
    | some p =>
      obtain ⟨e1, e2, e3⟩ := nx_some q a _ p (by omega) (by omega) _ _ (by omega) e
      exact e2
/-- The ports of d grants, or of those till none is given. -/
def rg_ (l : List Int) (q : List Bool) : Nat → Int → Int → List Int → List Int
  | 0, _, _, out => out
  | d + 1, a, b, out => if (gr_ l a b q).2.2.2 < 0 then out else rg_ l q d (gr_ l a b q).2.1 (gr_ l a b q).2.2.1 (out ++ [(gr_ l a b q).2.2.2])
theorem rg_length (l : List Int) (q : List Bool) : ∀ d a b out, (rg_ l q d a b out).length ≤ out.length + d := by
  intro d
  induction d with
  | zero => intro a b out; simp [rg_]
  | succ d ih =>
    intro a b out
    unfold rg_
    split
    · omega
    · have := ih (gr_ l a b q).2.1 (gr_ l a b q).2.2.1 (out ++ [(gr_ l a b q).2.2.2])
      simp only [List.length_append, List.length_cons, List.length_nil] at this
      omega
theorem irg_eq (l : List Int) (q : List Bool) (n : Int) (hl : l.length ≤ 1048576) (hn : n ≤ 200) : ∀ (d k : Nat) (j a b : Int) (out : List Int), 0 ≤ j → j + d = n → d + l.length + 12 < k → out.length ≤ j.toNat → (0 ≤ (gr_ l a b q).2.2.2 ∨ out = []) →
    impl_RunGrants.l0 k q out n j l a b = some (rg_ l q d a b out) := by
  intro d
  induction d with
  | zero =>
    intro k j a b out hj he hk ho hg
    obtain ⟨k, rfl⟩ : ∃ m, k = m + 1 := ⟨k - 1, by omega⟩
    simp only [impl_RunGrants.l0, rg_]
    rw [if_neg (by omega)]
  | succ d ih =>
    intro k j a b out hj he hk ho hg
    obtain ⟨k, rfl⟩ : ∃ m, k = m + 1 := ⟨k - 1, by omega⟩
    simp only [impl_RunGrants.l0, rg_]
    rw [if_pos (by omega), igr_eq k l a b q hl (by omega)]
    simp only [Option.bind_some]
    by_cases hx : (gr_ l a b q).2.2.2 < 0
    · rw [if_pos hx, if_pos hx]
      rcases hg with hg | hg
      · omega
      · rw [hg]
    · rw [if_neg hx, if_neg hx, if_pos (by omega), gr_w, wr (j + 1) (by omega) (by omega)]
      obtain ⟨g1, g2, g3, g4, g5⟩ := gr_ok l a b q (by omega)
      exact ih k (j + 1) _ _ _ (by omega) (by omega) (by omega) (by simp; omega) (.inl (gr_go l _ _ q g1 g2 _ (by omega) g5 g4))
theorem irun_eq (l : List Int) (a b : Int) (q : List Bool) (n : Int) (hl : l.length ≤ 1048576) (hn : 1 ≤ n ∧ n ≤ 200) (k : Nat) (hk : l.length + 300 < k) : impl_RunGrants.f k l a b q n = some (rg_ l q n.toNat a b []) := by
  unfold impl_RunGrants.f
  simp only [Option.bind_some, within_eq, decide_eq_true_eq]
  rw [if_pos hn]
  exact irg_eq l q n hl hn.2 n.toNat k 0 a b [] (by omega) (by omega) (by omega) (by simp) (.inr rfl)

/-- The lowest eight bits. -/
theorem and255 (x : Int) : 0 ≤ Go.bits .and .i64 x 255 ∧ Go.bits .and .i64 x 255 ≤ 255 := by
  have h1 : (BitVec.ofInt 64 x &&& BitVec.ofInt 64 255).toNat ≤ 255 := by
    rw [BitVec.toNat_and]
    exact Nat.le_trans Nat.and_le_right (by decide)
  have h2 : Go.bits .and .i64 x 255 = IntKind.i64.wrap ((BitVec.ofInt 64 x &&& BitVec.ofInt 64 255).toNat : Int) := rfl
  rw [h2, Go.IntKind.wrap_i64]
  omega
theorem byte_some (s : List Int) (i h : Int) (hs : s.length ≤ 1048576) (h0 : 0 ≤ i) (h1 : i ≤ s.length) :
    ∃ x i' h', spec_l01Byte.f s i h = some (x, i', h') ∧ 0 ≤ x ∧ x ≤ 255 ∧ 0 ≤ i' ∧ i' ≤ s.length := by
  unfold spec_l01Byte.f
  by_cases hlt : i < (s.length : Int)
  · rw [if_pos hlt, if_pos h0]
    refine ⟨_, _, _, rfl, (and255 _).1, (and255 _).2, ?_, ?_⟩ <;> rw [wr _ (by omega) (by omega)] <;> omega
  · rw [if_neg hlt]
    exact ⟨_, _, _, rfl, (and255 _).1, (and255 _).2, h0, h1⟩
theorem below_some (s : List Int) (i h n : Int) (hs : s.length ≤ 1048576) (h0 : 0 ≤ i) (h1 : i ≤ s.length) (hn : 0 < n) (hm : n ≤ 4294967296) :
    ∃ x i' h', spec_l01Below.f s i h n = some (x, i', h') ∧ 0 ≤ x ∧ x < n ∧ 0 ≤ i' ∧ i' ≤ s.length := by
  unfold spec_l01Below.f
  rw [if_neg (by omega)]
  by_cases hlt : n ≤ 256
  · rw [if_pos hlt]
    obtain ⟨x, i1, h1', e, x0, x1, i0, i2⟩ := byte_some s i h hs h0 h1
    rw [e]
    simp only [Option.bind_some]
    rw [if_neg (by omega)]
    refine ⟨_, _, _, rfl, ?_, ?_, i0, i2⟩
    · exact Int.tmod_nonneg _ x0
    · exact Int.tmod_lt_of_pos _ hn
  · rw [if_neg hlt]
    obtain ⟨x, i1, h1', e, x0, x1, i0, i2⟩ := byte_some s i h hs h0 h1
    obtain ⟨y, i3, h3', e3, y0, y1, i4, i5⟩ := byte_some s i1 h1' hs i0 i2
    obtain ⟨z, i6, h6', e6, z0, z1, i7, i8⟩ := byte_some s i3 h3' hs i4 i5
    obtain ⟨w, i9, h9', e9, w0, w1, i10, i11⟩ := byte_some s i6 h6' hs i7 i8
    simp only [e, e3, e6, e9, Option.bind_some]
    rw [if_neg (by omega)]
    refine ⟨_, _, _, rfl, ?_, ?_, i10, i11⟩
    · rw [wr (x * 16777216) (by omega) (by omega), wr (y * 65536) (by omega) (by omega), wr (z * 256) (by omega) (by omega), wr (x * 16777216 + y * 65536) (by omega) (by omega), wr (x * 16777216 + y * 65536 + z * 256) (by omega) (by omega), wr _ (by omega) (by omega)]
      exact Int.tmod_nonneg _ (by omega)
    · exact Int.tmod_lt_of_pos _ hn
theorem new_some (k : Nat) (s : List Int) (hs : s.length ≤ 1048576) (hk : 4000 < k) : ∃ h, spec_l01New.f k s = some (s, 0, h) := by
  have key : ∀ d k (h : Int) (i : Nat), i + d = 4000 → d < k → ∃ h', spec_l01New.l0 k s h (i : Int) = some (s, 0, h') := by
    intro d
    induction d with
    | zero =>
      intro k h i hi hk
      obtain ⟨k, rfl⟩ : ∃ m, k = m + 1 := ⟨k - 1, by omega⟩
      simp only [spec_l01New.l0]
      rw [if_neg (show ¬ ((i : Int) < 4000) by omega)]
      split <;> exact ⟨_, rfl⟩
    | succ d ih =>
      intro k h i hi hk
      obtain ⟨k, rfl⟩ : ∃ m, k = m + 1 := ⟨k - 1, by omega⟩
      simp only [spec_l01New.l0]
      by_cases hlt : (i : Int) < s.length
      · rw [if_pos hlt, if_pos (by omega), if_pos (by omega), wr ((i : Int) + 1) (by omega) (by omega)]
        exact ih k _ (i + 1) (by omega) (by omega)
      · rw [if_neg hlt]; exact ⟨_, rfl⟩
  exact key 4000 k _ 0 (by omega) hk

/-- A drawn arbiter: right, with weights 1 to 4. -/
theorem arb_some (k : Nat) (s : List Int) (hs : s.length ≤ 1048576) (hk : 5000 < k) : ∃ l a b, spec_DrawArbiter.f k s = some (l, a, b) ∧ arb_ l a b ∧ ∀ x ∈ l, x ≤ 4 := by
  have key : ∀ d k (n : Nat) (w : List Int) (i : Nat) (j h : Int), 1 ≤ n → n ≤ 4 → i + d = n → d < k → w.length = i → (∀ x ∈ w, 1 ≤ x ∧ x ≤ 4) → 0 ≤ j → j ≤ s.length →
      ∃ l a b j' h', spec_l18Arbiter.l0 k w (n : Int) (i : Int) s j h = some (l, a, b, j', h') ∧ arb_ l a b ∧ ∀ x ∈ l, x ≤ 4 := by
    intro d
    induction d with
    | zero =>
      intro k n w i j h hn1 hn4 hi hk hw hx h0 h1
      obtain ⟨k, rfl⟩ : ∃ m, k = m + 1 := ⟨k - 1, by omega⟩
      simp only [spec_l18Arbiter.l0]
      obtain ⟨x, i1, h1', e, x0, x1, i0, i2⟩ := below_some s j h n hs h0 h1 (by omega) (by omega)
      have hv := hx _ (rd_mem w x x0 (by omega))
      obtain ⟨y, i3, h3', e3, y0, y1, i4, i5⟩ := below_some s i1 h1' (rd w x + 1) hs i0 i2 (by omega) (by omega)
      rw [if_neg (by omega), e, Option.bind_some, if_pos x0, if_pos (by omega), wr (rd w x + 1) (by omega) (by omega), e3]
      exact ⟨w, x, y, _, _, rfl, ⟨by omega, fun z hz => by have := hx z hz; omega, by omega, by omega⟩, fun z hz => (hx z hz).2⟩
    | succ d ih =>
      intro k n w i j h hn1 hn4 hi hk hw hx h0 h1
      obtain ⟨k, rfl⟩ : ∃ m, k = m + 1 := ⟨k - 1, by omega⟩
      simp only [spec_l18Arbiter.l0]
      obtain ⟨x, i1, h1', e, x0, x1, i0, i2⟩ := below_some s j h 4 hs h0 h1 (by omega) (by omega)
      rw [if_pos (by omega), e, Option.bind_some, if_pos (by omega), wr (1 + x) (by omega) (by omega), wr ((i : Int) + 1) (by omega) (by omega)]
      refine ih k n _ (i + 1) _ _ hn1 hn4 (by omega) (by omega) (by simp [hw]) (fun z hz => ?_) i0 i2
      rcases List.mem_append.1 hz with hz | hz
      · exact hx z hz
      · rw [List.mem_singleton.1 hz]; omega
  obtain ⟨h, hn⟩ := new_some k s hs (by omega)
  obtain ⟨x, i1, h1', e, x0, x1, i0, i2⟩ := below_some s 0 h 4 hs (by omega) (by omega) (by omega) (by omega)
  obtain ⟨m, hm⟩ : ∃ m : Nat, 1 + x = (m : Int) := ⟨(1 + x).toNat, by omega⟩
  obtain ⟨l, a, b, j', h', e1, e2, e3⟩ := key m k m [] 0 i1 h1' (by omega) (by omega) (by omega) (by omega) rfl (by simp) i0 i2
  refine ⟨l, a, b, ?_, e2, e3⟩
  have e1' : spec_l18Arbiter.l0 k [] (m : Int) 0 s i1 h1' = some (l, a, b, j', h') := e1
  unfold spec_DrawArbiter.f spec_l18Arbiter.f
  rw [hn]
  simp only [Option.bind_some]
  rw [e, Option.bind_some, wr (1 + x) (by omega) (by omega), hm, e1']
  rfl


theorem places_some (k : Nat) (s : List Int) (hs : s.length ≤ 1048576) (hk : 4000 < k) : ∃ p, spec_DrawPlaces.f k s = some p ∧ p.length = 12 ∧ ∀ x ∈ p, 0 ≤ x ∧ x < 10000 := by
  have key : ∀ d k (p : List Int) (i : Nat) (j h : Int), i + d = 12 → d < k → p.length = i → 0 ≤ j → j ≤ s.length → (∀ x ∈ p, 0 ≤ x ∧ x < 10000) →
      ∃ q, spec_DrawPlaces.l0 k p (i : Int) s j h = some q ∧ q.length = 12 ∧ ∀ x ∈ q, 0 ≤ x ∧ x < 10000 := by
    intro d
    induction d with
    | zero =>
      intro k p i j h hi hk hp h0 h1 hx
      obtain ⟨k, rfl⟩ : ∃ m, k = m + 1 := ⟨k - 1, by omega⟩
      simp only [spec_DrawPlaces.l0]
      rw [if_neg (by omega)]
      exact ⟨p, rfl, by omega, hx⟩
    | succ d ih =>
      intro k p i j h hi hk hp h0 h1 hx
      obtain ⟨k, rfl⟩ : ∃ m, k = m + 1 := ⟨k - 1, by omega⟩
      simp only [spec_DrawPlaces.l0]
      obtain ⟨x, i1, h1', e, x0, x1, i0, i2⟩ := below_some s j h 10000 hs h0 h1 (by omega) (by omega)
      rw [if_pos (by omega), e]
      simp only [Option.bind_some]
      rw [if_pos (by omega), wr ((i : Int) + 1) (by omega) (by omega)]
      refine ih k _ (i + 1) _ _ (by omega) (by omega) (by simp [hp]) i0 i2 (fun y hy => ?_)
      rcases List.mem_append.1 hy with hy | hy
      · exact hx y hy
      · rw [List.mem_singleton.1 hy]; exact ⟨x0, x1⟩
  obtain ⟨h, hn⟩ := new_some k s hs hk
  unfold spec_DrawPlaces.f
  rw [hn]
  exact key 12 k [] 0 0 h (by omega) (by omega) rfl (by omega) (by omega) (by simp)

/-- As Option.bind_some, but not by rfl: rewriting with it below an 'if' with a great number keeps the kernel from unfolding that number. -/
theorem obs {α β : Type} (a : α) (f : α → Option β) : (some a).bind f = f a := by rw [Option.bind_some]

def shr_ (l : List Int) (p : Int) : Int := l.foldl (fun s x => if x = p then wrap64 (s + 1) else s) 0
theorem ishr_eq (k : Nat) (l : List Int) (p : Int) (hl : l.length ≤ 1048576) (hk : l.length < k) : impl_SharesOf.f k l p = some (shr_ l p) := by
  have h := fold_loop (fun k s i => impl_SharesOf.l0 k p s l (l.length : Int) i) l (fun s x => if x = p then wrap64 (s + 1) else s) id (fun k s i h => by
      simp only [impl_SharesOf.l0]
      rw [if_pos (by omega), if_pos (by omega), if_pos (by omega), rd_nat _ _ h, wr ((i : Int) + 1) (by omega) (by omega)]
      split <;> rfl) (fun k s => by
      simp only [impl_SharesOf.l0]
      rw [if_neg (by omega)]; rfl) l.length k 0 0 (by omega) hk
  exact h

theorem rg_keep (l : List Int) (q : List Bool) (x : Int) : ∀ d a b out, x ∈ out → x ∈ rg_ l q d a b out := by
  intro d
  induction d with
  | zero => intro a b out h; exact h
  | succ d ih =>
    intro a b out h
    unfold rg_
    split
    · exact h
    · exact ih _ _ _ (by simp [h])
theorem rg_all (l : List Int) (q : List Bool) (P : Int → Prop) (hP : ∀ a b, 0 ≤ (gr_ l a b q).2.2.2 → P (gr_ l a b q).2.2.2) : ∀ d a b out, (∀ x ∈ out, P x) → ∀ x ∈ rg_ l q d a b out, P x := by
  intro d
  induction d with
  | zero => intro a b out h; exact h
  | succ d ih =>
    intro a b out h
    unfold rg_
    split
    · exact h
    · rename_i hx
      refine ih _ _ _ (fun x hx2 => ?_)
      rcases List.mem_append.1 hx2 with hx2 | hx2
      · exact h x hx2
      · rw [List.mem_singleton.1 hx2]; exact hP a b (by omega)
theorem nx_first (q : List Bool) (a n : Int) : ∀ (d : Nat) (j0 : Int) (p : Int), nx_ q a n d j0 = some p → ∃ j, j0 ≤ j ∧ j < j0 + d ∧ p = Int.tmod (a + j) n ∧ ∀ i, j0 ≤ i → i < j → rdOf false q (Int.tmod (a + i) n) = false := by
  intro d
  induction d with
  | zero => intro j0 p h; simp [nx_] at h
  | succ d ih =>
    intro j0 p h
    unfold nx_ at h
    by_cases hx : rdOf false q (Int.tmod (a + j0) n) = true
    · rw [if_pos hx] at h
      injection h with h
      exact ⟨j0, by omega, by omega, h.symm, fun i h1 h2 => by omega⟩
    · rw [if_neg hx] at h
      obtain ⟨j, h1, h2, h3, h4⟩ := ih (j0 + 1) p h
      refine ⟨j, by omega, by omega, h3, fun i i1 i2 => ?_⟩
      by_cases e : i = j0
      · subst e; simpa using hx
      · exact h4 i (by omega) i2
/-- A port that asks gets its turn. -/
theorem turn_ (l : List Int) (q : List Bool) (p : Int) (hq : q.length = l.length) (hp : rdOf false q p = true) (p0 : 0 ≤ p) (p1 : p < l.length) (hw : ∀ x ∈ l, x ≤ 4) :
    ∀ (d : Nat) (a b D : Int) (out : List Int), arb_ l a b → 0 ≤ D → D ≤ l.length → (D = 0 → 0 < b) → p = Int.tmod (a + D) l.length → 4 * D + b < d → p ∈ rg_ l q d a b out := by
  intro d
  induction d with
  | zero => intro a b D out ha h0 h1 h2 h3 h4; have := ha.2.2.2.1; omega
  | succ d ih =>
    intro a b D out ha h0 h1 h2 h3 h4
    have hgo := gr_go l a b q ha hq p p0 p1 hp
    obtain ⟨g1, g2, g3, g4, g5⟩ := gr_ok l a b q hgo
    unfold rg_
    rw [if_neg (by omega)]
    obtain ⟨ha1, ha2, ha3, ha4⟩ := ha
    have hn : 0 < (l.length : Int) := by omega
    by_cases hx : rdOf false q a = true ∧ 0 < b
    · have e : gr_ l a b q = (l, a, b - 1, a) := by
        unfold gr_
        rw [if_pos ⟨⟨ha1, ha2, ha3, ha4⟩, hq⟩, if_pos hx]
      rw [e] at g1 ⊢
      by_cases ea : a = p
      · exact rg_keep l q p _ _ _ _ (by simp [ea])
      · have hD : D ≠ 0 := by
          rintro rfl
          rw [show a + 0 = a by omega, Int.tmod_eq_of_lt ha3.1 (by omega)] at h3
          exact ea h3.symm
        exact ih a (b - 1) D _ g1 h0 h1 (fun e => absurd e hD) h3 (by omega)
    · cases en : nx_ q a l.length l.length 1 with
      | none =>
        have := nx_all q a l.length (by omega) (by omega) (by omega) (by simpa using en) p p0 p1
        rw [this] at hp; cases hp
      | some p' =>
        have e : gr_ l a b q = (l, p', rd l p' - 1, p') := by
          unfold gr_
          rw [if_pos ⟨⟨ha1, ha2, ha3, ha4⟩, hq⟩, if_neg hx, en]
        rw [e] at g1 ⊢
        obtain ⟨j, j1, j2, j3, j4⟩ := nx_first q a l.length _ _ _ en
        have hD : D ≠ 0 := by
          rintro rfl
          rw [show a + 0 = a by omega, Int.tmod_eq_of_lt ha3.1 (by omega)] at h3
          exact hx ⟨h3 ▸ hp, h2 rfl⟩
        have hjD : j ≤ D := by
          rcases Int.lt_or_le D j with h | h
          · have := j4 D (by omega) h
            rw [← h3, hp] at this; cases this
          · exact h
        by_cases ej : j = D
        · exact rg_keep l q p _ _ _ _ (by rw [h3, j3, ej]; simp)
        · have hp' := (tm_ (a + j) (l.length : Int) (by omega) hn)
          rw [← j3] at hp'
          have hwp := hw _ (rd_mem l p' hp'.1 hp'.2)
          refine ih p' (rd l p' - 1) (D - j) _ g1 (by omega) (by omega) (fun e => by omega) ?_ (by omega)
          rw [h3, j3, Int.tmod_eq_emod_of_nonneg (show 0 ≤ a + D by omega), Int.tmod_eq_emod_of_nonneg (show 0 ≤ a + j by omega), Int.tmod_eq_emod_of_nonneg (by have := Int.emod_nonneg (a + j) (show (l.length : Int) ≠ 0 by omega); omega), Int.emod_add_emod]
          congr 1; omega
/-- A port's count: none, or more. -/
theorem shr_go (p : Int) : ∀ (l : List Int) (s : Int), 0 ≤ s → s + l.length ≤ 9223372036854775807 → (l.foldl (fun s x => if x = p then wrap64 (s + 1) else s) s) = s + (l.count p : Nat) := by
  intro l
  induction l with
  | nil => intro s _ _; simp
  | cons x l ih =>
    intro s h0 h1
    simp only [List.length_cons] at h1
    rw [List.foldl_cons, List.count_cons]
    by_cases hx : x = p
    · subst hx
      rw [if_pos rfl, wr (s + 1) (by omega) (by omega), ih _ (by omega) (by omega)]
      simp; omega
    · rw [if_neg hx, ih s h0 (by omega)]
      simp [hx]
theorem shr_count (l : List Int) (p : Int) (hl : l.length ≤ 1048576) : shr_ l p = (l.count p : Nat) := by
  unfold shr_; rw [shr_go p l 0 (by omega) (by omega)]; omega

theorem mem_of_rdOf (q : List Bool) (p : Int) (p0 : 0 ≤ p) (p1 : p < q.length) (hp : rdOf false q p = true) : true ∈ q := by
  obtain ⟨m, rfl⟩ : ∃ m : Nat, p = m := ⟨p.toNat, by omega⟩
  rw [rdOf_nat _ _ _ (by omega)] at hp
  rw [← hp]; exact List.getElem_mem _
theorem gr_none (l : List Int) (a b : Int) (q : List Bool) (ha : arb_ l a b) (hq : q.length = l.length) (hn : true ∉ q) : (gr_ l a b q).2.2.2 = -1 := by
  obtain ⟨h1, h2, h3, h4⟩ := ha
  have hx : ¬ rdOf false q a = true := fun h => hn (mem_of_rdOf q a h3.1 (by omega) h)
  unfold gr_
  rw [if_pos ⟨⟨h1, h2, h3, h4⟩, hq⟩, if_neg (fun h => hx h.1)]
  cases en : nx_ q a l.length l.length 1 with
  | none => rfl
  | some p =>
    obtain ⟨e1, e2, e3⟩ := nx_some q a _ p (by omega) (by omega) _ _ (by omega) en
    exact absurd (mem_of_rdOf q p e2 (by omega) e1) hn
theorem ask_iff (l : List Int) (a b : Int) (q : List Bool) (ha : arb_ l a b) (hw : ∀ x ∈ l, x ≤ 4) (hq : q.length = l.length) (i : Nat) (hi : i < q.length) :
    rdOf false q (i : Int) = decide (shr_ (rg_ l q 40 a b []) (i : Int) > 0) := by
  have hlen := rg_length l q 40 a b []
  simp only [List.length_nil] at hlen
  rw [shr_count _ _ (by omega)]
  by_cases hx : rdOf false q (i : Int) = true
  · rw [hx]
    have hmem : (i : Int) ∈ rg_ l q 40 a b [] := by
      have ha3 := ha.2.2.1
      have ha1 := ha.1
      have hb4 := ha.2.2.2
      have hwa := hw _ (rd_mem l a ha3.1 (by omega))
      have hn : (0 : Int) < l.length := by omega
      by_cases hai : (i : Int) ≤ a
      · refine turn_ l q i hq hx (by omega) (by omega) hw 40 a b ((i : Int) - a + l.length) [] ha (by omega) (by omega) (by omega) ?_ (by omega)
        rw [show a + ((i : Int) - a + l.length) = (i : Int) + l.length by omega, Int.tmod_eq_emod_of_nonneg (by omega), Int.add_emod_right, Int.emod_eq_of_lt (by omega) (by omega)]
      · refine turn_ l q i hq hx (by omega) (by omega) hw 40 a b ((i : Int) - a) [] ha (by omega) (by omega) (by omega) ?_ (by omega)
        rw [show a + ((i : Int) - a) = (i : Int) by omega, Int.tmod_eq_of_lt (by omega) (by omega)]
    symm
    rw [decide_eq_true_eq]
    have := List.count_pos_iff.mpr hmem
    omega
  · have hnm : (i : Int) ∉ rg_ l q 40 a b [] := fun hm => by
      have := rg_all l q (fun y => rdOf false q y = true) (fun a b h => (gr_ok l a b q h).2.2.2.1) 40 a b [] (by simp) _ hm
      exact hx this
    rw [List.count_eq_zero_of_not_mem hnm]
    simpa using hx
theorem grants_end (l : List Int) (a b : Int) (p : List Int) (q : List Bool) (ha : arb_ l a b) (hw : ∀ x ∈ l, x ≤ 4) (hq : q.length = l.length) (k : Nat) (hk : 1000 < k) :
    laws_FnGrants.l0 (k + 1) p q (decide (true ∈ q)) (l.length : Int) l a b = some true := by
  have h14 := ha.1
  have hg := igr_eq k l a b q (by omega) (by omega)
  simp only [laws_FnGrants.l0]
  rw [if_neg (by omega), hg, obs]
  by_cases hm : true ∈ q
  · have hr := irun_eq l a b q 40 (by omega) (by omega) k (by omega)
    rw [show ((40 : Int)).toNat = 40 from rfl] at hr
    rw [decide_eq_true hm, if_pos rfl, hr, obs]
    obtain ⟨j, hj, e⟩ := List.getElem_of_mem hm
    have hgo := gr_go l a b q ha hq (j : Int) (by omega) (by omega) (by rw [rdOf_nat _ _ _ hj]; exact e)
    obtain ⟨g1, g2, g3, g4, g5⟩ := gr_ok l a b q hgo
    have gw := gr_w l a b q
    have hlen := rg_length l q 40 a b []
    simp only [List.length_nil] at hlen
    have hask := ask_iff l a b q ha hw hq
    rw [gw]
    generalize hG : rg_ l q 40 a b [] = G at *
    generalize hP : (gr_ l a b q).2.2.2 = P at *
    generalize hA : (gr_ l a b q).2.1 = A at *
    generalize hB : (gr_ l a b q).2.2.1 = B at *
    clear hr hg e hm
    have key : ∀ d k (i : Nat), i + d = q.length → d + 500 < k → laws_FnGrants.l1 k q P G (i : Int) l A B = some true := by
      intro d
      induction d with
      | zero =>
        intro k i hi hk
        obtain ⟨k, rfl⟩ : ∃ m, k = m + 1 := ⟨k - 1, by omega⟩
        simp only [laws_FnGrants.l1]
        rw [if_neg (by omega), if_pos hgo, if_pos (by omega), if_pos hgo, if_pos g4, iarb_eq l A B (by omega), obs, decide_eq_true g1, if_pos rfl, g3]
        simp
      | succ d ih =>
        intro k i hi hk
        obtain ⟨k, rfl⟩ : ∃ m, k = m + 1 := ⟨k - 1, by omega⟩
        simp only [laws_FnGrants.l1]
        rw [if_pos (by omega), if_pos (by omega), ishr_eq k G _ (by omega) (by omega), obs, hask i (by omega), if_neg (by simp), wr ((i : Int) + 1) (by omega) (by omega)]
        exact ih k (i + 1) (by omega) (by omega)
    exact key q.length k 0 (by omega) (by omega)
  · rw [decide_eq_false hm, if_neg (by simp), gr_none l a b q ha hq hm]
    rfl
theorem grants_loop (l : List Int) (a b : Int) (p : List Int) (ha : arb_ l a b) (hw : ∀ x ∈ l, x ≤ 4) (hp : p.length = 12) :
    ∀ (d k : Nat) (q : List Bool), q.length + d = l.length → d + 2000 < k → laws_FnGrants.l0 k p q (decide (true ∈ q)) (q.length : Int) l a b = some true := by
  intro d
  induction d with
  | zero =>
    intro k q hq hk
    obtain ⟨k, rfl⟩ : ∃ m, k = m + 1 := ⟨k - 1, by omega⟩
    rw [show (q.length : Int) = (l.length : Int) by omega]
    exact grants_end l a b p q ha hw (by omega) k (by omega)
  | succ d ih =>
    intro k q hq hk
    obtain ⟨k, rfl⟩ : ∃ m, k = m + 1 := ⟨k - 1, by omega⟩
    have h14 := ha.1
    simp only [laws_FnGrants.l0]
    rw [if_pos (by omega), if_pos (by omega), if_pos (by omega), if_pos (by omega), obs, wr ((q.length : Int) + 1) (by omega) (by omega)]
    generalize hT : (Int.tmod (rd p (q.length : Int)) 2 == 0) = T
    have h := ih k (q ++ [T]) (by simp; omega) (by omega)
    rw [show ((q ++ [T]).length : Int) = (q.length : Int) + 1 by simp] at h
    by_cases hm : true ∈ q
    · rw [decide_eq_true hm, if_pos rfl]
      rw [decide_eq_true (show true ∈ q ++ [T] by simp [hm])] at h
      exact h
    · rw [decide_eq_false hm, if_neg (by simp)]
      rw [show decide (true ∈ q ++ [T]) = T by cases T <;> simp [hm]] at h
      exact h
theorem FnGrants : laws_FnGrants.Pure := by
  intro s h1 h2 hw_
  obtain ⟨K, hK⟩ : ∃ K : Nat, 1048576 < K := ⟨1048577, by omega⟩
  refine ⟨K, ?_⟩
  unfold laws_FnGrants.f laws_big.f
  simp only [obs, decide_eq_true_eq]
  by_cases hb : (s.length : Int) > 1048576
  · rw [if_pos hb]
  · rw [if_neg hb]
    obtain ⟨l, a, b, e, ha, hw⟩ := arb_some K s (by omega) (by omega)
    obtain ⟨p, ep, hp12, hpx⟩ := places_some K s (by omega) (by omega)
    rw [e, obs, ep, obs]
    exact grants_loop l a b p ha hw hp12 l.length K [] (by simp) (by have := ha.1; omega)

end Go.Proofs.Ytphlfmmhpmhjfaa.Pure
