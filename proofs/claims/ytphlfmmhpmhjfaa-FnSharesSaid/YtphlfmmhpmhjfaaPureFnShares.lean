/- Of every code: if all ports ask, each gets its weight in every round. -/
import Derived.Test.YtphlfmmhpmhjfaaPFnSharesx7
import Derived.Test.YtphlfmmhpmhjfaaCom
namespace Go.Proofs.Ytphlfmmhpmhjfaa.Pure
open Go.RowKit Go.Proofs.Ytphlfmmhpmhjfaa.PFnShares Go.Proofs.YtphlfmmhpmhjfaaW.PrintWords Go.Proofs.YtphlfmmhpmhjfaaW.PrintLast Go.Proofs.YtphlfmmhpmhjfaaW.PrintMore Go.Proofs.Ytphlfmmhpmhjfaa.Com
set_option linter.unusedVariables false
set_option linter.unusedSimpArgs false

theorem within_eq (a b c : Int) : impl_within.f a b c = some (decide (b ≤ a ∧ a ≤ c)) := by
  unfold impl_within.f; by_cases h : a ≥ b <;> simp [h]

/-- Weights are 1 to 4 of 1 to 9, the place and what is left fit. -/
def arb_ (l : List Int) (a b : Int) : Prop := (1 ≤ l.length ∧ l.length ≤ 4) ∧ (∀ x ∈ l, 1 ≤ x ∧ x ≤ 9) ∧ (0 ≤ a ∧ a ≤ (l.length : Int) - 1) ∧ (0 ≤ b ∧ b ≤ rd l a)
instance (l : List Int) (a b : Int) : Decidable (arb_ l a b) := by unfold arb_; infer_instance
theorem iarb_eq (l : List Int) (a b : Int) (hl : l.length ≤ 1048576) : impl_ArbiterOk.f l a b = some (decide (arb_ l a b)) := by
  have hv : ∀ x, (impl_ArbiterOk_1.f x).getD false = !decide (1 ≤ x ∧ x ≤ 9) := by
    intro x; unfold impl_ArbiterOk_1.f; rw [within_eq]; rfl
  have hany : slices_ContainsFunc_int_int_impl_ArbiterOk_1.f l = some (!decide (∀ x ∈ l, 1 ≤ x ∧ x ≤ 9)) := by
    unfold slices_ContainsFunc_int_int_impl_ArbiterOk_1.f
    congr 1
    simp only [hv]
    rw [Bool.eq_iff_iff, List.any_eq_true, Bool.not_eq_true', decide_eq_false_iff_not]
    simp only [Bool.not_eq_true', decide_eq_false_iff_not, Classical.not_forall, exists_prop]
  unfold impl_ArbiterOk.f
  rw [hany]
  simp only [within_eq, Option.bind_some, decide_eq_true_eq, wr ((l.length : Int) - 1) (by omega) (by omega)]
  by_cases h1 : 1 ≤ (l.length : Int) ∧ (l.length : Int) ≤ 4
  · rw [if_pos h1]
    by_cases h4 : ∀ x ∈ l, 1 ≤ x ∧ x ≤ 9
    · rw [if_neg (by rw [decide_eq_true h4]; simp)]
      by_cases h2 : 0 ≤ a ∧ a ≤ (l.length : Int) - 1
      · rw [if_pos h2, if_pos (by omega), if_pos (by omega)]
        congr 1
        rw [Bool.eq_iff_iff, decide_eq_true_eq, decide_eq_true_eq]
        unfold arb_
        exact ⟨fun h => ⟨by omega, h4, h2, h⟩, fun h => h.2.2.2⟩
      · rw [if_neg h2]
        congr 1; symm; rw [decide_eq_false_iff_not]; intro h; exact h2 h.2.2.1
    · rw [if_pos (by rw [decide_eq_false h4]; rfl)]
      congr 1; symm; rw [decide_eq_false_iff_not]; intro h; exact h4 h.2.1
  · rw [if_neg h1]
    congr 1; symm; rw [decide_eq_false_iff_not]; intro h; exact h1 (by have := h.1; omega)

theorem rd_mem (l : List Int) (p : Int) (h0 : 0 ≤ p) (h1 : p < (l.length : Int)) : rd l p ∈ l := by
  obtain ⟨m, rfl⟩ : ∃ m : Nat, p = m := ⟨p.toNat, by omega⟩
  rw [rd_nat _ _ (by omega)]; exact List.getElem_mem _

/-- The port after a's that asks, d steps from a + j on. -/
def nx_ (q : List Bool) (a n : Int) : Nat → Int → Option Int
  | 0, _ => none
  | d + 1, j => if rdOf false q (Int.tmod (a + j) n) = true then some (Int.tmod (a + j) n) else nx_ q a n d (j + 1)
/-- One grant. -/
def gr_ (l : List Int) (a b : Int) (q : List Bool) : List Int × Int × Int × Int :=
  if arb_ l a b ∧ q.length = l.length then
    (if rdOf false q a = true ∧ 0 < b then (l, a, b - 1, a) else match nx_ q a l.length l.length 1 with | some p => (l, p, rd l p - 1, p) | none => (l, a, b, -1))
  else (l, a, b, -1)
theorem tm_ (a n : Int) (h0 : 0 ≤ a) (hn : 0 < n) : 0 ≤ Int.tmod a n ∧ Int.tmod a n < n := ⟨Int.tmod_nonneg _ h0, Int.tmod_lt_of_pos _ hn⟩
theorem igl_eq (l : List Int) (a b : Int) (q : List Bool) (h : arb_ l a b) (hq : q.length = l.length) : ∀ (d k : Nat) (j : Int), 1 ≤ j → j + d = (l.length : Int) + 1 → d < k →
    impl_Grant.l0 k q (l.length : Int) j l a b l a b = some (match nx_ q a l.length d j with | some p => (l, p, rd l p - 1, p) | none => (l, a, b - 1, a)) := by
  obtain ⟨h1, h2, h3, h4⟩ := h
  have hb := h2 _ (rd_mem l a (by omega) (by omega))
  intro d
  induction d with
  | zero =>
    intro k j hj he hk
    obtain ⟨k, rfl⟩ : ∃ m, k = m + 1 := ⟨k - 1, by omega⟩
    simp only [impl_Grant.l0, nx_]
    rw [if_neg (by omega), wr (b - 1) (by omega) (by omega)]
  | succ d ih =>
    intro k j hj he hk
    obtain ⟨k, rfl⟩ : ∃ m, k = m + 1 := ⟨k - 1, by omega⟩
    obtain ⟨t0, t1⟩ := tm_ (a + j) (l.length : Int) (by omega) (by omega)
    have hm := h2 _ (rd_mem l _ t0 t1)
    simp only [impl_Grant.l0, nx_]
    rw [wr (a + j) (by omega) (by omega), if_pos (by omega), if_neg (by omega), if_pos t0, if_pos (by omega), wr (j + 1) (by omega) (by omega)]
    by_cases hx : rdOf false q (Int.tmod (a + j) (l.length : Int)) = true
    · rw [if_pos hx, if_pos hx, if_pos t1, wr _ (by omega) (by omega)]
    · rw [if_neg hx, if_neg hx]
      exact ih k (j + 1) (by omega) (by omega) (by omega)
theorem rdOf_nat {α : Type} (z : α) (xs : List α) (i : Nat) (h : i < xs.length) : rdOf z xs (i : Int) = xs[i] := by
  unfold rdOf; simp [List.getD_eq_getElem?_getD, h]
/-- The search goes over every port. -/
theorem nx_none (q : List Bool) (a n : Int) : ∀ (d : Nat) (j : Int), nx_ q a n d j = none → ∀ i : Int, j ≤ i → i < j + d → rdOf false q (Int.tmod (a + i) n) = false := by
  intro d
  induction d with
  | zero => intro j _ i h1 h2; omega
  | succ d ih =>
    intro j h i h1 h2
    unfold nx_ at h
    by_cases hx : rdOf false q (Int.tmod (a + j) n) = true
    · simp [hx] at h
    · rw [if_neg hx] at h
      by_cases e : i = j
      · subst e; simpa using hx
      · exact ih (j + 1) h i (by omega) (by omega)
theorem nx_some (q : List Bool) (a n p : Int) (ha : 0 ≤ a) (hn : 0 < n) : ∀ (d : Nat) (j : Int), 0 ≤ j → nx_ q a n d j = some p → rdOf false q p = true ∧ 0 ≤ p ∧ p < n := by
  intro d
  induction d with
  | zero => intro j _ h; simp [nx_] at h
  | succ d ih =>
    intro j hj h
    unfold nx_ at h
    by_cases hx : rdOf false q (Int.tmod (a + j) n) = true
    · rw [if_pos hx] at h
      injection h with h
      subst h
      exact ⟨hx, tm_ (a + j) n (by omega) hn⟩
    · rw [if_neg hx] at h
      exact ih (j + 1) (by omega) h
theorem nx_all (q : List Bool) (a n : Int) (ha : 0 ≤ a) (han : a < n) (hn : (n.toNat : Int) = n) (h : nx_ q a n n.toNat 1 = none) : ∀ p : Int, 0 ≤ p → p < n → rdOf false q p = false := by
  intro p h0 h1
  have e := nx_none q a n n.toNat 1 h
  by_cases hp : a < p
  · have e1 := e (p - a) (by omega) (by omega)
    rw [show a + (p - a) = p by omega, Int.tmod_eq_of_lt h0 h1] at e1
    exact e1
  · have e1 := e (p - a + n) (by omega) (by omega)
    rw [show a + (p - a + n) = p + n by omega, Int.tmod_eq_emod_of_nonneg (by omega), Int.add_emod_right, Int.emod_eq_of_lt h0 h1] at e1
    exact e1
theorem ibc_eq (k : Nat) (q : List Bool) (hl : q.length ≤ 1048576) (hk : q.length < k) : slices_Contains_bool_bool.f k q true = some (decide (true ∈ q)) := by
  unfold slices_Contains_bool_bool.f slices_Index_bool_bool.f
  have hL : ∀ (d k : Nat) (i : Nat), i + d = q.length → d < k → ∃ r : Int, slices_Index_bool_bool.l0 k q true (q.length : Int) (i : Int) = some r ∧ (0 ≤ r ↔ true ∈ q.drop i) := by
    intro d
    induction d with
    | zero =>
      intro k i hi hk
      obtain ⟨k, rfl⟩ : ∃ m, k = m + 1 := ⟨k - 1, by omega⟩
      simp only [slices_Index_bool_bool.l0]
      rw [if_neg (by omega), List.drop_of_length_le (by omega)]
      exact ⟨-1, rfl, by simp⟩
    | succ d ih =>
      intro k i hi hk
      obtain ⟨k, rfl⟩ : ∃ m, k = m + 1 := ⟨k - 1, by omega⟩
      simp only [slices_Index_bool_bool.l0]
      rw [if_pos (by omega), if_pos (by omega), if_pos (by omega), rdOf_nat _ _ _ (by omega), List.drop_eq_getElem_cons (by omega), wr ((i : Int) + 1) (by omega) (by omega)]
      by_cases hx : q[i]'(by omega) = true
      · rw [hx]
        exact ⟨i, rfl, by simp⟩
      · rw [if_neg (by simpa using hx)]
        obtain ⟨r, e1, e2⟩ := ih k (i + 1) (by omega) (by omega)
        refine ⟨r, e1, ?_⟩
        rw [e2]
        simp only [Bool.not_eq_true] at hx
        simp [hx]
  obtain ⟨r, e1, e2⟩ := hL q.length k 0 (by omega) hk
  have e1' : slices_Index_bool_bool.l0 k q true (q.length : Int) 0 = some r := e1
  rw [e1']
  simp only [Option.bind_some]
  congr 1
  rw [Bool.eq_iff_iff, decide_eq_true_eq, decide_eq_true_eq]
  simpa using e2
theorem igr_eq (k : Nat) (l : List Int) (a b : Int) (q : List Bool) (hl : l.length ≤ 1048576) (hk : l.length + 10 < k) : impl_Grant.f k l a b q = some (gr_ l a b q) := by
  obtain ⟨k, rfl⟩ : ∃ m, k = m + 2 := ⟨k - 2, by omega⟩
  unfold impl_Grant.f impl_copyArbiter.f slices_Clone_int_int.f
  rw [if_pos (by omega)]
  simp only [Option.bind_some]
  rw [iarb_eq _ _ _ hl]
  simp only [Option.bind_some, decide_eq_true_eq]
  by_cases h : arb_ l a b
  · rw [if_pos h]
    by_cases hq : q.length = l.length
    · have hh := h
      obtain ⟨h1, h2, h3, h4⟩ := h
      have hb := h2 _ (rd_mem l a (by omega) (by omega))
      unfold gr_
      rw [if_pos (show arb_ l a b ∧ q.length = l.length from ⟨hh, hq⟩), if_pos (by omega), ibc_eq _ _ (by omega) (by omega)]
      simp only [impl_Grant.j0, Option.bind_some]
      have hin : ∀ p : Int, 0 ≤ p → p < (l.length : Int) → rdOf false q p = true → true ∈ q := by
        intro p p0 p1 hp
        obtain ⟨m, rfl⟩ : ∃ m : Nat, p = m := ⟨p.toNat, by omega⟩
        rw [rdOf_nat _ _ _ (by omega)] at hp
        rw [← hp]; exact List.getElem_mem _
      by_cases hc : true ∈ q
      · rw [if_neg (by simp [hc]), if_pos (by omega), if_pos (by omega)]
        have hL := igl_eq l a b q hh hq l.length k 1 (by omega) (by omega) (by omega)
        have hno : nx_ q a l.length l.length 1 ≠ none := by
          intro e
          have hall := nx_all q a l.length (by omega) (by omega) (by omega) (by simpa using e)
          obtain ⟨m, hm, e2⟩ := List.getElem_of_mem hc
          have := hall (m : Int) (by omega) (by omega)
          rw [rdOf_nat _ _ _ hm, e2] at this
          cases this
        have hL' : impl_Grant.l0 k q (l.length : Int) 1 l a b l a b = some (match nx_ q a l.length l.length 1 with | some p => (l, p, rd l p - 1, p) | none => (l, a, b, -1)) := by
          rw [hL]
          cases e : nx_ q a l.length l.length 1 with
          | none => exact absurd e hno
          | some p => rfl
        by_cases hx : rdOf false q a = true
        · rw [if_pos hx]
          simp only [impl_Grant.j1]
          by_cases hp : b > 0
          · rw [if_neg (by simp; omega), if_pos (show rdOf false q a = true ∧ 0 < b from ⟨hx, hp⟩), wr (b - 1) (by omega) (by omega)]
          · rw [if_pos (by simp; omega), if_neg (show ¬ (rdOf false q a = true ∧ 0 < b) from fun h => hp h.2), hL']
        · rw [if_neg hx]
          simp only [impl_Grant.j1]
          rw [if_pos trivial, if_neg (show ¬ (rdOf false q a = true ∧ 0 < b) from fun h => hx h.1), hL']
      · rw [if_pos (by simp [hc]), if_neg (show ¬ (rdOf false q a = true ∧ 0 < b) from fun h => hc (hin a (by omega) (by omega) h.1))]
        cases e : nx_ q a l.length l.length 1 with
        | none => rfl
        | some p =>
          obtain ⟨e1, e2, e3⟩ := nx_some q a _ p (by omega) (by omega) _ _ (by omega) e
          exact absurd (hin p e2 e3 e1) hc
    · unfold gr_
      rw [if_neg (show ¬ (arb_ l a b ∧ q.length = l.length) from fun h => hq h.2), if_neg (by omega)]
      simp only [impl_Grant.j0]
      rw [if_pos trivial]
  · rw [if_neg h]
    unfold gr_
    rw [if_neg (fun e => h e.1)]
    simp only [impl_Grant.j0]
    rw [if_pos trivial]

/-- A grant leaves the weights, and after one that was given the arbiter is right and the next is given too. -/
theorem gr_w (l : List Int) (a b : Int) (q : List Bool) : (gr_ l a b q).1 = l := by
  unfold gr_
  by_cases h : arb_ l a b ∧ q.length = l.length
  · rw [if_pos h]
    by_cases hx : rdOf false q a = true ∧ 0 < b
    · rw [if_pos hx]
    · rw [if_neg hx]
      split <;> rfl
  · rw [if_neg h]
theorem gr_ok (l : List Int) (a b : Int) (q : List Bool) (h : 0 ≤ (gr_ l a b q).2.2.2) : arb_ l (gr_ l a b q).2.1 (gr_ l a b q).2.2.1 ∧ q.length = l.length ∧ (gr_ l a b q).2.1 = (gr_ l a b q).2.2.2 ∧ rdOf false q (gr_ l a b q).2.2.2 = true ∧ (gr_ l a b q).2.2.2 < l.length := by
  unfold gr_ at h ⊢
  by_cases hc : arb_ l a b ∧ q.length = l.length
  · rw [if_pos hc] at h ⊢
    obtain ⟨⟨h1, h2, h3, h4⟩, hq⟩ := hc
    by_cases hx : rdOf false q a = true ∧ 0 < b
    · rw [if_pos hx] at h ⊢
      exact ⟨⟨h1, h2, h3, by show 0 ≤ b - 1 ∧ b - 1 ≤ rd l a; omega⟩, hq, rfl, hx.1, by show a < _; omega⟩
    · rw [if_neg hx] at h ⊢
      cases e : nx_ q a l.length l.length 1 with
      | none => rw [e] at h; exact absurd h (by simp)
      | some p =>
        obtain ⟨e1, e2, e3⟩ := nx_some q a _ p (by omega) (by omega) _ _ (by omega) e
        have hm := h2 _ (rd_mem l p e2 e3)
        exact ⟨⟨h1, h2, by show 0 ≤ p ∧ p ≤ _; omega, by show 0 ≤ rd l p - 1 ∧ rd l p - 1 ≤ rd l p; omega⟩, hq, rfl, e1, e3⟩
  · rw [if_neg hc] at h; exact absurd h (by simp)
theorem gr_go (l : List Int) (a b : Int) (q : List Bool) (h : arb_ l a b) (hq : q.length = l.length) (p : Int) (p0 : 0 ≤ p) (p1 : p < l.length) (hp : rdOf false q p = true) : 0 ≤ (gr_ l a b q).2.2.2 := by
  unfold gr_
  rw [if_pos ⟨h, hq⟩]
  obtain ⟨h1, h2, h3, h4⟩ := h
  by_cases hx : rdOf false q a = true ∧ 0 < b
  · rw [if_pos hx]; exact h3.1
  · rw [if_neg hx]
    cases e : nx_ q a l.length l.length 1 with
    | none =>
      have := nx_all q a l.length (by omega) (by omega) (by omega) (by simpa using e) p p0 p1
      rw [this] at hp; cases hp
    | some p =>
      obtain ⟨e1, e2, e3⟩ := nx_some q a _ p (by omega) (by omega) _ _ (by omega) e
      exact e2

/-- The ports of d grants, or of those till none is given. -/
def rg_ (l : List Int) (q : List Bool) : Nat → Int → Int → List Int → List Int
  | 0, _, _, out => out
  | d + 1, a, b, out => if (gr_ l a b q).2.2.2 < 0 then out else rg_ l q d (gr_ l a b q).2.1 (gr_ l a b q).2.2.1 (out ++ [(gr_ l a b q).2.2.2])
theorem rg_length (l : List Int) (q : List Bool) : ∀ d a b out, (rg_ l q d a b out).length ≤ out.length + d := by
  intro d
  induction d with
  | zero => intro a b out; simp [rg_]
  | succ d ih =>
    intro a b out
    unfold rg_
    split
    · omega
    · have := ih (gr_ l a b q).2.1 (gr_ l a b q).2.2.1 (out ++ [(gr_ l a b q).2.2.2])
      simp only [List.length_append, List.length_cons, List.length_nil] at this
      omega
theorem irg_eq (l : List Int) (q : List Bool) (n : Int) (hl : l.length ≤ 1048576) (hn : n ≤ 200) : ∀ (d k : Nat) (j a b : Int) (out : List Int), 0 ≤ j → j + d = n → d + l.length + 12 < k → out.length ≤ j.toNat → (0 ≤ (gr_ l a b q).2.2.2 ∨ out = []) →
    impl_RunGrants.l0 k q out n j l a b = some (rg_ l q d a b out) := by
  intro d
  induction d with
  | zero =>
    intro k j a b out hj he hk ho hg
    obtain ⟨k, rfl⟩ : ∃ m, k = m + 1 := ⟨k - 1, by omega⟩
    simp only [impl_RunGrants.l0, rg_]
    rw [if_neg (by omega)]
  | succ d ih =>
    intro k j a b out hj he hk ho hg
    obtain ⟨k, rfl⟩ : ∃ m, k = m + 1 := ⟨k - 1, by omega⟩
    simp only [impl_RunGrants.l0, rg_]
    rw [if_pos (by omega), igr_eq k l a b q hl (by omega)]
    simp only [Option.bind_some]
    by_cases hx : (gr_ l a b q).2.2.2 < 0
    · rw [if_pos hx, if_pos hx]
      rcases hg with hg | hg
      · omega
      · rw [hg]
    · rw [if_neg hx, if_neg hx, if_pos (by omega), gr_w, wr (j + 1) (by omega) (by omega)]
      obtain ⟨g1, g2, g3, g4, g5⟩ := gr_ok l a b q (by omega)
      exact ih k (j + 1) _ _ _ (by omega) (by omega) (by omega) (by simp; omega) (.inl (gr_go l _ _ q g1 g2 _ (by omega) g5 g4))
theorem irun_eq (l : List Int) (a b : Int) (q : List Bool) (n : Int) (hl : l.length ≤ 1048576) (hn : 1 ≤ n ∧ n ≤ 200) (k : Nat) (hk : l.length + 300 < k) : impl_RunGrants.f k l a b q n = some (rg_ l q n.toNat a b []) := by
  unfold impl_RunGrants.f
  simp only [Option.bind_some, within_eq, decide_eq_true_eq]
  rw [if_pos hn]
  exact irg_eq l q n hl hn.2 n.toNat k 0 a b [] (by omega) (by omega) (by omega) (by simp) (.inr rfl)

/-- The lowest eight bits. -/
theorem and255 (x : Int) : 0 ≤ Go.bits .and .i64 x 255 ∧ Go.bits .and .i64 x 255 ≤ 255 := by
  have h1 : (BitVec.ofInt 64 x &&& BitVec.ofInt 64 255).toNat ≤ 255 := by
    rw [BitVec.toNat_and]
    exact Nat.le_trans Nat.and_le_right (by decide)
  have h2 : Go.bits .and .i64 x 255 = IntKind.i64.wrap ((BitVec.ofInt 64 x &&& BitVec.ofInt 64 255).toNat : Int) := rfl
  rw [h2, Go.IntKind.wrap_i64]
  omega
theorem byte_some (s : List Int) (i h : Int) (hs : s.length ≤ 1048576) (h0 : 0 ≤ i) (h1 : i ≤ s.length) :
    ∃ x i' h', spec_l01Byte.f s i h = some (x, i', h') ∧ 0 ≤ x ∧ x ≤ 255 ∧ 0 ≤ i' ∧ i' ≤ s.length := by
  unfold spec_l01Byte.f
  by_cases hlt : i < (s.length : Int)
  · rw [if_pos hlt, if_pos h0]
    refine ⟨_, _, _, rfl, (and255 _).1, (and255 _).2, ?_, ?_⟩ <;> rw [wr _ (by omega) (by omega)] <;> omega
  · rw [if_neg hlt]
    exact ⟨_, _, _, rfl, (and255 _).1, (and255 _).2, h0, h1⟩
theorem below_some (s : List Int) (i h n : Int) (hs : s.length ≤ 1048576) (h0 : 0 ≤ i) (h1 : i ≤ s.length) (hn : 0 < n) (hm : n ≤ 4294967296) :
    ∃ x i' h', spec_l01Below.f s i h n = some (x, i', h') ∧ 0 ≤ x ∧ x < n ∧ 0 ≤ i' ∧ i' ≤ s.length := by
  unfold spec_l01Below.f
  rw [if_neg (by omega)]
  by_cases hlt : n ≤ 256
  · rw [if_pos hlt]
    obtain ⟨x, i1, h1', e, x0, x1, i0, i2⟩ := byte_some s i h hs h0 h1
    rw [e]
    simp only [Option.bind_some]
    rw [if_neg (by omega)]
    refine ⟨_, _, _, rfl, ?_, ?_, i0, i2⟩
    · exact Int.tmod_nonneg _ x0
    · exact Int.tmod_lt_of_pos _ hn
  · rw [if_neg hlt]
    obtain ⟨x, i1, h1', e, x0, x1, i0, i2⟩ := byte_some s i h hs h0 h1
    obtain ⟨y, i3, h3', e3, y0, y1, i4, i5⟩ := byte_some s i1 h1' hs i0 i2
    obtain ⟨z, i6, h6', e6, z0, z1, i7, i8⟩ := byte_some s i3 h3' hs i4 i5
    obtain ⟨w, i9, h9', e9, w0, w1, i10, i11⟩ := byte_some s i6 h6' hs i7 i8
    simp only [e, e3, e6, e9, Option.bind_some]
    rw [if_neg (by omega)]
    refine ⟨_, _, _, rfl, ?_, ?_, i10, i11⟩
    · rw [wr (x * 16777216) (by omega) (by omega), wr (y * 65536) (by omega) (by omega), wr (z * 256) (by omega) (by omega), wr (x * 16777216 + y * 65536) (by omega) (by omega), wr (x * 16777216 + y * 65536 + z * 256) (by omega) (by omega), wr _ (by omega) (by omega)]
      exact Int.tmod_nonneg _ (by omega)
    · exact Int.tmod_lt_of_pos _ hn
theorem new_some (k : Nat) (s : List Int) (hs : s.length ≤ 1048576) (hk : 4000 < k) : ∃ h, spec_l01New.f k s = some (s, 0, h) := by
  have key : ∀ d k (h : Int) (i : Nat), i + d = 4000 → d < k → ∃ h', spec_l01New.l0 k s h (i : Int) = some (s, 0, h') := by
    intro d
    induction d with
    | zero =>
      intro k h i hi hk
      obtain ⟨k, rfl⟩ : ∃ m, k = m + 1 := ⟨k - 1, by omega⟩
      simp only [spec_l01New.l0]
      rw [if_neg (show ¬ ((i : Int) < 4000) by omega)]
      split <;> exact ⟨_, rfl⟩
    | succ d ih =>
      intro k h i hi hk
      obtain ⟨k, rfl⟩ : ∃ m, k = m + 1 := ⟨k - 1, by omega⟩
      simp only [spec_l01New.l0]
      by_cases hlt : (i : Int) < s.length
      · rw [if_pos hlt, if_pos (by omega), if_pos (by omega), wr ((i : Int) + 1) (by omega) (by omega)]
        exact ih k _ (i + 1) (by omega) (by omega)
      · rw [if_neg hlt]; exact ⟨_, rfl⟩
  exact key 4000 k _ 0 (by omega) hk

/-- A drawn arbiter: right, with weights 1 to 4. -/
theorem arb_some (k : Nat) (s : List Int) (hs : s.length ≤ 1048576) (hk : 5000 < k) : ∃ l a b, spec_DrawArbiter.f k s = some (l, a, b) ∧ arb_ l a b ∧ ∀ x ∈ l, x ≤ 4 := by
  have key : ∀ d k (n : Nat) (w : List Int) (i : Nat) (j h : Int), 1 ≤ n → n ≤ 4 → i + d = n → d < k → w.length = i → (∀ x ∈ w, 1 ≤ x ∧ x ≤ 4) → 0 ≤ j → j ≤ s.length →
      ∃ l a b j' h', spec_l18Arbiter.l0 k w (n : Int) (i : Int) s j h = some (l, a, b, j', h') ∧ arb_ l a b ∧ ∀ x ∈ l, x ≤ 4 := by
    intro d
    induction d with
    | zero =>
      intro k n w i j h hn1 hn4 hi hk hw hx h0 h1
      obtain ⟨k, rfl⟩ : ∃ m, k = m + 1 := ⟨k - 1, by omega⟩
      simp only [spec_l18Arbiter.l0]
      obtain ⟨x, i1, h1', e, x0, x1, i0, i2⟩ := below_some s j h n hs h0 h1 (by omega) (by omega)
      have hv := hx _ (rd_mem w x x0 (by omega))
      obtain ⟨y, i3, h3', e3, y0, y1, i4, i5⟩ := below_some s i1 h1' (rd w x + 1) hs i0 i2 (by omega) (by omega)
      rw [if_neg (by omega), e, Option.bind_some, if_pos x0, if_pos (by omega), wr (rd w x + 1) (by omega) (by omega), e3]
      exact ⟨w, x, y, _, _, rfl, ⟨by omega, fun z hz => by have := hx z hz; omega, by omega, by omega⟩, fun z hz => (hx z hz).2⟩
    | succ d ih =>
      intro k n w i j h hn1 hn4 hi hk hw hx h0 h1
      obtain ⟨k, rfl⟩ : ∃ m, k = m + 1 := ⟨k - 1, by omega⟩
      simp only [spec_l18Arbiter.l0]
      obtain ⟨x, i1, h1', e, x0, x1, i0, i2⟩ := below_some s j h 4 hs h0 h1 (by omega) (by omega)
      rw [if_pos (by omega), e, Option.bind_some, if_pos (by omega), wr (1 + x) (by omega) (by omega), wr ((i : Int) + 1) (by omega) (by omega)]
      refine ih k n _ (i + 1) _ _ hn1 hn4 (by omega) (by omega) (by simp [hw]) (fun z hz => ?_) i0 i2
      rcases List.mem_append.1 hz with hz | hz
      · exact hx z hz
      · rw [List.mem_singleton.1 hz]; omega
  obtain ⟨h, hn⟩ := new_some k s hs (by omega)
  obtain ⟨x, i1, h1', e, x0, x1, i0, i2⟩ := below_some s 0 h 4 hs (by omega) (by omega) (by omega) (by omega)
  obtain ⟨m, hm⟩ : ∃ m : Nat, 1 + x = (m : Int) := ⟨(1 + x).toNat, by omega⟩
  obtain ⟨l, a, b, j', h', e1, e2, e3⟩ := key m k m [] 0 i1 h1' (by omega) (by omega) (by omega) (by omega) rfl (by simp) i0 i2
  refine ⟨l, a, b, ?_, e2, e3⟩
  have e1' : spec_l18Arbiter.l0 k [] (m : Int) 0 s i1 h1' = some (l, a, b, j', h') := e1
  unfold spec_DrawArbiter.f spec_l18Arbiter.f
  rw [hn]
  simp only [Option.bind_some]
  rw [e, Option.bind_some, wr (1 + x) (by omega) (by omega), hm, e1']
  rfl


theorem places_some (k : Nat) (s : List Int) (hs : s.length ≤ 1048576) (hk : 4000 < k) : ∃ p, spec_DrawPlaces.f k s = some p ∧ p.length = 12 ∧ ∀ x ∈ p, 0 ≤ x ∧ x < 10000 := by
  have key : ∀ d k (p : List Int) (i : Nat) (j h : Int), i + d = 12 → d < k → p.length = i → 0 ≤ j → j ≤ s.length → (∀ x ∈ p, 0 ≤ x ∧ x < 10000) →
      ∃ q, spec_DrawPlaces.l0 k p (i : Int) s j h = some q ∧ q.length = 12 ∧ ∀ x ∈ q, 0 ≤ x ∧ x < 10000 := by
    intro d
    induction d with
    | zero =>
      intro k p i j h hi hk hp h0 h1 hx
      obtain ⟨k, rfl⟩ : ∃ m, k = m + 1 := ⟨k - 1, by omega⟩
      simp only [spec_DrawPlaces.l0]
      rw [if_neg (by omega)]
      exact ⟨p, rfl, by omega, hx⟩
    | succ d ih =>
      intro k p i j h hi hk hp h0 h1 hx
      obtain ⟨k, rfl⟩ : ∃ m, k = m + 1 := ⟨k - 1, by omega⟩
      simp only [spec_DrawPlaces.l0]
      obtain ⟨x, i1, h1', e, x0, x1, i0, i2⟩ := below_some s j h 10000 hs h0 h1 (by omega) (by omega)
      rw [if_pos (by omega), e]
      simp only [Option.bind_some]
      rw [if_pos (by omega), wr ((i : Int) + 1) (by omega) (by omega)]
      refine ih k _ (i + 1) _ _ (by omega) (by omega) (by simp [hp]) i0 i2 (fun y hy => ?_)
      rcases List.mem_append.1 hy with hy | hy
      · exact hx y hy
      · rw [List.mem_singleton.1 hy]; exact ⟨x0, x1⟩
  obtain ⟨h, hn⟩ := new_some k s hs hk
  unfold spec_DrawPlaces.f
  rw [hn]
  exact key 12 k [] 0 0 h (by omega) (by omega) rfl (by omega) (by omega) (by simp)

/-- As Option.bind_some, but not by rfl: rewriting with it below an 'if' with a great number keeps the kernel from unfolding that number. -/
theorem obs {α β : Type} (a : α) (f : α → Option β) : (some a).bind f = f a := by rw [Option.bind_some]

def shr_ (l : List Int) (p : Int) : Int := l.foldl (fun s x => if x = p then wrap64 (s + 1) else s) 0
theorem ishr_eq (k : Nat) (l : List Int) (p : Int) (hl : l.length ≤ 1048576) (hk : l.length < k) : impl_SharesOf.f k l p = some (shr_ l p) := by
  have h := fold_loop (fun k s i => impl_SharesOf.l0 k p s l (l.length : Int) i) l (fun s x => if x = p then wrap64 (s + 1) else s) id (fun k s i h => by
      simp only [impl_SharesOf.l0]
      rw [if_pos (by omega), if_pos (by omega), if_pos (by omega), rd_nat _ _ h, wr ((i : Int) + 1) (by omega) (by omega)]
      split <;> rfl) (fun k s => by
      simp only [impl_SharesOf.l0]
      rw [if_neg (by omega)]; rfl) l.length k 0 0 (by omega) hk
  exact h

theorem rg_keep (l : List Int) (q : List Bool) (x : Int) : ∀ d a b out, x ∈ out → x ∈ rg_ l q d a b out := by
  intro d
  induction d with
  | zero => intro a b out h; exact h
  | succ d ih =>
    intro a b out h
    unfold rg_
    split
    · exact h
    · exact ih _ _ _ (by simp [h])
theorem rg_all (l : List Int) (q : List Bool) (P : Int → Prop) (hP : ∀ a b, 0 ≤ (gr_ l a b q).2.2.2 → P (gr_ l a b q).2.2.2) : ∀ d a b out, (∀ x ∈ out, P x) → ∀ x ∈ rg_ l q d a b out, P x := by
  intro d
  induction d with
  | zero => intro a b out h; exact h
  | succ d ih =>
    intro a b out h
    unfold rg_
    split
    · exact h
    · rename_i hx
      refine ih _ _ _ (fun x hx2 => ?_)
      rcases List.mem_append.1 hx2 with hx2 | hx2
      · exact h x hx2
      · rw [List.mem_singleton.1 hx2]; exact hP a b (by omega)
theorem nx_first (q : List Bool) (a n : Int) : ∀ (d : Nat) (j0 : Int) (p : Int), nx_ q a n d j0 = some p → ∃ j, j0 ≤ j ∧ j < j0 + d ∧ p = Int.tmod (a + j) n ∧ ∀ i, j0 ≤ i → i < j → rdOf false q (Int.tmod (a + i) n) = false := by
  intro d
  induction d with
  | zero => intro j0 p h; simp [nx_] at h
  | succ d ih =>
    intro j0 p h
    unfold nx_ at h
    by_cases hx : rdOf false q (Int.tmod (a + j0) n) = true
    · rw [if_pos hx] at h
      injection h with h
      exact ⟨j0, by omega, by omega, h.symm, fun i h1 h2 => by omega⟩
    · rw [if_neg hx] at h
      obtain ⟨j, h1, h2, h3, h4⟩ := ih (j0 + 1) p h
      refine ⟨j, by omega, by omega, h3, fun i i1 i2 => ?_⟩
      by_cases e : i = j0
      · subst e; simpa using hx
      · exact h4 i (by omega) i2
/-- A port that asks gets its turn. -/
theorem turn_ (l : List Int) (q : List Bool) (p : Int) (hq : q.length = l.length) (hp : rdOf false q p = true) (p0 : 0 ≤ p) (p1 : p < l.length) (hw : ∀ x ∈ l, x ≤ 4) :
    ∀ (d : Nat) (a b D : Int) (out : List Int), arb_ l a b → 0 ≤ D → D ≤ l.length → (D = 0 → 0 < b) → p = Int.tmod (a + D) l.length → 4 * D + b < d → p ∈ rg_ l q d a b out := by
  intro d
  induction d with
  | zero => intro a b D out ha h0 h1 h2 h3 h4; have := ha.2.2.2.1; omega
  | succ d ih =>
    intro a b D out ha h0 h1 h2 h3 h4
    have hgo := gr_go l a b q ha hq p p0 p1 hp
    obtain ⟨g1, g2, g3, g4, g5⟩ := gr_ok l a b q hgo
    unfold rg_
    rw [if_neg (by omega)]
    obtain ⟨ha1, ha2, ha3, ha4⟩ := ha
    have hn : 0 < (l.length : Int) := by omega
    by_cases hx : rdOf false q a = true ∧ 0 < b
    · have e : gr_ l a b q = (l, a, b - 1, a) := by
        unfold gr_
        rw [if_pos ⟨⟨ha1, ha2, ha3, ha4⟩, hq⟩, if_pos hx]
      rw [e] at g1 ⊢
      by_cases ea : a = p
      · exact rg_keep l q p _ _ _ _ (by simp [ea])
      · have hD : D ≠ 0 := by
          rintro rfl
          rw [show a + 0 = a by omega, Int.tmod_eq_of_lt ha3.1 (by omega)] at h3
          exact ea h3.symm
        exact ih a (b - 1) D _ g1 h0 h1 (fun e => absurd e hD) h3 (by omega)
    · cases en : nx_ q a l.length l.length 1 with
      | none =>
        have := nx_all q a l.length (by omega) (by omega) (by omega) (by simpa using en) p p0 p1
        rw [this] at hp; cases hp
      | some p' =>
        have e : gr_ l a b q = (l, p', rd l p' - 1, p') := by
          unfold gr_
          rw [if_pos ⟨⟨ha1, ha2, ha3, ha4⟩, hq⟩, if_neg hx, en]
        rw [e] at g1 ⊢
        obtain ⟨j, j1, j2, j3, j4⟩ := nx_first q a l.length _ _ _ en
        have hD : D ≠ 0 := by
          rintro rfl
          rw [show a + 0 = a by omega, Int.tmod_eq_of_lt ha3.1 (by omega)] at h3
          exact hx ⟨h3 ▸ hp, h2 rfl⟩
        have hjD : j ≤ D := by
          rcases Int.lt_or_le D j with h | h
          · have := j4 D (by omega) h
            rw [← h3, hp] at this; cases this
          · exact h
        by_cases ej : j = D
        · exact rg_keep l q p _ _ _ _ (by rw [h3, j3, ej]; simp)
        · have hp' := (tm_ (a + j) (l.length : Int) (by omega) hn)
          rw [← j3] at hp'
          have hwp := hw _ (rd_mem l p' hp'.1 hp'.2)
          refine ih p' (rd l p' - 1) (D - j) _ g1 (by omega) (by omega) (fun e => by omega) ?_ (by omega)
          rw [h3, j3, Int.tmod_eq_emod_of_nonneg (show 0 ≤ a + D by omega), Int.tmod_eq_emod_of_nonneg (show 0 ≤ a + j by omega), Int.tmod_eq_emod_of_nonneg (by have := Int.emod_nonneg (a + j) (show (l.length : Int) ≠ 0 by omega); omega), Int.emod_add_emod]
          congr 1; omega
/-- A port's count: none, or more. -/
theorem shr_go (p : Int) : ∀ (l : List Int) (s : Int), 0 ≤ s → s + l.length ≤ 9223372036854775807 → (l.foldl (fun s x => if x = p then wrap64 (s + 1) else s) s) = s + (l.count p : Nat) := by
  intro l
  induction l with
  | nil => intro s _ _; simp
  | cons x l ih =>
    intro s h0 h1
    simp only [List.length_cons] at h1
    rw [List.foldl_cons, List.count_cons]
    by_cases hx : x = p
    · subst hx
      rw [if_pos rfl, wr (s + 1) (by omega) (by omega), ih _ (by omega) (by omega)]
      simp; omega
    · rw [if_neg hx, ih s h0 (by omega)]
      simp [hx]
theorem shr_count (l : List Int) (p : Int) (hl : l.length ≤ 1048576) : shr_ l p = (l.count p : Nat) := by
  unfold shr_; rw [shr_go p l 0 (by omega) (by omega)]; omega

/-- All ports ask. -/
def allq (l : List Int) : List Bool := List.replicate l.length true
theorem allq_rd (l : List Int) (i : Int) (h0 : 0 ≤ i) (h1 : i < l.length) : rdOf false (allq l) i = true := by
  obtain ⟨m, rfl⟩ : ∃ m : Nat, i = m := ⟨i.toNat, by omega⟩
  unfold allq
  rw [rdOf_nat _ _ _ (by simp; omega)]; simp
theorem gr_left (l : List Int) (a b : Int) (h : arb_ l a b) (hb : 0 < b) : gr_ l a b (allq l) = (l, a, b - 1, a) := by
  unfold gr_
  rw [if_pos ⟨h, by simp [allq]⟩, if_pos ⟨allq_rd l a h.2.2.1.1 (by have := h.2.2.1; omega), hb⟩]
theorem gr_next (l : List Int) (a : Int) (h : arb_ l a 0) : gr_ l a 0 (allq l) = (l, Int.tmod (a + 1) l.length, rd l (Int.tmod (a + 1) l.length) - 1, Int.tmod (a + 1) l.length) := by
  obtain ⟨h1, h2, h3, h4⟩ := h
  have ht := tm_ (a + 1) (l.length : Int) (by omega) (by omega)
  have hn : nx_ (allq l) a l.length l.length 1 = some (Int.tmod (a + 1) l.length) := by
    obtain ⟨d, hd⟩ : ∃ d, l.length = d + 1 := ⟨l.length - 1, by omega⟩
    have : nx_ (allq l) a l.length (d + 1) 1 = some (Int.tmod (a + 1) l.length) := by
      unfold nx_
      rw [if_pos (allq_rd l _ ht.1 ht.2)]
    rw [← hd] at this; exact this
  unfold gr_
  rw [if_pos ⟨⟨h1, h2, h3, h4⟩, by simp [allq]⟩, if_neg (by omega), hn]
/-- What is left of a port is granted to it. -/
theorem rg_drain (l : List Int) (a : Int) (d : Nat) : ∀ (b : Nat) (out : List Int), arb_ l a b → rg_ l (allq l) (b + d) a b out = rg_ l (allq l) d a 0 (out ++ List.replicate b a) := by
  intro b
  induction b with
  | zero => intro out _; simp
  | succ b ih =>
    intro out h
    have e := gr_left l a ((b + 1 : Nat) : Int) h (by omega)
    rw [show b + 1 + d = (b + d) + 1 by omega]
    conv => lhs; unfold rg_
    rw [e, if_neg (by have := h.2.2.1; show ¬ a < 0; omega)]
    show rg_ l (allq l) (b + d) a (((b + 1 : Nat) : Int) - 1) (out ++ [a]) = _
    rw [show ((b + 1 : Nat) : Int) - 1 = (b : Int) by omega, ih (out ++ [a]) ⟨h.1, h.2.1, h.2.2.1, by have := h.2.2.2; omega⟩]
    rw [List.append_assoc]; rfl
/-- A spent port hands on to the next, which takes its weight. -/
theorem rg_port (l : List Int) (a : Int) (d w : Nat) (out : List Int) (h : arb_ l a 0) (hw : rd l (Int.tmod (a + 1) l.length) = (w : Int)) :
    rg_ l (allq l) (w + d) a 0 out = rg_ l (allq l) d (Int.tmod (a + 1) l.length) 0 (out ++ List.replicate w (Int.tmod (a + 1) l.length)) := by
  have ht := tm_ (a + 1) (l.length : Int) (by have := h.2.2.1; omega) (by have := h.1; omega)
  have hv := h.2.1 _ (rd_mem l _ ht.1 ht.2)
  obtain ⟨v, rfl⟩ : ∃ v, w = v + 1 := ⟨w - 1, by omega⟩
  have e := gr_next l a h
  rw [show v + 1 + d = (v + d) + 1 by omega]
  generalize hP : Int.tmod (a + 1) l.length = p at *
  conv => lhs; unfold rg_
  rw [e, if_neg (by show ¬ p < 0; omega)]
  show rg_ l (allq l) (v + d) p (rd l p - 1) (out ++ [p]) = _
  rw [show rd l p - 1 = (v : Int) by omega, rg_drain l p d v (out ++ [p]) ⟨h.1, h.2.1, by omega, by omega⟩, List.append_assoc]
  rfl
/-- The ports from a on, each as often as its weight. -/
def blk (l : List Int) : Nat → Nat → List Int
  | _, 0 => []
  | a, n + 1 => List.replicate (rd l a).toNat (a : Int) ++ blk l (a + 1) n
def sm (l : List Int) : Nat → Nat → Nat
  | _, 0 => 0
  | a, n + 1 => (rd l a).toNat + sm l (a + 1) n
theorem arb0 (l : List Int) (h1 : 1 ≤ l.length ∧ l.length ≤ 4) (h2 : ∀ x ∈ l, 1 ≤ x ∧ x ≤ 9) (a : Nat) (h : a < l.length) : arb_ l a 0 :=
  ⟨h1, h2, by omega, by have := h2 _ (rd_mem l (a : Int) (by omega) (by omega)); omega⟩
theorem rg_tail (l : List Int) (h1 : 1 ≤ l.length ∧ l.length ≤ 4) (h2 : ∀ x ∈ l, 1 ≤ x ∧ x ≤ 9) (d : Nat) : ∀ (n a : Nat) (out : List Int), a + 1 + n = l.length →
    rg_ l (allq l) (sm l (a + 1) n + d) (a : Int) 0 out = rg_ l (allq l) d ((l.length : Int) - 1) 0 (out ++ blk l (a + 1) n) := by
  intro n
  induction n with
  | zero =>
    intro a out h
    simp only [sm, blk, Nat.zero_add, List.append_nil]
    rw [show (l.length : Int) - 1 = (a : Int) by omega]
  | succ n ih =>
    intro a out h
    have hv := h2 _ (rd_mem l ((a + 1 : Nat) : Int) (by omega) (by omega))
    have ht : Int.tmod ((a : Int) + 1) l.length = ((a + 1 : Nat) : Int) := by
      rw [Int.tmod_eq_of_lt (by omega) (by omega)]; omega
    have hp := rg_port l (a : Int) (sm l (a + 1 + 1) n + d) (rd l ((a + 1 : Nat) : Int)).toNat out (arb0 l h1 h2 a (by omega)) (by rw [ht]; omega)
    simp only [sm, blk]
    rw [Nat.add_assoc, hp, ht, ih (a + 1) _ (by omega), List.append_assoc]
/-- One round from the state where the last port is spent. -/
theorem rg_round (l : List Int) (h1 : 1 ≤ l.length ∧ l.length ≤ 4) (h2 : ∀ x ∈ l, 1 ≤ x ∧ x ≤ 9) (d : Nat) (out : List Int) :
    rg_ l (allq l) (sm l 0 l.length + d) ((l.length : Int) - 1) 0 out = rg_ l (allq l) d ((l.length : Int) - 1) 0 (out ++ blk l 0 l.length) := by
  obtain ⟨n, hn⟩ : ∃ n, l.length = n + 1 := ⟨l.length - 1, by omega⟩
  have hv := h2 _ (rd_mem l ((0 : Nat) : Int) (by omega) (by omega))
  have ha := arb0 l h1 h2 (l.length - 1) (by omega)
  rw [show ((l.length - 1 : Nat) : Int) = (l.length : Int) - 1 by omega] at ha
  have ht : Int.tmod ((l.length : Int) - 1 + 1) l.length = ((0 : Nat) : Int) := by
    rw [show (l.length : Int) - 1 + 1 = l.length by omega, Int.tmod_self]; rfl
  have hp := rg_port l ((l.length : Int) - 1) (sm l (0 + 1) n + d) (rd l ((0 : Nat) : Int)).toNat out ha (by rw [ht]; omega)
  have hs : sm l 0 l.length = (rd l ((0 : Nat) : Int)).toNat + sm l (0 + 1) n := by rw [hn]; rfl
  have hbk : blk l 0 l.length = List.replicate (rd l ((0 : Nat) : Int)).toNat ((0 : Nat) : Int) ++ blk l (0 + 1) n := by rw [hn]; rfl
  rw [hs, hbk, Nat.add_assoc, hp, ht, rg_tail l h1 h2 d n 0 _ (by omega), List.append_assoc]
/-- The start stands as if the last port were spent. -/
theorem rg_start (l : List Int) (h1 : 1 ≤ l.length ∧ l.length ≤ 4) (h2 : ∀ x ∈ l, 1 ≤ x ∧ x ≤ 9) (d : Nat) (hd : 0 < d) (out : List Int) :
    rg_ l (allq l) d 0 (rd l 0) out = rg_ l (allq l) d ((l.length : Int) - 1) 0 out := by
  obtain ⟨d, rfl⟩ : ∃ e, d = e + 1 := ⟨d - 1, by omega⟩
  have hv := h2 _ (rd_mem l 0 (by omega) (by omega))
  have ha := arb0 l h1 h2 (l.length - 1) (by omega)
  rw [show ((l.length - 1 : Nat) : Int) = (l.length : Int) - 1 by omega] at ha
  have ht : Int.tmod ((l.length : Int) - 1 + 1) l.length = 0 := by
    rw [show (l.length : Int) - 1 + 1 = l.length by omega, Int.tmod_self]
  have e1 := gr_left l 0 (rd l 0) ⟨h1, h2, by omega, by omega⟩ (by omega)
  have e2 := gr_next l _ ha
  rw [ht] at e2
  unfold rg_
  rw [e1, e2]
/-- n rounds: the row of n blocks. -/
def blks (l : List Int) : Nat → List Int
  | 0 => []
  | n + 1 => blk l 0 l.length ++ blks l n
theorem rg_rounds (l : List Int) (h1 : 1 ≤ l.length ∧ l.length ≤ 4) (h2 : ∀ x ∈ l, 1 ≤ x ∧ x ≤ 9) : ∀ (n : Nat) (out : List Int),
    rg_ l (allq l) (n * sm l 0 l.length) ((l.length : Int) - 1) 0 out = out ++ blks l n := by
  intro n
  induction n with
  | zero => intro out; simp [blks, rg_]
  | succ n ih =>
    intro out
    rw [show (n + 1) * sm l 0 l.length = sm l 0 l.length + n * sm l 0 l.length by rw [Nat.succ_mul, Nat.add_comm], rg_round l h1 h2, ih, List.append_assoc]
    rfl
theorem blk_count (l : List Int) (p : Nat) : ∀ (n a : Nat), (blk l a n).count (p : Int) = if a ≤ p ∧ p < a + n then (rd l p).toNat else 0 := by
  intro n
  induction n with
  | zero => intro a; simp [blk]; omega
  | succ n ih =>
    intro a
    simp only [blk, List.count_append, ih, List.count_replicate]
    by_cases e : p = a
    · subst e
      rw [if_pos (show ((p : Int) == (p : Int)) = true by simp), if_neg (show ¬ (p + 1 ≤ p ∧ p < p + 1 + n) by omega), if_pos (show p ≤ p ∧ p < p + (n + 1) by omega)]
      omega
    · rw [if_neg (show ¬ ((a : Int) == (p : Int)) = true by simp; omega)]
      by_cases h : a + 1 ≤ p ∧ p < a + 1 + n
      · rw [if_pos h, if_pos (show a ≤ p ∧ p < a + (n + 1) by omega)]; omega
      · rw [if_neg h, if_neg (show ¬ (a ≤ p ∧ p < a + (n + 1)) by omega)]
theorem blk_len (l : List Int) : ∀ (n a : Nat), (blk l a n).length = sm l a n := by
  intro n
  induction n with
  | zero => intro a; rfl
  | succ n ih => intro a; simp [blk, sm, ih]
theorem blks_count (l : List Int) (p : Nat) (hp : p < l.length) : ∀ n : Nat, (blks l n).count (p : Int) = n * (rd l p).toNat := by
  intro n
  induction n with
  | zero => simp [blks]
  | succ n ih => simp only [blks, List.count_append, ih, blk_count]; rw [if_pos (by omega), Nat.succ_mul, Nat.add_comm]
theorem blks_len (l : List Int) : ∀ n : Nat, (blks l n).length = n * sm l 0 l.length := by
  intro n
  induction n with
  | zero => simp [blks]
  | succ n ih => simp only [blks, List.length_append, ih, blk_len]; rw [Nat.succ_mul, Nat.add_comm]
theorem sm_le (l : List Int) (hw : ∀ x ∈ l, x ≤ 4) : ∀ (n a : Nat), a + n ≤ l.length → sm l a n ≤ 4 * n := by
  intro n
  induction n with
  | zero => intro a _; simp [sm]
  | succ n ih =>
    intro a h
    have h1 := hw _ (rd_mem l (a : Int) (by omega) (by omega))
    have h2 := ih (a + 1) (by omega)
    simp only [sm]; omega

theorem sm_snoc (l : List Int) : ∀ (n a : Nat), sm l a (n + 1) = sm l a n + (rd l ((a + n : Nat) : Int)).toNat := by
  intro n
  induction n with
  | zero => intro a; simp [sm]
  | succ n ih =>
    intro a
    have h := ih (a + 1)
    rw [show sm l a (n + 1 + 1) = (rd l (a : Int)).toNat + sm l (a + 1) (n + 1) from rfl, h, show sm l a (n + 1) = (rd l (a : Int)).toNat + sm l (a + 1) n from rfl, show a + (n + 1) = a + 1 + n by omega]
    omega
theorem new_eq (l : List Int) (h1 : 1 ≤ l.length ∧ l.length ≤ 4) (h2 : ∀ x ∈ l, 1 ≤ x ∧ x ≤ 9) : impl_NewArbiter.f l = some (l, 0, rd l 0, true) := by
  have hv := h2 _ (rd_mem l 0 (by omega) (by omega))
  unfold impl_NewArbiter.f slices_Clone_int_int.f
  rw [if_neg (by omega), if_pos (by omega), obs, if_pos (by omega), iarb_eq l 0 (rd l 0) (by omega), obs, decide_eq_true (show arb_ l 0 (rd l 0) from ⟨h1, h2, by omega, by omega⟩), if_pos rfl]
theorem shares_end (l : List Int) (a b : Int) (p : List Int) (n : Nat) (h1 : 1 ≤ l.length ∧ l.length ≤ 4) (h2 : ∀ x ∈ l, 1 ≤ x ∧ x ≤ 9) (hw : ∀ x ∈ l, x ≤ 4) (hp : 0 < (p.length : Int)) (hn : wrap64 (1 + Int.tmod (rd p 0) 4) = (n : Int)) (hn1 : 1 ≤ n ∧ n ≤ 4) (k : Nat) (hk : 1000 < k) :
    laws_FnShares.l0 (k + 1) p true (sm l 0 l.length : Nat) (allq l) (l.length : Int) l a b l 0 (rd l 0) = some true := by
  have hs := sm_le l hw l.length 0 (by omega)
  have hs1 : 1 ≤ sm l 0 l.length := by
    have hv := h2 _ (rd_mem l ((0 : Nat) : Int) (by omega) (by omega))
    obtain ⟨m, hm⟩ : ∃ m, l.length = m + 1 := ⟨l.length - 1, by omega⟩
    rw [hm]; simp only [sm]; omega
  have hm64 : n * sm l 0 l.length ≤ 64 := Nat.le_trans (Nat.mul_le_mul hn1.2 (show sm l 0 l.length ≤ 16 by omega)) (by omega)
  have hm1 : 1 ≤ n * sm l 0 l.length := Nat.mul_le_mul hn1.1 hs1
  have hwm : wrap64 ((n : Int) * ((sm l 0 l.length : Nat) : Int)) = ((n * sm l 0 l.length : Nat) : Int) := by
    rw [Int.natCast_mul]
    refine wr _ ?_ ?_ <;> rw [← Int.natCast_mul] <;> omega
  have hr := irun_eq l 0 (rd l 0) (allq l) ((n * sm l 0 l.length : Nat) : Int) (by omega) (by omega) k (by omega)
  rw [Int.toNat_natCast, rg_start l h1 h2 _ (by omega), rg_rounds l h1 h2, List.nil_append] at hr
  simp only [laws_FnShares.l0]
  rw [if_neg (by omega), if_pos hp, hn, hwm, hr, obs]
  have hbl := blks_len l n
  have hcnt : ∀ i : Nat, i < l.length → shr_ (blks l n) (i : Int) = wrap64 ((n : Int) * rd l (i : Int)) := by
    intro i hi
    have hv := h2 _ (rd_mem l (i : Int) (by omega) (by omega))
    have hv4 := hw _ (rd_mem l (i : Int) (by omega) (by omega))
    rw [shr_count _ _ (by omega), blks_count l i hi n, Int.natCast_mul, Int.toNat_of_nonneg (by omega)]
    have hle : n * (rd l (i : Int)).toNat ≤ 16 := Nat.le_trans (Nat.mul_le_mul hn1.2 (show (rd l (i : Int)).toNat ≤ 4 by omega)) (by omega)
    have e : (n : Int) * rd l (i : Int) = ((n * (rd l (i : Int)).toNat : Nat) : Int) := by rw [Int.natCast_mul, Int.toNat_of_nonneg (by omega)]
    rw [e]; exact (wr _ (by omega) (by omega)).symm
  generalize hG : blks l n = G at *
  have key : ∀ d k (i : Nat), i + d = l.length → d + 500 < k → laws_FnShares.l1 k true ((sm l 0 l.length : Nat) : Int) (n : Int) G (i : Int) l a b = some true := by
    intro d
    induction d with
    | zero =>
      intro k i hi hk
      obtain ⟨k, rfl⟩ : ∃ m, k = m + 1 := ⟨k - 1, by omega⟩
      simp only [laws_FnShares.l1]
      rw [if_neg (by omega), if_true, hwm, hbl]
      simp
    | succ d ih =>
      intro k i hi hk
      obtain ⟨k, rfl⟩ : ∃ m, k = m + 1 := ⟨k - 1, by omega⟩
      simp only [laws_FnShares.l1]
      rw [if_pos (by omega), ishr_eq k G _ (by omega) (by omega), obs, if_pos (by omega), if_pos (hcnt i (by omega)), wr ((i : Int) + 1) (by omega) (by omega)]
      exact ih k (i + 1) (by omega) (by omega)
  exact key l.length k 0 (by omega) (by omega)
theorem shares_loop (l : List Int) (a b : Int) (p : List Int) (n : Nat) (h1 : 1 ≤ l.length ∧ l.length ≤ 4) (h2 : ∀ x ∈ l, 1 ≤ x ∧ x ≤ 9) (hw : ∀ x ∈ l, x ≤ 4) (hp : 0 < (p.length : Int)) (hn : wrap64 (1 + Int.tmod (rd p 0) 4) = (n : Int)) (hn1 : 1 ≤ n ∧ n ≤ 4) :
    ∀ (d k i : Nat), i + d = l.length → d + 2000 < k → laws_FnShares.l0 k p true (sm l 0 i : Nat) (List.replicate i true) (i : Int) l a b l 0 (rd l 0) = some true := by
  intro d
  induction d with
  | zero =>
    intro k i hi hk
    obtain ⟨k, rfl⟩ : ∃ m, k = m + 1 := ⟨k - 1, by omega⟩
    obtain rfl : i = l.length := by omega
    exact shares_end l a b p n h1 h2 hw hp hn hn1 k (by omega)
  | succ d ih =>
    intro k i hi hk
    obtain ⟨k, rfl⟩ : ∃ m, k = m + 1 := ⟨k - 1, by omega⟩
    have hs := sm_le l hw i 0 (by omega)
    have hv := h2 _ (rd_mem l (i : Int) (by omega) (by omega))
    have he := sm_snoc l i 0
    rw [Nat.zero_add] at he
    have h := ih k (i + 1) (by omega) (by omega)
    have ew : wrap64 (((sm l 0 i : Nat) : Int) + rd l (i : Int)) = ((sm l 0 (i + 1) : Nat) : Int) := (wr _ (by omega) (by omega)).trans (by omega)
    have er : List.replicate i true ++ [true] = List.replicate (i + 1) true := by rw [List.replicate_succ']
    simp only [laws_FnShares.l0]
    rw [if_pos (by omega), if_pos (by omega), if_pos (by simp; omega), ew, er, wr ((i : Int) + 1) (by omega) (by omega)]
    exact h
theorem FnShares : laws_FnShares.Pure := by
  intro s h1 h2 hw_
  obtain ⟨K, hK⟩ : ∃ K : Nat, 1048576 < K := ⟨1048577, by omega⟩
  refine ⟨K, ?_⟩
  unfold laws_FnShares.f laws_big.f
  simp only [obs, decide_eq_true_eq]
  by_cases hb : (s.length : Int) > 1048576
  · rw [if_pos hb]
  · rw [if_neg hb]
    obtain ⟨l, a, b, e, ha, hw⟩ := arb_some K s (by omega) (by omega)
    obtain ⟨p, ep, hp12, hpx⟩ := places_some K s (by omega) (by omega)
    have hp0 := hpx _ (rd_mem p 0 (by omega) (by omega))
    have hm : 0 ≤ Int.tmod (rd p 0) 4 ∧ Int.tmod (rd p 0) 4 < 4 := ⟨Int.tmod_nonneg _ hp0.1, Int.tmod_lt_of_pos _ (by omega)⟩
    obtain ⟨n, hn⟩ : ∃ n : Nat, 1 + Int.tmod (rd p 0) 4 = (n : Int) := ⟨(1 + Int.tmod (rd p 0) 4).toNat, by omega⟩
    have hn' : wrap64 (1 + Int.tmod (rd p 0) 4) = (n : Int) := (wr _ (by omega) (by omega)).trans hn
    rw [e, obs, ep, obs, new_eq l ha.1 ha.2.1, obs]
    exact shares_loop l a b p n ha.1 ha.2.1 hw (by omega) hn' (by omega) l.length K 0 (by omega) (by have := ha.1; omega)

end Go.Proofs.Ytphlfmmhpmhjfaa.Pure
