/- Of every code: on the drawn tree each node is below its ancestors, and each but the root is among the children of its parent. -/
import Derived.Test.YtbbppknnkghkjaaPFnBelowx8
import Derived.Test.YtbbppknnkghkjaaCom
namespace Go.Proofs.Ytbbppknnkghkjaa.Pure
open Go.RowKit Go.Proofs.Ytbbppknnkghkjaa.PFnBelow Go.Proofs.YtbbppknnkghkjaaW.PrintWords Go.Proofs.YtbbppknnkghkjaaW.PrintLast Go.Proofs.YtbbppknnkghkjaaW.PrintMore Go.Proofs.Ytbbppknnkghkjaa.Com
set_option linter.unusedVariables false
set_option linter.unusedSimpArgs false

/-- As Option.bind_some, but not by rfl: rewriting with it below an 'if' with a great number keeps the kernel from unfolding that number. -/
theorem obs {α β : Type} (a : α) (f : α → Option β) : (some a).bind f = f a := by rw [Option.bind_some]

/-- The lowest eight bits. -/
theorem and255 (x : Int) : 0 ≤ Go.bits .and .i64 x 255 ∧ Go.bits .and .i64 x 255 ≤ 255 := by
  have h1 : (BitVec.ofInt 64 x &&& BitVec.ofInt 64 255).toNat ≤ 255 := by
    rw [BitVec.toNat_and]
    exact Nat.le_trans Nat.and_le_right (by decide)
  have h2 : Go.bits .and .i64 x 255 = IntKind.i64.wrap ((BitVec.ofInt 64 x &&& BitVec.ofInt 64 255).toNat : Int) := rfl
  rw [h2, Go.IntKind.wrap_i64]
  omega
theorem byte_some (s : List Int) (i h : Int) (hs : s.length ≤ 1048576) (h0 : 0 ≤ i) (h1 : i ≤ s.length) :
    ∃ x i' h', spec_l01Byte.f s i h = some (x, i', h') ∧ 0 ≤ x ∧ x ≤ 255 ∧ 0 ≤ i' ∧ i' ≤ s.length := by
  unfold spec_l01Byte.f
  by_cases hlt : i < (s.length : Int)
  · rw [if_pos hlt, if_pos h0]
    refine ⟨_, _, _, rfl, (and255 _).1, (and255 _).2, ?_, ?_⟩ <;> rw [wr _ (by omega) (by omega)] <;> omega
  · rw [if_neg hlt]
    exact ⟨_, _, _, rfl, (and255 _).1, (and255 _).2, h0, h1⟩
theorem below_some (s : List Int) (i h n : Int) (hs : s.length ≤ 1048576) (h0 : 0 ≤ i) (h1 : i ≤ s.length) (hn : 0 < n) (hm : n ≤ 4294967296) :
    ∃ x i' h', spec_l01Below.f s i h n = some (x, i', h') ∧ 0 ≤ x ∧ x < n ∧ 0 ≤ i' ∧ i' ≤ s.length := by
  unfold spec_l01Below.f
  rw [if_neg (by omega)]
  by_cases hlt : n ≤ 256
  · rw [if_pos hlt]
    obtain ⟨x, i1, h1', e, x0, x1, i0, i2⟩ := byte_some s i h hs h0 h1
    rw [e]
    simp only [Option.bind_some]
    rw [if_neg (by omega)]
    refine ⟨_, _, _, rfl, ?_, ?_, i0, i2⟩
    · exact Int.tmod_nonneg _ x0
    · exact Int.tmod_lt_of_pos _ hn
  · rw [if_neg hlt]
    obtain ⟨x, i1, h1', e, x0, x1, i0, i2⟩ := byte_some s i h hs h0 h1
    obtain ⟨y, i3, h3', e3, y0, y1, i4, i5⟩ := byte_some s i1 h1' hs i0 i2
    obtain ⟨z, i6, h6', e6, z0, z1, i7, i8⟩ := byte_some s i3 h3' hs i4 i5
    obtain ⟨w, i9, h9', e9, w0, w1, i10, i11⟩ := byte_some s i6 h6' hs i7 i8
    simp only [e, e3, e6, e9, Option.bind_some]
    rw [if_neg (by omega)]
    refine ⟨_, _, _, rfl, ?_, ?_, i10, i11⟩
    · rw [wr (x * 16777216) (by omega) (by omega), wr (y * 65536) (by omega) (by omega), wr (z * 256) (by omega) (by omega), wr (x * 16777216 + y * 65536) (by omega) (by omega), wr (x * 16777216 + y * 65536 + z * 256) (by omega) (by omega), wr _ (by omega) (by omega)]
      exact Int.tmod_nonneg _ (by omega)
    · exact Int.tmod_lt_of_pos _ hn
theorem new_some (k : Nat) (s : List Int) (hs : s.length ≤ 1048576) (hk : 4000 < k) : ∃ h, spec_l01New.f k s = some (s, 0, h) := by
  have key : ∀ d k (h : Int) (i : Nat), i + d = 4000 → d < k → ∃ h', spec_l01New.l0 k s h (i : Int) = some (s, 0, h') := by
    intro d
    induction d with
    | zero =>
      intro k h i hi hk
      obtain ⟨k, rfl⟩ : ∃ m, k = m + 1 := ⟨k - 1, by omega⟩
      simp only [spec_l01New.l0]
      rw [if_neg (show ¬ ((i : Int) < 4000) by omega)]
      split <;> exact ⟨_, rfl⟩
    | succ d ih =>
      intro k h i hi hk
      obtain ⟨k, rfl⟩ : ∃ m, k = m + 1 := ⟨k - 1, by omega⟩
      simp only [spec_l01New.l0]
      by_cases hlt : (i : Int) < s.length
      · rw [if_pos hlt, if_pos (by omega), if_pos (by omega), wr ((i : Int) + 1) (by omega) (by omega)]
        exact ih k _ (i + 1) (by omega) (by omega)
      · rw [if_neg hlt]; exact ⟨_, rfl⟩
  exact key 4000 k _ 0 (by omega) hk


theorem pick_some (s : List Int) (i h : Int) (l : List Int) (hs : s.length ≤ 1048576) (h0 : 0 ≤ i) (h1 : i ≤ s.length) (hl : 0 < l.length) (hm : l.length ≤ 4294967296) :
    ∃ x i' h', spec_l01PickInt.f s i h l = some (x, i', h') ∧ x ∈ l ∧ 0 ≤ i' ∧ i' ≤ s.length := by
  unfold spec_l01PickInt.f
  obtain ⟨x, i1, h1', e, x0, x1, i0, i2⟩ := below_some s i h l.length hs h0 h1 (by omega) (by omega)
  rw [e]
  simp only [Option.bind_some]
  rw [if_pos x0, if_pos x1]
  refine ⟨_, _, _, rfl, ?_, i0, i2⟩
  obtain ⟨m, rfl⟩ := Int.eq_ofNat_of_zero_le x0
  rw [rd_nat _ _ (by omega)]
  exact List.getElem_mem _

theorem l01In_eq (a b c : Int) : spec_l01In.f a b c = some (decide (b ≤ a ∧ a ≤ c)) := by
  unfold spec_l01In.f; by_cases h : a ≥ b <;> simp [h]

theorem rd_inode (xs : List S50) (i : Nat) (h : i < xs.length) : rd_T50 xs (i : Int) = xs[i] := getD_nat _ _ _ h

abbrev ND := S50
/-- A sibling in the same place. -/
def sib_ (p d : Int) (x : ND) : Bool := decide (x.f0 = p) && decide (x.f1 = d)
/-- Is the node n well at place k of the tree? -/
def row_ (l : List ND) (k : Nat) (n : ND) : Bool :=
  decide (0 ≤ n.f0 ∧ n.f0 < (k : Int)) && (decide ((rd_T50 l n.f0).f2 = 0) && (decide (0 ≤ n.f1 ∧ n.f1 ≤ 3) && (decide (0 ≤ n.f2 ∧ n.f2 ≤ 4) && !(l.take k).any (sib_ n.f0 n.f1))))
def rows_ (l : List ND) : Nat → Nat → Bool
  | 0, _ => true
  | d + 1, k => row_ l k (rd_T50 l (k : Int)) && rows_ l d (k + 1)
def root_ (l : List ND) : Bool := (rd_T50 l 0).f0 == (-1) && ((rd_T50 l 0).f1 == 0 && (rd_T50 l 0).f2 == 0)
def tree_ (l : List ND) : Bool := decide (1 ≤ (l.length : Int) ∧ (l.length : Int) ≤ 12) && (root_ l && rows_ l (l.length - 1) 1)
theorem tree_len {l : List ND} (h : tree_ l = true) : 1 ≤ l.length ∧ l.length ≤ 12 := by
  simp only [tree_, Bool.and_eq_true, decide_eq_true_eq] at h; omega
theorem tree_root {l : List ND} (h : tree_ l = true) : (rd_T50 l 0).f0 = -1 := by
  simp only [tree_, root_, Bool.and_eq_true, decide_eq_true_eq, beq_iff_eq] at h; exact h.2.1.1
theorem rows_row (l : List ND) : ∀ d k j, rows_ l d k = true → k ≤ j → j < k + d → row_ l j (rd_T50 l (j : Int)) = true := by
  intro d
  induction d with
  | zero => intro k j _ _ _; omega
  | succ d ih =>
    intro k j h h1 h2
    simp only [rows_, Bool.and_eq_true] at h
    by_cases e : j = k
    · subst e; exact h.1
    · exact ih (k + 1) j h.2 (by omega) (by omega)
theorem tree_row {l : List ND} (h : tree_ l = true) (j : Nat) (h0 : 0 < j) (h1 : j < l.length) : row_ l j (rd_T50 l (j : Int)) = true := by
  simp only [tree_, Bool.and_eq_true] at h
  exact rows_row l _ 1 j h.2.2 (by omega) (by omega)
theorem tree_parent {l : List ND} (h : tree_ l = true) (j : Nat) (h0 : 0 < j) (h1 : j < l.length) : 0 ≤ (rd_T50 l (j : Int)).f0 ∧ (rd_T50 l (j : Int)).f0 < (j : Int) := by
  have := tree_row h j h0 h1
  simp only [row_, Bool.and_eq_true, decide_eq_true_eq] at this
  exact this.1

theorem sib_root {l : List ND} (hl : 0 < l.length) (hr : (rd_T50 l 0).f0 = -1) (p d : Int) (hp : 0 ≤ p) (k : Nat) (hk : 1 ≤ k) : (l.take k).any (sib_ p d) = ((l.take k).drop 1).any (sib_ p d) := by
  cases l with
  | nil => simp at hl
  | cons x xs =>
    obtain ⟨k, rfl⟩ : ∃ m, k = m + 1 := ⟨k - 1, by omega⟩
    have hx : x.f0 = -1 := hr
    have : sib_ p d x = false := by unfold sib_; rw [hx]; rw [decide_eq_false (show ¬ (-1 : Int) = p by omega)]; rfl
    simp [this]
theorem sl1_eq (l : List ND) (k : Nat) (hk : k < l.length) (hl : l.length ≤ 12) (p d f : Int) (R : Bool) (B : Nat) (hR : ∀ K, B < K → spec_TreeOk.l0 K l ((k + 1 : Nat) : Int) = some R) :
    ∀ e K i, i + e = k → B + e + 1 < K → spec_TreeOk.l1 K l (k : Int) (i : Int) p d f = some (if ((l.take k).drop i).any (sib_ p d) then false else R) := by
  intro e
  induction e with
  | zero =>
    intro K i hi hK
    obtain ⟨K, rfl⟩ : ∃ m, K = m + 1 := ⟨K - 1, by omega⟩
    obtain rfl : i = k := by omega
    simp only [spec_TreeOk.l1]
    rw [if_neg (by omega), wr ((i : Int) + 1) (by omega) (by omega), List.drop_of_length_le (by simp; omega)]
    simpa using hR K (by omega)
  | succ e ih =>
    intro K i hi hK
    obtain ⟨K, rfl⟩ : ∃ m, K = m + 1 := ⟨K - 1, by omega⟩
    have hlt : i < (l.take k).length := by simp; omega
    have hg : (l.take k)[i] = l[i]'(by omega) := by simp
    have e1 : ((i : Int) + 1) = ((i + 1 : Nat) : Int) := by omega
    simp only [spec_TreeOk.l1]
    rw [if_pos (by omega), if_pos (by omega), if_pos (by omega), rd_inode _ _ (by omega), wr ((i : Int) + 1) (by omega) (by omega), List.drop_eq_getElem_cons hlt, hg, e1, ih K (i + 1) (by omega) (by omega)]
    rw [List.any_cons]
    by_cases h0 : (l[i]'(by omega)).f0 = p
    · by_cases h1 : (l[i]'(by omega)).f1 = d
      · rw [if_pos h0, if_pos h1]; simp [sib_, h0, h1]
      · rw [if_pos h0, if_neg h1]; simp [sib_, h0, h1]
    · rw [if_neg h0]; simp [sib_, h0]
theorem sl0_eq (l : List ND) (h1 : 1 ≤ l.length) (hl : l.length ≤ 12) (hr : (rd_T50 l 0).f0 = -1) :
    ∀ d K k, 1 ≤ k → k + d = l.length → 16 * d < K → spec_TreeOk.l0 K l (k : Int) = some (rows_ l d k) := by
  intro d
  induction d with
  | zero =>
    intro K k hk hd hK
    obtain ⟨K, rfl⟩ : ∃ m, K = m + 1 := ⟨K - 1, by omega⟩
    simp only [spec_TreeOk.l0]
    rw [if_neg (by omega)]; rfl
  | succ d ih =>
    intro K k hk hd hK
    obtain ⟨K, rfl⟩ : ∃ m, K = m + 2 := ⟨K - 2, by omega⟩
    have hx : ∀ b p d' f, spec_TreeOk.j2 (K + 1) l (k : Int) b p d' f = if b = true then some false else spec_TreeOk.l1 K l (k : Int) 1 p d' f := fun b p d' f => by simp only [spec_TreeOk.j2]
    have hin : ∀ p d' f, 0 ≤ p → spec_TreeOk.l1 K l (k : Int) 1 p d' f = some (if (l.take k).any (sib_ p d') then false else rows_ l d (k + 1)) := fun p d' f hp => by
      have h := sl1_eq l k (by omega) hl p d' f (rows_ l d (k + 1)) (16 * d) (fun K' hK' => ih K' (k + 1) (by omega) (by omega) hK') (k - 1) K 1 (by omega) (by omega)
      rw [sib_root (by omega) hr p d' hp k hk]
      exact h
    simp only [spec_TreeOk.l0]
    rw [if_pos (by omega), if_pos (by omega), wr ((k : Int) - 1) (by omega) (by omega)]
    unfold rows_ row_
    generalize rd_T50 l (k : Int) = n
    simp only [l01In_eq, Option.bind_some, hx]
    by_cases c0 : 0 ≤ n.f0 ∧ n.f0 < (k : Int)
    · rw [if_pos (by simp; omega), if_pos c0.1, if_pos (by omega), decide_eq_true c0, Bool.true_and]
      by_cases c1 : (rd_T50 l n.f0).f2 = 0
      · rw [if_pos c1, decide_eq_true c1, Bool.true_and]
        by_cases c2 : 0 ≤ n.f1 ∧ n.f1 ≤ 3
        · rw [decide_eq_true c2, if_pos rfl, Bool.true_and]
          by_cases c3 : 0 ≤ n.f2 ∧ n.f2 ≤ 4
          · rw [decide_eq_true c3, if_neg (by simp), Bool.true_and, hin _ _ _ c0.1]
            cases (l.take k).any (sib_ n.f0 n.f1) <;> simp
          · rw [decide_eq_false c3]; simp
        · rw [decide_eq_false c2]; simp
      · rw [if_neg c1, decide_eq_false c1]; simp
    · rw [if_neg (by simp; omega), decide_eq_false c0]; simp
theorem stree_eq (l : List ND) (hl : l.length ≤ 9223372036854775807) (K : Nat) (hK : 200 < K) : spec_TreeOk.f K l = some (tree_ l) := by
  obtain ⟨K, rfl⟩ : ∃ m, K = m + 1 := ⟨K - 1, by omega⟩
  unfold spec_TreeOk.f tree_
  simp only [l01In_eq, Option.bind_some, spec_TreeOk.j0]
  by_cases c : 1 ≤ (l.length : Int) ∧ (l.length : Int) ≤ 12
  · rw [decide_eq_true c, if_pos rfl, if_pos (by omega), Bool.true_and]
    by_cases hr : root_ l = true
    · have hr0 : (rd_T50 l 0).f0 = -1 := by
        simp only [root_, Bool.and_eq_true, beq_iff_eq] at hr; exact hr.1
      have h := sl0_eq l (by omega) (by omega) hr0 (l.length - 1) K 1 (by omega) (by omega) (by omega)
      have hr2 := hr
      simp only [root_, Bool.and_eq_true, beq_iff_eq] at hr2
      rw [hr, Bool.true_and, if_neg (by simp [hr2])]
      exact h
    · rw [Bool.not_eq_true] at hr
      rw [hr, if_pos, Bool.false_and]
      unfold root_ at hr
      revert hr
      cases (rd_T50 l 0).f0 == -1 <;> cases (rd_T50 l 0).f1 == 0 <;> cases (rd_T50 l 0).f2 == 0 <;> simp
  · rw [decide_eq_false c, if_neg (by simp), Bool.false_and]; simp

theorem tree_one : tree_ [(⟨(-1), 0, 0⟩ : ND)] = true := by decide
theorem l19Tree_some (s : List Int) (hs : s.length ≤ 1048576) : ∀ (d K i : Nat) (t : List ND) (j h : Int), i + d = 10 → d + 300 < K → tree_ t = true → 0 ≤ j → j ≤ s.length →
    ∃ t' j' h', spec_l19Tree.l0 K t (i : Int) s j h = some (t', j', h') ∧ tree_ t' = true ∧ 0 ≤ j' ∧ j' ≤ s.length := by
  intro d
  induction d with
  | zero =>
    intro K i t j h hi hK ht h0 h1
    obtain ⟨K, rfl⟩ : ∃ m, K = m + 1 := ⟨K - 1, by omega⟩
    obtain ⟨x, j1, h1', e, x0, x1, i0, i2⟩ := below_some s j h 8 hs h0 h1 (by omega) (by omega)
    simp only [spec_l19Tree.l0]
    rw [e, obs, wr (3 + x) (by omega) (by omega), if_neg (by omega)]
    exact ⟨_, _, _, rfl, ht, i0, i2⟩
  | succ d ih =>
    intro K i t j h hi hK ht h0 h1
    obtain ⟨K, rfl⟩ : ∃ m, K = m + 1 := ⟨K - 1, by omega⟩
    have hl := tree_len ht
    obtain ⟨x, j1, h1', e, x0, x1, i0, i2⟩ := below_some s j h 8 hs h0 h1 (by omega) (by omega)
    simp only [spec_l19Tree.l0]
    rw [e, obs, wr (3 + x) (by omega) (by omega)]
    by_cases hlt : (i : Int) < 3 + x
    · rw [if_pos hlt]
      obtain ⟨a, j3, h3, ea, a0, a1, a2, a3⟩ := below_some s j1 h1' (t.length : Int) hs i0 i2 (by omega) (by omega)
      obtain ⟨b, j4, h4, eb, b0, b1, b2, b3⟩ := below_some s j3 h3 4 hs a2 a3 (by omega) (by omega)
      obtain ⟨c, j5, h5, ec, c0, c1, c2⟩ := pick_some s j4 h4 [0, 0, 1, 1, 2, 4] hs b2 b3 (by simp) (by simp)
      rw [ea, obs, eb, obs, ec, obs, obs, if_pos (by simp; omega), obs, obs, if_pos (by simp; omega), obs, stree_eq _ (by simp; omega) K (by omega), obs, wr ((i : Int) + 1) (by omega) (by omega), show (i : Int) + 1 = ((i + 1 : Nat) : Int) by omega]
      by_cases hok : tree_ (([] : List ND) ++ t ++ [(⟨a, b, c⟩ : ND)]) = true
      · rw [if_pos hok]
        exact ih K (i + 1) _ _ _ (by omega) (by omega) hok c1 c2
      · rw [if_neg hok]
        exact ih K (i + 1) _ _ _ (by omega) (by omega) ht c1 c2
    · rw [if_neg hlt]
      exact ⟨_, _, _, rfl, ht, i0, i2⟩
theorem drawTree_some (k : Nat) (s : List Int) (hs : s.length ≤ 1048576) (hk : 4400 < k) : ∃ t, spec_DrawTree.f k s = some t ∧ tree_ t = true := by
  unfold spec_DrawTree.f spec_l19Tree.f
  obtain ⟨h, e⟩ := new_some k s hs (by omega)
  obtain ⟨t, j, h', e2, ht, _⟩ := l19Tree_some s hs 10 k 0 [(⟨(-1), 0, 0⟩ : ND)] 0 h (by omega) (by omega) tree_one (by omega) (by omega)
  refine ⟨t, ?_, ht⟩
  rw [e, obs]
  have e3 : (((0 : Nat) : Int)) = 0 := rfl
  rw [e3] at e2
  simp only [e2, obs]


/-- The nodes from x up to the root. -/
def up_ (l : List ND) : Nat → Int → List Int
  | 0, _ => []
  | d + 1, x => if 0 ≤ x then x :: up_ l d (rd_T50 l x).f0 else []
def isn_ (l : List ND) (x : Int) : Bool := tree_ l && decide (0 ≤ x ∧ x < (l.length : Int))
def path_ (l : List ND) (x : Int) : List Int := if isn_ l x = true then (up_ l 13 x).reverse else []
theorem up_len (l : List ND) : ∀ d x, (up_ l d x).length ≤ d := by
  intro d
  induction d with
  | zero => intro x; simp [up_]
  | succ d ih =>
    intro x
    unfold up_
    split
    · have := ih (rd_T50 l x).f0; simp; omega
    · simp
theorem path_len (l : List ND) (x : Int) : (path_ l x).length ≤ 13 := by
  unfold path_
  split
  · rw [List.length_reverse]; exact up_len l 13 x
  · simp
theorem parent_lt {l : List ND} (h : tree_ l = true) (x : Int) (h0 : 0 ≤ x) (h1 : x < (l.length : Int)) : -1 ≤ (rd_T50 l x).f0 ∧ (rd_T50 l x).f0 < x := by
  obtain ⟨j, rfl⟩ : ∃ j : Nat, x = (j : Int) := ⟨x.toNat, by omega⟩
  by_cases hj : j = 0
  · subst hj; have := tree_root h; have e : (((0 : Nat) : Int)) = 0 := rfl; rw [e, this]; omega
  · have := tree_parent h j (by omega) (by omega); omega
theorem isn_tree {l : List ND} {x : Int} (h : isn_ l x = true) : tree_ l = true ∧ 0 ≤ x ∧ x < (l.length : Int) := by
  simpa only [isn_, Bool.and_eq_true, decide_eq_true_eq] using h

/-- How long two lists agree from their start. -/
def cp_ : List Int → List Int → Nat
  | x :: xs, y :: ys => if x = y then cp_ xs ys + 1 else 0
  | _, _ => 0
theorem cp_le (a b : List Int) : cp_ a b ≤ a.length ∧ cp_ a b ≤ b.length := by
  induction a generalizing b with
  | nil => simp [cp_]
  | cons x xs ih =>
    cases b with
    | nil => simp [cp_]
    | cons y ys =>
      unfold cp_
      have := ih ys
      split <;> simp <;> omega
/-- From the end of up to the last node that both have, then down. -/
def btw_ (x y : List Int) : List Int := if x.length = 0 ∨ y.length = 0 then [] else (x.drop (cp_ x y - 1)).reverse ++ y.drop (cp_ x y)
theorem up_head (l : List ND) (h : tree_ l = true) : ∀ (d : Nat) (x : Int), 0 ≤ x → x < (d : Int) → x < (l.length : Int) → ∃ r, (up_ l d x).reverse = 0 :: r := by
  intro d
  induction d with
  | zero => intro x h0 h1; omega
  | succ d ih =>
    intro x h0 h1 h2
    unfold up_
    rw [if_pos h0]
    have hp := parent_lt h x h0 h2
    by_cases hz : 0 ≤ (rd_T50 l x).f0
    · obtain ⟨r, e⟩ := ih _ hz (by omega) (by omega)
      exact ⟨r ++ [x], by rw [List.reverse_cons, e]; rfl⟩
    · have hx : x = 0 := by
        apply Classical.byContradiction
        intro hn
        obtain ⟨j, rfl⟩ : ∃ j : Nat, x = (j : Int) := ⟨x.toNat, by omega⟩
        have := tree_parent h j (by omega) (by omega)
        omega
      subst hx
      have : up_ l d (rd_T50 l 0).f0 = [] := by
        cases d with
        | zero => rfl
        | succ d => unfold up_; rw [if_neg hz]
      rw [this]; exact ⟨[], rfl⟩
theorem path_head (l : List ND) (x : Int) (h : isn_ l x = true) : ∃ r, path_ l x = 0 :: r := by
  obtain ⟨h1, h2, h3⟩ := isn_tree h
  have := tree_len h1
  unfold path_
  rw [if_pos h]
  exact up_head l h1 13 x h2 (by omega) h3
theorem path_none (l : List ND) (x : Int) (h : ¬ isn_ l x = true) : path_ l x = [] := by unfold path_; rw [if_neg h]
theorem path_isn (l : List ND) (x : Int) : (path_ l x).length = 0 ↔ ¬ isn_ l x = true := by
  constructor
  · intro e h; obtain ⟨r, hr⟩ := path_head l x h; rw [hr] at e; simp at e
  · intro h; rw [path_none l x h]; rfl

def pa_ (t : List ND) (x : Int) : Int := (rd_T50 t x).f0
/-- Each step of the way goes to the parent or to a child. -/
def way_ (t : List ND) : List Int → Prop
  | [] => True
  | [_] => True
  | a :: b :: r => (pa_ t b = a ∨ pa_ t a = b) ∧ way_ t (b :: r)
theorem way_tail {t : List ND} {a : Int} {l : List Int} (h : way_ t (a :: l)) : way_ t l := by
  cases l with
  | nil => trivial
  | cons b r => exact h.2
theorem way_drop {t : List ND} : ∀ (n : Nat) (l : List Int), way_ t l → way_ t (l.drop n) := by
  intro n
  induction n with
  | zero => intro l h; simpa using h
  | succ n ih =>
    intro l h
    cases l with
    | nil => simpa using h
    | cons a r => rw [List.drop_succ_cons]; exact ih r (way_tail h)
theorem way_app {t : List ND} (v : Int) (r : List Int) : ∀ (l : List Int), way_ t (l ++ [v]) → way_ t (v :: r) → way_ t (l ++ v :: r) := by
  intro l
  induction l with
  | nil => intro _ h; simpa using h
  | cons a l ih =>
    intro h1 h2
    cases l with
    | nil => exact ⟨h1.1, h2⟩
    | cons b l => exact ⟨h1.1, ih h1.2 h2⟩
theorem way_rev {t : List ND} : ∀ (l : List Int), way_ t l → way_ t l.reverse := by
  intro l
  induction l with
  | nil => intro h; exact h
  | cons a l ih =>
    intro h
    cases l with
    | nil => trivial
    | cons b r =>
      have h1 := ih h.2
      rw [List.reverse_cons] at h1
      have h2 : way_ t (b :: [a]) := ⟨h.1.symm, trivial⟩
      have := way_app b [a] r.reverse h1 h2
      simpa using this
theorem way_get {t : List ND} : ∀ (l : List Int), way_ t l → ∀ (k : Nat) (h : k + 1 < l.length), pa_ t l[k + 1] = l[k] ∨ pa_ t l[k] = l[k + 1] := by
  intro l
  induction l with
  | nil => intro _ k h; simp at h
  | cons a l ih =>
    intro hw k h
    cases l with
    | nil => simp at h
    | cons b r =>
      cases k with
      | zero => exact hw.1
      | succ k => exact ih hw.2 k (by simpa using h)
theorem up_cons (l : List ND) (d : Nat) (x : Int) (h : 0 ≤ x) : up_ l (d + 1) x = x :: up_ l d (pa_ l x) := by
  show (if 0 ≤ x then x :: up_ l d (rd_T50 l x).f0 else []) = _
  rw [if_pos h]; rfl
theorem up_way (l : List ND) : ∀ (d : Nat) (x : Int), way_ l (up_ l d x) := by
  intro d
  induction d with
  | zero => intro x; trivial
  | succ d ih =>
    intro x
    by_cases h : 0 ≤ x
    · rw [up_cons l d x h]
      cases d with
      | zero => trivial
      | succ d =>
        by_cases h2 : 0 ≤ pa_ l x
        · have := ih (pa_ l x)
          rw [up_cons l d _ h2] at this ⊢
          exact ⟨.inr rfl, this⟩
        · have : up_ l (d + 1) (pa_ l x) = [] := by unfold up_; rw [if_neg h2]
          rw [this]; trivial
    · have : up_ l (d + 1) x = [] := by unfold up_; rw [if_neg h]
      rw [this]; trivial
theorem up_in (l : List ND) (h : tree_ l = true) : ∀ (d : Nat) (x : Int), x < (l.length : Int) → ∀ y ∈ up_ l d x, 0 ≤ y ∧ y < (l.length : Int) := by
  intro d
  induction d with
  | zero => intro x _ y hy; simp [up_] at hy
  | succ d ih =>
    intro x hx y hy
    by_cases h0 : 0 ≤ x
    · rw [up_cons l d x h0] at hy
      rcases List.mem_cons.1 hy with rfl | hy
      · exact ⟨h0, hx⟩
      · have := parent_lt h x h0 hx
        exact ih (pa_ l x) (by unfold pa_; omega) y hy
    · have : up_ l (d + 1) x = [] := by unfold up_; rw [if_neg h0]
      rw [this] at hy; simp at hy
/-- What a path is: it begins at the root, ends at x, stays in the tree, and goes from parent to child. -/
theorem path_is (l : List ND) (x : Int) (h : isn_ l x = true) : (∃ r, path_ l x = 0 :: r) ∧ (∃ q, path_ l x = q ++ [x]) ∧ way_ l (path_ l x) ∧ (∀ y ∈ path_ l x, 0 ≤ y ∧ y < (l.length : Int)) := by
  obtain ⟨h1, h2, h3⟩ := isn_tree h
  refine ⟨path_head l x h, ?_, ?_, ?_⟩ <;> unfold path_ <;> rw [if_pos h]
  · exact ⟨(up_ l 12 (pa_ l x)).reverse, by rw [up_cons l 12 x h2, List.reverse_cons]⟩
  · exact way_rev _ (up_way l 13 x)
  · intro y hy; rw [List.mem_reverse] at hy; exact up_in l h1 13 x h3 y hy
theorem cp_comm (x y : List Int) : cp_ x y = cp_ y x := by
  induction x generalizing y with
  | nil => cases y <;> rfl
  | cons a x ih =>
    cases y with
    | nil => rfl
    | cons b y =>
      unfold cp_
      by_cases e : a = b
      · subst e; rw [if_pos rfl, if_pos rfl, ih y]
      · rw [if_neg e, if_neg (fun h => e h.symm)]
theorem cp_get (x y : List Int) (k : Nat) (h : k < cp_ x y) : x[k]'(by have := cp_le x y; omega) = y[k]'(by have := cp_le x y; omega) := by
  induction x generalizing y k with
  | nil => simp [cp_] at h
  | cons a x ih =>
    cases y with
    | nil => simp [cp_] at h
    | cons b y =>
      unfold cp_ at h
      by_cases e : a = b
      · rw [if_pos e] at h
        cases k with
        | zero => exact e
        | succ k => simpa using ih y k (by omega)
      · rw [if_neg e] at h; omega
theorem btw_aux (l : List ND) (a b : Int) (x y r s q p : List Int) (er : x = 0 :: r) (es : y = 0 :: s) (eq : x = q ++ [a]) (ep : y = p ++ [b]) (hwx : way_ l x) (hwy : way_ l y)
    (hix : ∀ z ∈ x, 0 ≤ z ∧ z < (l.length : Int)) (hiy : ∀ z ∈ y, 0 ≤ z ∧ z < (l.length : Int)) (hlx : x.length ≤ 13) (hly : y.length ≤ 13) : ∃ v x' y', btw_ x y = x'.reverse ++ v :: y' ∧ btw_ y x = y'.reverse ++ v :: x' ∧
    (∃ q, v :: x' = q ++ [a]) ∧ (∃ q, v :: y' = q ++ [b]) ∧ way_ l (v :: x') ∧ way_ l (v :: y') ∧ (∀ z ∈ v :: x', 0 ≤ z ∧ z < (l.length : Int)) ∧ (∀ z ∈ v :: y', 0 ≤ z ∧ z < (l.length : Int)) ∧ x'.length ≤ 13 ∧ y'.length ≤ 13 := by
  have hc : 1 ≤ cp_ x y := by rw [er, es]; simp [cp_]
  have hcl := cp_le x y
  have hv := cp_get x y (cp_ x y - 1) (by omega)
  have hcm := cp_comm y x
  have dx : x.drop (cp_ x y - 1) = x[cp_ x y - 1]'(by omega) :: x.drop (cp_ x y) := by rw [List.drop_eq_getElem_cons (by omega), show cp_ x y - 1 + 1 = cp_ x y by omega]
  have dy : y.drop (cp_ x y - 1) = x[cp_ x y - 1]'(by omega) :: y.drop (cp_ x y) := by rw [List.drop_eq_getElem_cons (by omega), show cp_ x y - 1 + 1 = cp_ x y by omega, hv]
  have q1 : cp_ x y - 1 ≤ q.length := by
    have : x.length = q.length + 1 := by rw [eq]; simp
    omega
  have q2 : cp_ x y - 1 ≤ p.length := by
    have : y.length = p.length + 1 := by rw [ep]; simp
    omega
  unfold btw_
  rw [hcm]
  refine ⟨x[cp_ x y - 1]'(by omega), x.drop (cp_ x y), y.drop (cp_ x y), ?_, ?_, ?_, ?_, ?_, ?_, ?_, ?_, ?_, ?_⟩
  · rw [if_neg (by omega), dx]; simp
  · rw [if_neg (by omega), dy]; simp
  · rw [← dx]
    generalize cp_ x y - 1 = n at q1
    subst eq
    rw [List.drop_append_of_le_length q1]; exact ⟨_, rfl⟩
  · rw [← dy]
    generalize cp_ x y - 1 = n at q2
    subst ep
    rw [List.drop_append_of_le_length q2]; exact ⟨_, rfl⟩
  · rw [← dx]; exact way_drop _ _ hwx
  · rw [← dy]; exact way_drop _ _ hwy
  · rw [← dx]; exact fun z hz => hix z (List.mem_of_mem_drop hz)
  · rw [← dy]; exact fun z hz => hiy z (List.mem_of_mem_drop hz)
  · simp; omega
  · simp; omega
/-- The way between two nodes, told by the node at which it turns. -/
theorem btw_is (l : List ND) (a b : Int) (ha : isn_ l a = true) (hb : isn_ l b = true) : ∃ v x' y', btw_ (path_ l a) (path_ l b) = x'.reverse ++ v :: y' ∧ btw_ (path_ l b) (path_ l a) = y'.reverse ++ v :: x' ∧
    (∃ q, v :: x' = q ++ [a]) ∧ (∃ q, v :: y' = q ++ [b]) ∧ way_ l (v :: x') ∧ way_ l (v :: y') ∧ (∀ z ∈ v :: x', 0 ≤ z ∧ z < (l.length : Int)) ∧ (∀ z ∈ v :: y', 0 ≤ z ∧ z < (l.length : Int)) ∧ x'.length ≤ 13 ∧ y'.length ≤ 13 := by
  obtain ⟨⟨r, er⟩, ⟨q, eq⟩, hwx, hix⟩ := path_is l a ha
  obtain ⟨⟨s, es⟩, ⟨p, ep⟩, hwy, hiy⟩ := path_is l b hb
  exact btw_aux l a b _ _ r s q p er es eq ep hwx hwy hix hiy (path_len l a) (path_len l b)
theorem btw_root (l : List ND) (a : Int) (h : isn_ l a = true) : btw_ (path_ l 0) (path_ l a) = path_ l a := by
  obtain ⟨h1, h2, h3⟩ := isn_tree h
  have h0 : isn_ l 0 = true := by
    unfold isn_; rw [h1, Bool.true_and, decide_eq_true_eq]; omega
  obtain ⟨r, er⟩ := path_head l a h
  have e0 : path_ l 0 = [0] := by
    unfold path_
    rw [if_pos h0, up_cons l 12 0 (by omega)]
    have : pa_ l 0 = -1 := tree_root h1
    rw [this]; rfl
  rw [e0, er]
  simp [btw_, cp_]


theorem within_eq (a b c : Int) : impl_within.f a b c = some (decide (b ≤ a ∧ a ≤ c)) := by
  unfold impl_within.f; by_cases h : a ≥ b <;> simp [h]



theorem il0_eq (l : List ND) (h1 : 1 ≤ l.length) (hl : l.length ≤ 12) :
    ∀ d K (j : Nat), j + 1 + d = l.length → 2 * d < K → impl_TreeOk.l0 K l (l.drop 1) ((l.drop 1).length : Int) (j : Int) = some (rows_ l d (j + 1)) := by
  intro d
  have hd1 : (l.drop 1).length = l.length - 1 := by simp
  induction d with
  | zero =>
    intro K j hd hK
    obtain ⟨K, rfl⟩ : ∃ m, K = m + 1 := ⟨K - 1, by omega⟩
    simp only [impl_TreeOk.l0]
    rw [if_neg (by omega)]; rfl
  | succ d ih =>
    intro K j hd hK
    obtain ⟨K, rfl⟩ : ∃ m, K = m + 2 := ⟨K - 2, by omega⟩
    have e1 : ((j : Int) + 1) = ((j + 1 : Nat) : Int) := by omega
    have hrd : rd_T50 (l.drop 1) (j : Int) = rd_T50 l ((j + 1 : Nat) : Int) := by
      rw [rd_inode _ _ (by omega), rd_inode _ _ (by omega)]
      simp [Nat.add_comm]
    have hrt : ∀ p : Int, 0 ≤ p → p < ((j + 1 : Nat) : Int) → rd_T50 (l.take (j + 1)) p = rd_T50 l p := by
      intro p hp0 hp1
      obtain ⟨q, rfl⟩ : ∃ q : Nat, p = (q : Int) := ⟨p.toNat, by omega⟩
      rw [rd_inode _ _ (by simp; omega), rd_inode _ _ (by omega)]
      simp
    have hx : ∀ b p d' f, impl_TreeOk.j2 (K + 1) l (l.take (j + 1)) (l.drop 1) ((l.drop 1).length : Int) (j : Int) b p d' f = if b = true then some false else some (if (l.take (j + 1)).any (sib_ p d') then false else rows_ l d (j + 1 + 1)) := fun b p d' f => by
      simp only [impl_TreeOk.j2, impl_Node_impl_TreeOk_1.f, Option.bind_some]
      rw [wr ((j : Int) + 1) (by omega) (by omega), e1, ih K (j + 1) (by omega) (by omega)]
      unfold sib_
      cases b <;> cases (l.take (j + 1)).any (fun x => decide (x.f0 = p) && decide (x.f1 = d')) <;> simp
    simp only [impl_TreeOk.l0]
    rw [if_pos (by omega), if_pos (by omega), if_pos (by omega), wr ((j : Int) + 1) (by omega) (by omega), if_pos (by omega), if_pos (by omega), e1]
    rw [hrd, Int.toNat_natCast]
    unfold rows_ row_
    generalize hn : rd_T50 l ((j + 1 : Nat) : Int) = n
    simp only [within_eq, Option.bind_some, hx]
    have ht : ((l.take (j + 1)).length : Int) = ((j + 1 : Nat) : Int) := by simp; omega
    by_cases c0 : 0 ≤ n.f0 ∧ n.f0 < ((j + 1 : Nat) : Int)
    · rw [if_pos (by simp; omega), if_pos c0.1, if_pos (by rw [ht]; omega), decide_eq_true c0, Bool.true_and, hrt _ c0.1 c0.2]
      by_cases c1 : (rd_T50 l n.f0).f2 = 0
      · rw [if_pos c1, decide_eq_true c1, Bool.true_and]
        by_cases c2 : 0 ≤ n.f1 ∧ n.f1 ≤ 3
        · rw [decide_eq_true c2, if_pos rfl, Bool.true_and]
          by_cases c3 : 0 ≤ n.f2 ∧ n.f2 ≤ 4
          · rw [decide_eq_true c3, if_neg (by simp), Bool.true_and]
            cases (l.take (j + 1)).any (sib_ n.f0 n.f1) <;> simp
          · rw [decide_eq_false c3]; simp
        · rw [decide_eq_false c2]; simp
      · rw [if_neg c1, decide_eq_false c1]; simp
    · rw [if_neg (by simp; omega), decide_eq_false c0]; simp
theorem itree_eq (l : List ND) (hl : l.length ≤ 9223372036854775807) (K : Nat) (hK : 200 < K) : impl_TreeOk.f K l = some (tree_ l) := by
  obtain ⟨K, rfl⟩ : ∃ m, K = m + 1 := ⟨K - 1, by omega⟩
  unfold impl_TreeOk.f tree_
  simp only [within_eq, Option.bind_some, impl_TreeOk.j0]
  by_cases c : 1 ≤ (l.length : Int) ∧ (l.length : Int) ≤ 12
  · rw [decide_eq_true c, if_pos rfl, if_pos (by omega), Bool.true_and, if_pos (show (1 : Int) ≤ (l.length : Int) from c.1)]
    have h := il0_eq l (by omega) (by omega) (l.length - 1) K 0 (by omega) (by omega)
    by_cases hr : root_ l = true
    · have hr2 := hr
      simp only [root_, Bool.and_eq_true, beq_iff_eq] at hr2
      rw [hr, Bool.true_and, if_neg (by simp [hr2])]
      exact h
    · rw [Bool.not_eq_true] at hr
      rw [hr, if_pos, Bool.false_and]
      unfold root_ at hr
      revert hr
      cases (rd_T50 l 0).f0 == -1 <;> cases (rd_T50 l 0).f1 == 0 <;> cases (rd_T50 l 0).f2 == 0 <;> simp
  · rw [decide_eq_false c, if_neg (by simp), Bool.false_and]; simp


theorem isNode_eq (l : List ND) (x : Int) (hl : l.length ≤ 9223372036854775807) (K : Nat) (hK : 200 < K) : impl_isNode.f K l x = some (isn_ l x) := by
  unfold impl_isNode.f isn_
  rw [itree_eq l hl K hK, obs]
  cases h : tree_ l
  · simp
  · have := tree_len h
    rw [if_pos rfl, within_eq, obs, wr ((l.length : Int) - 1) (by omega) (by omega), Bool.true_and]
    congr 1
    rw [Bool.eq_iff_iff, decide_eq_true_eq, decide_eq_true_eq]; omega

theorem rev_at (a : List Int) (y : Int) (b : List Int) : rd (a ++ y :: b) (a.length : Int) = y := by
  rw [rd_nat _ _ (by simp)]; simp
theorem rev_loop : ∀ (n K : Nat) (a m b : List Int), m.length ≤ n → n < K → a.length + m.length + b.length ≤ 1048576 →
    slices_Reverse_int_int.l0 K (a ++ (m ++ b)) (a.length : Int) ((a.length : Int) + (m.length : Int) - 1) = some (a ++ (m.reverse ++ b)) := by
  intro n
  induction n with
  | zero =>
    intro K a m b hm hK hl
    obtain ⟨K, rfl⟩ : ∃ q, K = q + 1 := ⟨K - 1, by omega⟩
    have : m = [] := List.eq_nil_of_length_eq_zero (by omega)
    subst this
    simp only [slices_Reverse_int_int.l0]
    rw [if_neg (by simp; omega)]; simp
  | succ n ih =>
    intro K a m b hm hK hl
    obtain ⟨K, rfl⟩ : ∃ q, K = q + 1 := ⟨K - 1, by omega⟩
    by_cases h2 : m.length < 2
    · simp only [slices_Reverse_int_int.l0]
      rw [if_neg (by omega)]
      have : m.reverse = m := by
        cases m with
        | nil => rfl
        | cons x xs =>
          have : xs = [] := List.eq_nil_of_length_eq_zero (by simp at h2; omega)
          subst this; rfl
      rw [this]
    · obtain ⟨y, m', rfl⟩ : ∃ y m', m = y :: m' := by
        cases m with
        | nil => simp at h2
        | cons y m' => exact ⟨y, m', rfl⟩
      obtain ⟨m2, z, rfl⟩ : ∃ m2 z, m' = m2 ++ [z] := by
        refine ⟨m'.dropLast, m'.getLast (fun e => by subst e; simp at h2), ?_⟩
        rw [List.dropLast_concat_getLast]
      simp only [List.length_cons, List.length_append, List.length_nil] at hm hl h2 ⊢
      have hj : ((a.length : Int) + ((m2.length + (0 + 1) + 1 : Nat) : Int) - 1) = ((a ++ y :: m2).length : Int) := by simp; omega
      rw [hj]
      have e0 : a ++ (y :: (m2 ++ [z]) ++ b) = a ++ y :: (m2 ++ z :: b) := by simp
      have e1 : a ++ (y :: (m2 ++ [z]) ++ b) = (a ++ y :: m2) ++ z :: b := by simp
      have r0 : rd (a ++ (y :: (m2 ++ [z]) ++ b)) (a.length : Int) = y := by rw [e0]; exact rev_at _ _ _
      have r1 : rd (a ++ (y :: (m2 ++ [z]) ++ b)) ((a ++ y :: m2).length : Int) = z := by rw [e1]; exact rev_at _ _ _
      have hlen : ((a ++ (y :: (m2 ++ [z]) ++ b)).length : Int) = (a.length : Int) + m2.length + 2 + b.length := by simp; omega
      have hjl : ((a ++ y :: m2).length : Int) = (a.length : Int) + m2.length + 1 := by simp; omega
      simp only [slices_Reverse_int_int.l0]
      rw [if_pos (by omega), if_pos (by omega), if_pos (by omega), if_pos (by omega), if_pos (by omega), r0, r1]
      have hs : ((a ++ (y :: (m2 ++ [z]) ++ b)).set (a.length : Int).toNat z).set ((a ++ y :: m2).length : Int).toNat y = (a ++ [z]) ++ (m2 ++ (y :: b)) := by
        rw [e0, Int.toNat_natCast, Int.toNat_natCast]
        have : (a ++ y :: (m2 ++ z :: b)).set a.length z = (a ++ z :: m2) ++ z :: b := by simp
        rw [this]
        have hl2 : (a ++ y :: m2).length = (a ++ z :: m2).length := by simp
        rw [hl2, List.set_append_right _ _ (Nat.le_refl _)]
        simp
      rw [hs, wr ((a.length : Int) + 1) (by omega) (by omega), wr (((a ++ y :: m2).length : Int) - 1) (by omega) (by omega)]
      have h := ih K (a ++ [z]) m2 (y :: b) (by omega) (by omega) (by simp; omega)
      have ea : (((a ++ [z]).length : Nat) : Int) = (a.length : Int) + 1 := by simp
      rw [ea] at h
      have ej : ((a ++ y :: m2).length : Int) - 1 = (a.length : Int) + 1 + (m2.length : Int) - 1 := by omega
      rw [ej, h]
      simp
theorem rev_eq (K : Nat) (l : List Int) (hl : l.length ≤ 1048576) (hK : l.length < K) : slices_Reverse_int_int.f K l = some l.reverse := by
  unfold slices_Reverse_int_int.f
  have h := rev_loop l.length K [] l [] (Nat.le_refl _) hK (by simp; omega)
  simp only [List.nil_append, List.append_nil, List.length_nil] at h
  rw [wr _ (by omega) (by omega)]
  have e : ((0 : Nat) : Int) + (l.length : Int) - 1 = (l.length : Int) - 1 := by omega
  rw [e] at h
  exact h

theorem ipl_eq (l : List ND) (h : tree_ l = true) : ∀ (d K : Nat) (x : Int) (out : List Int), -1 ≤ x → x < (d : Int) → x < (l.length : Int) → d + 1001 < K → out.length + d ≤ 1000 → impl_PathTo.l0 K l x out = some ((out ++ up_ l d x).reverse) := by
  intro d
  induction d with
  | zero =>
    intro K x out h0 h1 h2 hK ho
    obtain ⟨K, rfl⟩ : ∃ m, K = m + 1 := ⟨K - 1, by omega⟩
    simp only [impl_PathTo.l0]
    rw [if_neg (by omega), rev_eq K out (by omega) (by omega)]; simp [up_]
  | succ d ih =>
    intro K x out h0 h1 h2 hK ho
    obtain ⟨K, rfl⟩ : ∃ m, K = m + 1 := ⟨K - 1, by omega⟩
    simp only [impl_PathTo.l0]
    unfold up_
    by_cases hx : 0 ≤ x
    · have hp := parent_lt h x hx h2
      rw [if_pos hx, if_pos hx, if_pos (by omega), if_pos h2, ih K _ _ hp.1 (by omega) (by omega) (by omega) (by simp; omega)]
      simp [hx]
    · rw [if_neg hx, if_neg hx, rev_eq K out (by omega) (by omega)]; simp
theorem ipath_eq (l : List ND) (x : Int) (hl : l.length ≤ 9223372036854775807) (K : Nat) (hK : 2000 < K) : impl_PathTo.f K l x = some (path_ l x) := by
  unfold impl_PathTo.f path_
  rw [obs, isNode_eq l x hl K (by omega), obs]
  by_cases h : isn_ l x = true
  · obtain ⟨h1, h2, h3⟩ := isn_tree h
    have := tree_len h1
    rw [if_pos h, if_pos h, ipl_eq l h1 13 K x [] (by omega) (by omega) h3 (by omega) (by simp)]
    simp
  · rw [if_neg h, if_neg h]

/-- Where an element first stands. -/
def ix_ (a : Int) : Nat → List Int → Int
  | _, [] => -1
  | i, x :: xs => if a = x then i else ix_ a (i + 1) xs
theorem ix_spec (a : Int) : ∀ (xs : List Int) (i : Nat), (a ∈ xs → ∃ j : Nat, ix_ a i xs = ((i + j : Nat) : Int) ∧ xs[j]? = some a) ∧ (a ∉ xs → ix_ a i xs = -1) := by
  intro xs
  induction xs with
  | nil => intro i; exact ⟨fun h => by simp at h, fun _ => rfl⟩
  | cons x xs ih =>
    intro i
    unfold ix_
    by_cases hx : a = x
    · rw [if_pos hx]
      exact ⟨fun _ => ⟨0, by simp, by simp [hx]⟩, fun h => absurd (by simp [hx]) h⟩
    · rw [if_neg hx]
      refine ⟨fun h => ?_, fun h => (ih (i + 1)).2 (fun h2 => h (by simp [h2]))⟩
      obtain ⟨j, e1, e2⟩ := (ih (i + 1)).1 (by simpa [hx] using h)
      exact ⟨j + 1, by rw [e1]; congr 1; omega, by simpa using e2⟩
theorem index_eq (k : Nat) (l : List Int) (a : Int) (hl : l.length ≤ 1048576) (hk : l.length < k) : slices_Index_int_int.f k l a = some (ix_ a 0 l) := by
  have h : ∀ (d k i : Nat), i + d = l.length → d < k → slices_Index_int_int.l0 k l a (l.length : Int) (i : Int) = some (ix_ a i (l.drop i)) := by
    intro d
    induction d with
    | zero =>
      intro k i hi hk
      obtain ⟨k, rfl⟩ : ∃ m, k = m + 1 := ⟨k - 1, by omega⟩
      simp only [slices_Index_int_int.l0]
      rw [if_neg (by omega), List.drop_of_length_le (by omega)]; rfl
    | succ d ih =>
      intro k i hi hk
      obtain ⟨k, rfl⟩ : ∃ m, k = m + 1 := ⟨k - 1, by omega⟩
      simp only [slices_Index_int_int.l0]
      rw [if_pos (by omega), if_pos (by omega), if_pos (by omega), rd_nat _ _ (by omega), List.drop_eq_getElem_cons (by omega), wr ((i : Int) + 1) (by omega) (by omega)]
      unfold ix_
      by_cases hx : a = l[i]'(by omega)
      · rw [if_pos hx, if_pos hx]
      · rw [if_neg hx, if_neg hx]; exact ih k (i + 1) (by omega) (by omega)
  have := h l.length k 0 (by omega) hk
  unfold slices_Index_int_int.f
  simpa using this
theorem cont_eq (k : Nat) (l : List Int) (a : Int) (hl : l.length ≤ 1048576) (hk : l.length < k) : slices_Contains_int_int.f k l a = some (decide (a ∈ l)) := by
  unfold slices_Contains_int_int.f
  rw [index_eq k l a hl hk]
  simp only [Option.bind_some]
  congr 1
  rw [Bool.eq_iff_iff, decide_eq_true_eq, decide_eq_true_eq]
  by_cases h : a ∈ l
  · obtain ⟨j, e, _⟩ := (ix_spec a l 0).1 h
    rw [e]; exact ⟨fun _ => h, fun _ => by omega⟩
  · rw [(ix_spec a l 0).2 h]; exact ⟨fun h2 => by omega, fun h2 => absurd h2 h⟩

theorem lhas_eq (k : Nat) (l : List Int) (a : Int) (hl : l.length ≤ 1048576) (hk : l.length < k) : laws_has.f k l a = some (decide (a ∈ l)) := by
  have h := scan_loop (fun k (_ : Unit) i => laws_has.l0 k l a i) l (fun _ x => if x = a then Sum.inr true else Sum.inl ()) (fun _ => false)
    (fun k s i h s' e => by
      have hx : ¬ l[i] = a := by intro hx; simp [hx] at e
      simp only [laws_has.l0]
      rw [if_pos (by omega), if_pos (by omega), rd_nat _ _ h, if_neg hx, wr ((i : Int) + 1) (by omega) (by omega)]
      rfl)
    (fun k s i h r e => by
      have hx : l[i] = a := by
        by_cases hx : l[i] = a
        · exact hx
        · simp [hx] at e
      rw [if_pos hx] at e
      injection e with e
      subst e
      simp only [laws_has.l0]
      rw [if_pos (by omega), if_pos (by omega), rd_nat _ _ h, if_pos hx])
    (fun k s => by
      simp only [laws_has.l0]
      rw [if_neg (by omega)]) l.length k () 0 (by omega) hk
  have e : ∀ xs : List Int, runL (fun _ x => if x = a then Sum.inr true else Sum.inl ()) (fun _ => false) () xs = decide (a ∈ xs) := by
    intro xs
    induction xs with
    | nil => simp [runL]
    | cons x xs ih =>
      unfold runL
      by_cases hx : x = a
      · rw [if_pos hx]; simp [hx]
      · rw [if_neg hx]; simp only [ih]; simp [show ¬ a = x from fun h => hx h.symm]
  rw [e] at h
  exact h



/-- The places from i on, d of them, whose node answers to p. -/
def ixs_ (l : List ND) (p : ND → Bool) : Nat → Nat → List Int
  | 0, _ => []
  | d + 1, i => if p (rd_T50 l (i : Int)) = true then (i : Int) :: ixs_ l p d (i + 1) else ixs_ l p d (i + 1)
def kid_ (x d : Int) (n : ND) : Bool := decide (n.f0 = x) && decide (n.f1 = d)
def kidsAt_ (l : List ND) (x d : Int) : List Int := ixs_ l (kid_ x d) (l.length - 1) 1
def kids_ (l : List ND) (x : Int) : List Int := if isn_ l x = true then kidsAt_ l x 0 ++ (kidsAt_ l x 1 ++ (kidsAt_ l x 2 ++ kidsAt_ l x 3)) else []
theorem ixs_succ (l : List ND) (p : ND → Bool) (d i : Nat) : ixs_ l p (d + 1) i = if p (rd_T50 l (i : Int)) = true then (i : Int) :: ixs_ l p d (i + 1) else ixs_ l p d (i + 1) := rfl
theorem ixs_len (l : List ND) (p : ND → Bool) : ∀ d i, (ixs_ l p d i).length ≤ d := by
  intro d
  induction d with
  | zero => intro i; simp [ixs_]
  | succ d ih => intro i; have := ih (i + 1); rw [ixs_succ]; split <;> simp <;> omega
theorem ixs_mem (l : List ND) (p : ND → Bool) : ∀ d i (y : Int), y ∈ ixs_ l p d i → (i : Int) ≤ y ∧ y < ((i + d : Nat) : Int) ∧ p (rd_T50 l y) = true := by
  intro d
  induction d with
  | zero => intro i y h; simp [ixs_] at h
  | succ d ih =>
    intro i y h
    rw [ixs_succ] at h
    split at h
    · rename_i hp
      rcases List.mem_cons.1 h with rfl | h
      · exact ⟨by omega, by omega, hp⟩
      · obtain ⟨a, b, c⟩ := ih _ _ h; exact ⟨by omega, by omega, c⟩
    · obtain ⟨a, b, c⟩ := ih _ _ h; exact ⟨by omega, by omega, c⟩
theorem ixs_filter (l : List ND) (p q : ND → Bool) : ∀ d i, (ixs_ l p d i).filter (fun y => q (rd_T50 l y)) = ixs_ l (fun n => p n && q n) d i := by
  intro d
  induction d with
  | zero => intro i; rfl
  | succ d ih =>
    intro i
    rw [ixs_succ, ixs_succ]
    cases hp : p (rd_T50 l (i : Int)) <;> cases hq : q (rd_T50 l (i : Int)) <;> simp [ih, hq]
theorem kidsAt_len (l : List ND) (x d : Int) (hl : l.length ≤ 12) : (kidsAt_ l x d).length ≤ 12 := by
  have := ixs_len l (kid_ x d) (l.length - 1) 1; unfold kidsAt_; omega
theorem kids_len (l : List ND) (x : Int) : (kids_ l x).length ≤ 48 := by
  unfold kids_
  split
  · rename_i h
    obtain ⟨t, _⟩ := isn_tree h
    have t1 := (tree_len t).2
    have z0 := kidsAt_len l x 0 t1; have z1 := kidsAt_len l x 1 t1; have z2 := kidsAt_len l x 2 t1; have z3 := kidsAt_len l x 3 t1
    simp; omega
  · simp

/-- The children in the order of their places. -/
def all_ (l : List ND) (x : Int) : List Int := ixs_ l (fun n => decide (n.f0 = x)) l.length 0
theorem ikid0_eq (l : List ND) (x : Int) (hl : l.length ≤ 12) : ∀ (d K i : Nat) (out : List Int), i + d = l.length → d < K → out.length + d ≤ 1000 → impl_ChildrenOf.l0 K x out l (l.length : Int) (i : Int) l = slices_SortFunc_int_int_impl_ChildrenOf_1.f (out ++ ixs_ l (fun n => decide (n.f0 = x)) d i) l := by
  intro d
  induction d with
  | zero =>
    intro K i out h hK ho
    obtain ⟨K, rfl⟩ : ∃ m, K = m + 1 := ⟨K - 1, by omega⟩
    simp only [impl_ChildrenOf.l0]
    rw [if_neg (by omega)]; simp [ixs_]
  | succ d ih =>
    intro K i out h hK ho
    obtain ⟨K, rfl⟩ : ∃ m, K = m + 1 := ⟨K - 1, by omega⟩
    simp only [impl_ChildrenOf.l0]
    rw [if_pos (by omega), if_pos (by omega), if_pos (by omega), ixs_succ, wr ((i : Int) + 1) (by omega) (by omega), show (i : Int) + 1 = ((i + 1 : Nat) : Int) by omega]
    by_cases a : (rd_T50 l (i : Int)).f0 = x
    · rw [if_pos a, if_pos (by omega), ih K (i + 1) _ (by omega) (by omega) (by simp; omega), if_pos (by simp [a])]
      simp
    · rw [if_neg a, ih K (i + 1) _ (by omega) (by omega) (by omega), if_neg (by simp [a])]
theorem any_take (l : List ND) (p : ND → Bool) (j i : Nat) (hi : i < j) (hj : j ≤ l.length) (h : (l.take j).any p = false) : p (rd_T50 l (i : Int)) = false := by
  rw [List.any_eq_false] at h
  have := h (rd_T50 l (i : Int)) (by rw [rd_inode l i (by omega)]; exact List.mem_take_iff_getElem.2 ⟨i, by omega, rfl⟩)
  simpa using this
theorem all_nodup (l : List ND) (h : tree_ l = true) (x : Int) (hx : 0 ≤ x) : ∀ d i, i + d = l.length → ((ixs_ l (fun n => decide (n.f0 = x)) d i).map (slices_SortFunc_int_int_impl_ChildrenOf_1.key l)).Nodup := by
  intro d
  induction d with
  | zero => intro i _; simp [ixs_]
  | succ d ih =>
    intro i hi
    rw [ixs_succ]
    split
    · rename_i hp
      rw [List.map_cons, List.nodup_cons]
      refine ⟨?_, ih (i + 1) (by omega)⟩
      intro hm
      obtain ⟨y, hy, e⟩ := List.mem_map.1 hm
      obtain ⟨y0, y1, y2⟩ := ixs_mem _ _ _ _ _ hy
      obtain ⟨j, rfl⟩ : ∃ j : Nat, y = (j : Int) := ⟨y.toNat, by omega⟩
      have hr := tree_row h j (by omega) (by omega)
      simp only [row_, Bool.and_eq_true, Bool.not_eq_true'] at hr
      have := any_take l _ j i (by omega) (by omega) hr.2.2.2.2
      simp only [sib_, slices_SortFunc_int_int_impl_ChildrenOf_1.key] at this e hp y2
      simp only [decide_eq_true_eq] at hp y2
      rw [y2, hp, e] at this
      simp at this
    · exact ih (i + 1) (by omega)
theorem ikids_eq (l : List ND) (x : Int) (hl : l.length ≤ 9223372036854775807) (K : Nat) (hK : 500 < K) : impl_ChildrenOf.f K l x = some (kids_ l x) := by
  unfold impl_ChildrenOf.f kids_
  rw [obs, isNode_eq l x hl K (by omega), obs]
  by_cases h : isn_ l x = true
  · obtain ⟨t, g0, g1⟩ := isn_tree h
    obtain ⟨t0, t1⟩ := tree_len t
    have hlen := ixs_len l (fun n => decide (n.f0 = x)) l.length 0
    have hw := ikid0_eq l x t1 l.length K 0 [] (by omega) (by omega) (by simp; omega)
    simp only [List.nil_append, Int.natCast_zero] at hw
    rw [if_pos h, if_pos h]
    refine Eq.trans hw ?_
    unfold slices_SortFunc_int_int_impl_ChildrenOf_1.f
    have hroot := tree_root t
    have hall : (ixs_ l (fun n => decide (n.f0 = x)) l.length 0).all (fun y => decide (0 ≤ y ∧ y < (l.length : Int) ∧ 0 ≤ slices_SortFunc_int_int_impl_ChildrenOf_1.key l y ∧ slices_SortFunc_int_int_impl_ChildrenOf_1.key l y ≤ 3)) = true := by
      rw [List.all_eq_true]
      intro y hy
      obtain ⟨y0, y1, y2⟩ := ixs_mem _ _ _ _ _ hy
      obtain ⟨j, rfl⟩ : ∃ j : Nat, y = (j : Int) := ⟨y.toNat, by omega⟩
      simp only [decide_eq_true_eq] at y2
      have hj : 0 < j := by
        rcases Nat.eq_zero_or_pos j with rfl | hj
        · rw [show ((0 : Nat) : Int) = 0 by rfl, hroot] at y2; omega
        · exact hj
      have hr := tree_row t j hj (by omega)
      simp only [row_, Bool.and_eq_true, decide_eq_true_eq] at hr
      simp only [slices_SortFunc_int_int_impl_ChildrenOf_1.key]
      exact decide_eq_true ⟨by omega, by omega, hr.2.2.1.1, hr.2.2.1.2⟩
    rw [if_pos (by
      rw [hall, decide_eq_true (all_nodup l t x g0 l.length 0 (by omega)), decide_eq_true (show (ixs_ l (fun n => decide (n.f0 = x)) l.length 0).length ≤ 12 by omega)]; rfl)]
    have hf : ∀ c : Int, (ixs_ l (fun n => decide (n.f0 = x)) l.length 0).filter (fun y => decide (slices_SortFunc_int_int_impl_ChildrenOf_1.key l y = c)) = kidsAt_ l x c := fun c => by
      have e := ixs_filter l (fun n => decide (n.f0 = x)) (fun n => decide (n.f1 = c)) l.length 0
      refine e.trans ?_
      obtain ⟨m, hm⟩ : ∃ m, l.length = m + 1 := ⟨l.length - 1, by omega⟩
      unfold kidsAt_
      rw [hm, ixs_succ, if_neg (by simp [hroot]; omega)]
      rfl
    rw [hf, hf, hf, hf]
  · rw [if_neg h, if_neg h]


theorem ixs_skip (l : List ND) (p : ND → Bool) : ∀ e d i, (∀ j : Nat, i ≤ j → j < i + e → p (rd_T50 l (j : Int)) = false) → ixs_ l p (e + d) i = ixs_ l p d (i + e) := by
  intro e
  induction e with
  | zero => intro d i _; rw [Nat.zero_add]; rfl
  | succ e ih =>
    intro d i h
    rw [show e + 1 + d = (e + d) + 1 by omega, ixs_succ, if_neg (by rw [h i (by omega) (by omega)]; simp), ih d (i + 1) (fun j h1 h2 => h j (by omega) (by omega))]
    rw [show i + 1 + e = i + (e + 1) by omega]
theorem kidsAt_skip (l : List ND) (h : tree_ l = true) (x c : Int) (h0 : 0 ≤ x) (h1 : x < (l.length : Int)) : kidsAt_ l x c = ixs_ l (kid_ x c) (l.length - 1 - x.toNat) (x.toNat + 1) := by
  unfold kidsAt_
  rw [show l.length - 1 = x.toNat + (l.length - 1 - x.toNat) by omega, ixs_skip l _ x.toNat _ 1 (fun j h2 h3 => by
    have := tree_parent h j (by omega) (by omega)
    unfold kid_
    rw [decide_eq_false (by omega)]; rfl)]
  rw [show x.toNat + (l.length - 1 - x.toNat) - x.toNat = l.length - 1 - x.toNat by omega, Nat.add_comm 1]
theorem kids_mem (l : List ND) (h : tree_ l = true) (x y : Int) (h0 : 0 ≤ x) (h1 : x < (l.length : Int)) (hy : y ∈ kids_ l x) : x < y ∧ y < (l.length : Int) := by
  have hk : ∀ c, y ∈ kidsAt_ l x c → x < y ∧ y < (l.length : Int) := fun c hc => by
    rw [kidsAt_skip l h x c h0 h1] at hc
    have := ixs_mem _ _ _ _ _ hc
    omega
  unfold kids_ at hy
  split at hy
  · rcases List.mem_append.1 hy with hy | hy
    · exact hk 0 hy
    · rcases List.mem_append.1 hy with hy | hy
      · exact hk 1 hy
      · rcases List.mem_append.1 hy with hy | hy
        · exact hk 2 hy
        · exact hk 3 hy
  · simp at hy

theorem up_le (l : List ND) (h : tree_ l = true) : ∀ (d : Nat) (x : Int), x < (l.length : Int) → ∀ y ∈ up_ l d x, y ≤ x := by
  intro d
  induction d with
  | zero => intro x _ y hy; simp [up_] at hy
  | succ d ih =>
    intro x hx y hy
    by_cases h0 : 0 ≤ x
    · rw [up_cons l d x h0] at hy
      have hp := parent_lt h x h0 hx
      rcases List.mem_cons.1 hy with rfl | hy
      · omega
      · have := ih (pa_ l x) (by unfold pa_; omega) y hy
        unfold pa_ at this; omega
    · have : up_ l (d + 1) x = [] := by unfold up_; rw [if_neg h0]
      rw [this] at hy; simp at hy
theorem isn_of {l : List ND} {x : Int} (h : tree_ l = true) (h0 : 0 ≤ x) (h1 : x < (l.length : Int)) : isn_ l x = true := by
  unfold isn_; rw [h, Bool.true_and, decide_eq_true_eq]; exact ⟨h0, h1⟩
theorem path_not (l : List ND) (h : tree_ l = true) (x y : Int) (h0 : 0 ≤ x) (h1 : x < (l.length : Int)) (hy : x < y) : y ∉ path_ l x := by
  intro hm
  unfold path_ at hm
  rw [if_pos (isn_of h h0 h1), List.mem_reverse] at hm
  have := up_le l h 13 x h1 y hm
  omega
theorem ixs_of (l : List ND) (p : ND → Bool) : ∀ (d i j : Nat), i ≤ j → j < i + d → p (rd_T50 l (j : Int)) = true → (j : Int) ∈ ixs_ l p d i := by
  intro d
  induction d with
  | zero => intro i j _ _ _; omega
  | succ d ih =>
    intro i j h1 h2 h3
    rw [ixs_succ]
    by_cases e : j = i
    · subst e; rw [if_pos h3]; exact List.mem_cons_self
    · have := ih (i + 1) j (by omega) (by omega) h3
      split
      · exact List.mem_cons_of_mem _ this
      · exact this
theorem kids_of (l : List ND) (h : tree_ l = true) (j : Nat) (h0 : 0 < j) (h1 : j < l.length) : (j : Int) ∈ kids_ l (rd_T50 l (j : Int)).f0 := by
  have hp := tree_parent h j h0 h1
  have hr := tree_row h j h0 h1
  simp only [row_, Bool.and_eq_true, decide_eq_true_eq] at hr
  have hd := hr.2.2.1
  unfold kids_
  rw [if_pos (isn_of h hp.1 (by omega))]
  have hk : ∀ c : Int, (rd_T50 l (j : Int)).f1 = c → (j : Int) ∈ kidsAt_ l (rd_T50 l (j : Int)).f0 c := fun c hc => ixs_of l _ (l.length - 1) 1 j (by omega) (by omega) (by unfold kid_; rw [hc]; simp)
  by_cases c0 : (rd_T50 l (j : Int)).f1 = 0
  · exact List.mem_append.2 (.inl (hk 0 c0))
  · by_cases c1 : (rd_T50 l (j : Int)).f1 = 1
    · exact List.mem_append.2 (.inr (List.mem_append.2 (.inl (hk 1 c1))))
    · by_cases c2 : (rd_T50 l (j : Int)).f1 = 2
      · exact List.mem_append.2 (.inr (List.mem_append.2 (.inr (List.mem_append.2 (.inl (hk 2 c2))))))
      · exact List.mem_append.2 (.inr (List.mem_append.2 (.inr (List.mem_append.2 (.inr (hk 3 (by omega)))))))
theorem kidsAt_at (l : List ND) (x c y : Int) (hy : y ∈ kidsAt_ l x c) : (rd_T50 l y).f0 = x ∧ (rd_T50 l y).f1 = c := by
  have := (ixs_mem _ _ _ _ _ hy).2.2
  simpa only [kid_, Bool.and_eq_true, decide_eq_true_eq] using this
theorem kids_f0 (l : List ND) (x y : Int) (hy : y ∈ kids_ l x) : (rd_T50 l y).f0 = x := by
  unfold kids_ at hy
  split at hy
  · rcases List.mem_append.1 hy with hy | hy
    · exact (kidsAt_at l x 0 y hy).1
    · rcases List.mem_append.1 hy with hy | hy
      · exact (kidsAt_at l x 1 y hy).1
      · rcases List.mem_append.1 hy with hy | hy
        · exact (kidsAt_at l x 2 y hy).1
        · exact (kidsAt_at l x 3 y hy).1
  · simp at hy
theorem ixs_pw (l : List ND) (h : tree_ l = true) (x c : Int) : ∀ (d i : Nat), 1 ≤ i → i + d = l.length → (ixs_ l (kid_ x c) d i).Pairwise (fun a b => (rd_T50 l a).f1 < (rd_T50 l b).f1) := by
  intro d
  induction d with
  | zero => intro i _ _; simp [ixs_]
  | succ d ih =>
    intro i h1 hi
    rw [ixs_succ]
    split
    · rename_i hp
      rw [List.pairwise_cons]
      refine ⟨fun y hy => ?_, ih (i + 1) (by omega) (by omega)⟩
      obtain ⟨y0, y1, y2⟩ := ixs_mem _ _ _ _ _ hy
      obtain ⟨j, rfl⟩ : ∃ j : Nat, y = (j : Int) := ⟨y.toNat, by omega⟩
      have hr := tree_row h j (by omega) (by omega)
      simp only [row_, Bool.and_eq_true, Bool.not_eq_true'] at hr
      have := any_take l _ j i (by omega) (by omega) hr.2.2.2.2
      simp only [kid_, Bool.and_eq_true, decide_eq_true_eq] at hp y2
      rw [sib_, y2.1, y2.2, hp.1, hp.2] at this
      simp at this
    · exact ih (i + 1) (by omega) (by omega)
theorem kids_pw (l : List ND) (h : tree_ l = true) (x : Int) : (kids_ l x).Pairwise (fun a b => (rd_T50 l a).f1 < (rd_T50 l b).f1) := by
  have ht := tree_len h
  have hp : ∀ c, (kidsAt_ l x c).Pairwise (fun a b => (rd_T50 l a).f1 < (rd_T50 l b).f1) := fun c => ixs_pw l h x c _ 1 (by omega) (by omega)
  have hd : ∀ c y, y ∈ kidsAt_ l x c → (rd_T50 l y).f1 = c := fun c y hy => (kidsAt_at l x c y hy).2
  unfold kids_
  split
  · refine List.pairwise_append.2 ⟨hp 0, List.pairwise_append.2 ⟨hp 1, List.pairwise_append.2 ⟨hp 2, hp 3, fun a ha b hb => ?_⟩, fun a ha b hb => ?_⟩, fun a ha b hb => ?_⟩
    · rw [hd 2 a ha, hd 3 b hb]; omega
    · rw [hd 1 a ha]
      rcases List.mem_append.1 hb with hb | hb
      · rw [hd 2 b hb]; omega
      · rw [hd 3 b hb]; omega
    · rw [hd 0 a ha]
      rcases List.mem_append.1 hb with hb | hb
      · rw [hd 1 b hb]; omega
      · rcases List.mem_append.1 hb with hb | hb
        · rw [hd 2 b hb]; omega
        · rw [hd 3 b hb]; omega
  · simp
theorem path_parent (l : List ND) (h : tree_ l = true) (x y : Int) (h0 : 0 ≤ x) (hxy : x < y) (h1 : y < (l.length : Int)) (e : (rd_T50 l y).f0 = x) : x ∈ path_ l y := by
  unfold path_
  rw [if_pos (isn_of h (by omega) h1), List.mem_reverse, up_cons l 12 y (by omega), show pa_ l y = x from e, up_cons l 11 x h0]
  simp
theorem isBelow_eq (l : List ND) (x y : Int) (hl : l.length ≤ 9223372036854775807) (K : Nat) (hK : 3000 < K) : impl_IsBelow.f K l x y = some (decide (y ∈ path_ l x)) := by
  have hp := path_len l x
  unfold impl_IsBelow.f
  rw [ipath_eq l x hl K (by omega), obs, cont_eq K _ y (by omega) (by omega), obs]
theorem below_l1 (t : List ND) (ht : tree_ t = true) (x : Int) (h0 : 0 ≤ x) (h1 : x < (t.length : Int)) (R : Nat) (hR : 3000 < R) (hn : ∀ K, R ≤ K → laws_FnBelow.l0 K t (wrap64 (x + 1)) = some true) :
    ∀ (d K i : Nat), i + d = (kids_ t x).length → d + R < K → laws_FnBelow.l1 K t x (kids_ t x) (i : Int) = some true := by
  intro d
  have hlt := tree_len ht
  have hkl := kids_len t x
  induction d with
  | zero =>
    intro K i hi hK
    obtain ⟨K, rfl⟩ : ∃ m, K = m + 1 := ⟨K - 1, by omega⟩
    simp only [laws_FnBelow.l1]
    rw [if_neg (by omega)]
    exact hn K (by omega)
  | succ d ih =>
    intro K i hi hK
    obtain ⟨K, rfl⟩ : ∃ m, K = m + 1 := ⟨K - 1, by omega⟩
    have hi' : i < (kids_ t x).length := by omega
    have hm : (kids_ t x)[i] ∈ kids_ t x := List.getElem_mem hi'
    have hk := kids_mem t ht x _ h0 h1 hm
    have hf := kids_f0 t x _ hm
    have hpth := path_parent t ht x _ h0 hk.1 hk.2 hf
    simp only [laws_FnBelow.l1]
    rw [rd_nat _ _ hi', if_pos (by omega), if_pos (by omega), if_neg (by omega), if_neg (by omega), isBelow_eq t _ x (by omega) K (by omega), obs, if_pos (decide_eq_true hpth), wr ((i : Int) + 1) (by omega) (by omega), show (i : Int) + 1 = ((i + 1 : Nat) : Int) by omega, ih K (i + 1) (by omega) (by omega)]
    by_cases g : (i : Int) > 0
    · obtain ⟨j, rfl⟩ : ∃ j, i = j + 1 := ⟨i - 1, by omega⟩
      have hj : j < (kids_ t x).length := by omega
      have hm2 : (kids_ t x)[j] ∈ kids_ t x := List.getElem_mem hj
      have hk2 := kids_mem t ht x _ h0 h1 hm2
      have hpw := List.pairwise_iff_getElem.1 (kids_pw t ht x) j (j + 1) hj hi' (by omega)
      rw [if_pos g, if_pos (by omega), if_pos (by omega), wr (((j + 1 : Nat) : Int) - 1) (by omega) (by omega), show ((j + 1 : Nat) : Int) - 1 = (j : Int) by omega, rd_nat _ _ hj, if_pos (by omega), if_pos (by omega), if_pos (by omega), if_pos (by omega), if_neg (by omega)]
    · rw [if_neg g]
theorem below_l0 (t : List ND) (ht : tree_ t = true) : ∀ (d K i : Nat), i + d = t.length → 5000 + 60 * d < K → laws_FnBelow.l0 K t (i : Int) = some true := by
  intro d
  have hlt := tree_len ht
  induction d with
  | zero =>
    intro K i hi hK
    obtain ⟨K, rfl⟩ : ∃ m, K = m + 1 := ⟨K - 1, by omega⟩
    simp only [laws_FnBelow.l0]
    rw [if_neg (by omega), itree_eq t (by omega) K (by omega), obs, ht]
  | succ d ih =>
    intro K i hi hK
    obtain ⟨K, rfl⟩ : ∃ m, K = m + 1 := ⟨K - 1, by omega⟩
    have hin : isn_ t (i : Int) = true := isn_of ht (by omega) (by omega)
    obtain ⟨⟨r, er⟩, ⟨q, eq⟩, _, _⟩ := path_is t (i : Int) hin
    have hp := parent_lt ht (i : Int) (by omega) (by omega)
    have hkl := kids_len t (i : Int)
    have hj : laws_FnBelow.j1 K t (i : Int) false = some true := by
      obtain ⟨K, rfl⟩ : ∃ m, K = m + 1 := ⟨K - 1, by omega⟩
      simp only [laws_FnBelow.j1]
      rw [if_neg (by simp), ikids_eq t (i : Int) (by omega) K (by omega), obs]
      exact below_l1 t ht (i : Int) (by omega) (by omega) (5000 + 60 * d + 1) (by omega) (fun K' h => by
        rw [wr ((i : Int) + 1) (by omega) (by omega), show (i : Int) + 1 = ((i + 1 : Nat) : Int) by omega]; exact ih K' (i + 1) (by omega) (by omega)) (kids_ t (i : Int)).length K 0 (by omega) (by omega)
    simp only [laws_FnBelow.l0]
    rw [if_pos (by omega), isBelow_eq t _ 0 (by omega) K (by omega), obs, if_pos (decide_eq_true (by rw [er]; simp)), isBelow_eq t _ _ (by omega) K (by omega), obs, if_pos (decide_eq_true (by rw [eq]; simp))]
    by_cases g : (i : Int) > 0
    · have hp1 := tree_parent ht i (by omega) (by omega)
      have hko := kids_of t ht i (by omega) (by omega)
      have hkl2 := kids_len t (rd_T50 t (i : Int)).f0
      rw [if_pos g, if_pos (by omega), ikids_eq t _ (by omega) K (by omega), obs, lhas_eq K _ _ (by omega) (by omega), obs, if_pos (decide_eq_true hko), isBelow_eq t _ _ (by omega) K (by omega), obs, decide_eq_false (path_not t ht _ (i : Int) (by omega) (by omega) (by omega))]
      exact hj
    · rw [if_neg g]; exact hj
theorem FnBelow : laws_FnBelow.Pure := by
  intro s h1 h2 hw
  obtain ⟨K, hK⟩ : ∃ K : Nat, 1048576 < K := ⟨1048577, by omega⟩
  refine ⟨K, ?_⟩
  unfold laws_FnBelow.f laws_big.f
  simp only [obs, decide_eq_true_eq]
  by_cases hb : (s.length : Int) > 1048576
  · rw [if_pos hb]
  · rw [if_neg hb]
    obtain ⟨t, et, ht⟩ := drawTree_some K s (by omega) (by omega)
    have hl := tree_len ht
    rw [et, obs]
    exact below_l0 t ht t.length K 0 (by omega) (by omega)

end Go.Proofs.Ytbbppknnkghkjaa.Pure
