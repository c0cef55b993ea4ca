/- Of every code: on the drawn tree the way from one node to another goes from parent to child or back, and back on the same nodes. -/
import Derived.Test.YtbgmbhhbonpoaaaPFnPathsx8
import Derived.Test.YtbgmbhhbonpoaaaCom
namespace Go.Proofs.Ytbgmbhhbonpoaaa.Pure
open Go.RowKit Go.Proofs.Ytbgmbhhbonpoaaa.PFnPaths Go.Proofs.YtbgmbhhbonpoaaaW.PrintWords Go.Proofs.YtbgmbhhbonpoaaaW.PrintLast Go.Proofs.YtbgmbhhbonpoaaaW.PrintMore Go.Proofs.Ytbgmbhhbonpoaaa.Com
set_option linter.unusedVariables false
set_option linter.unusedSimpArgs false

/-- As Option.bind_some, but not by rfl: rewriting with it below an 'if' with a great number keeps the kernel from unfolding that number. -/
theorem obs {α β : Type} (a : α) (f : α → Option β) : (some a).bind f = f a := by rw [Option.bind_some]

/-- The lowest eight bits. -/
theorem and255 (x : Int) : 0 ≤ Go.bits .and .i64 x 255 ∧ Go.bits .and .i64 x 255 ≤ 255 := by
  have h1 : (BitVec.ofInt 64 x &&& BitVec.ofInt 64 255).toNat ≤ 255 := by
    rw [BitVec.toNat_and]
    exact Nat.le_trans Nat.and_le_right (by decide)
  have h2 : Go.bits .and .i64 x 255 = IntKind.i64.wrap ((BitVec.ofInt 64 x &&& BitVec.ofInt 64 255).toNat : Int) := rfl
  rw [h2, Go.IntKind.wrap_i64]
  omega
theorem byte_some (s : List Int) (i h : Int) (hs : s.length ≤ 1048576) (h0 : 0 ≤ i) (h1 : i ≤ s.length) :
    ∃ x i' h', spec_l01Byte.f s i h = some (x, i', h') ∧ 0 ≤ x ∧ x ≤ 255 ∧ 0 ≤ i' ∧ i' ≤ s.length := by
  unfold spec_l01Byte.f
  by_cases hlt : i < (s.length : Int)
  · rw [if_pos hlt, if_pos h0]
    refine ⟨_, _, _, rfl, (and255 _).1, (and255 _).2, ?_, ?_⟩ <;> rw [wr _ (by omega) (by omega)] <;> omega
  · rw [if_neg hlt]
    exact ⟨_, _, _, rfl, (and255 _).1, (and255 _).2, h0, h1⟩
theorem below_some (s : List Int) (i h n : Int) (hs : s.length ≤ 1048576) (h0 : 0 ≤ i) (h1 : i ≤ s.length) (hn : 0 < n) (hm : n ≤ 4294967296) :
    ∃ x i' h', spec_l01Below.f s i h n = some (x, i', h') ∧ 0 ≤ x ∧ x < n ∧ 0 ≤ i' ∧ i' ≤ s.length := by
  unfold spec_l01Below.f
  rw [if_neg (by omega)]
  by_cases hlt : n ≤ 256
  · rw [if_pos hlt]
    obtain ⟨x, i1, h1', e, x0, x1, i0, i2⟩ := byte_some s i h hs h0 h1
    rw [e]
    simp only [Option.bind_some]
    rw [if_neg (by omega)]
    refine ⟨_, _, _, rfl, ?_, ?_, i0, i2⟩
    · exact Int.tmod_nonneg _ x0
    · exact Int.tmod_lt_of_pos _ hn
  · rw [if_neg hlt]
    obtain ⟨x, i1, h1', e, x0, x1, i0, i2⟩ := byte_some s i h hs h0 h1
    obtain ⟨y, i3, h3', e3, y0, y1, i4, i5⟩ := byte_some s i1 h1' hs i0 i2
    obtain ⟨z, i6, h6', e6, z0, z1, i7, i8⟩ := byte_some s i3 h3' hs i4 i5
    obtain ⟨w, i9, h9', e9, w0, w1, i10, i11⟩ := byte_some s i6 h6' hs i7 i8
    simp only [e, e3, e6, e9, Option.bind_some]
    rw [if_neg (by omega)]
    refine ⟨_, _, _, rfl, ?_, ?_, i10, i11⟩
    · rw [wr (x * 16777216) (by omega) (by omega), wr (y * 65536) (by omega) (by omega), wr (z * 256) (by omega) (by omega), wr (x * 16777216 + y * 65536) (by omega) (by omega), wr (x * 16777216 + y * 65536 + z * 256) (by omega) (by omega), wr _ (by omega) (by omega)]
      exact Int.tmod_nonneg _ (by omega)
    · exact Int.tmod_lt_of_pos _ hn
theorem new_some (k : Nat) (s : List Int) (hs : s.length ≤ 1048576) (hk : 4000 < k) : ∃ h, spec_l01New.f k s = some (s, 0, h) := by
  have key : ∀ d k (h : Int) (i : Nat), i + d = 4000 → d < k → ∃ h', spec_l01New.l0 k s h (i : Int) = some (s, 0, h') := by
    intro d
    induction d with
    | zero =>
      intro k h i hi hk
      obtain ⟨k, rfl⟩ : ∃ m, k = m + 1 := ⟨k - 1, by omega⟩
      simp only [spec_l01New.l0]
      rw [if_neg (show ¬ ((i : Int) < 4000) by omega)]
      split <;> exact ⟨_, rfl⟩
    | succ d ih =>
      intro k h i hi hk
      obtain ⟨k, rfl⟩ : ∃ m, k = m + 1 := ⟨k - 1, by omega⟩
      simp only [spec_l01New.l0]
      by_cases hlt : (i : Int) < s.length
      · rw [if_pos hlt, if_pos (by omega), if_pos (by omega), wr ((i : Int) + 1) (by omega) (by omega)]
        exact ih k _ (i + 1) (by omega) (by omega)
      · rw [if_neg hlt]; exact ⟨_, rfl⟩
  exact key 4000 k _ 0 (by omega) hk


theorem pick_some (s : List Int) (i h : Int) (l : List Int) (hs : s.length ≤ 1048576) (h0 : 0 ≤ i) (h1 : i ≤ s.length) (hl : 0 < l.length) (hm : l.length ≤ 4294967296) :
    ∃ x i' h', spec_l01PickInt.f s i h l = some (x, i', h') ∧ x ∈ l ∧ 0 ≤ i' ∧ i' ≤ s.length := by
  unfold spec_l01PickInt.f
  obtain ⟨x, i1, h1', e, x0, x1, i0, i2⟩ := below_some s i h l.length hs h0 h1 (by omega) (by omega)
  rw [e]
  simp only [Option.bind_some]
  rw [if_pos x0, if_pos x1]
  refine ⟨_, _, _, rfl, ?_, i0, i2⟩
  obtain ⟨m, rfl⟩ := Int.eq_ofNat_of_zero_le x0
  rw [rd_nat _ _ (by omega)]
  exact List.getElem_mem _

theorem l01In_eq (a b c : Int) : spec_l01In.f a b c = some (decide (b ≤ a ∧ a ≤ c)) := by
  unfold spec_l01In.f; by_cases h : a ≥ b <;> simp [h]

theorem rd_inode (xs : List S38) (i : Nat) (h : i < xs.length) : rd_T38 xs (i : Int) = xs[i] := getD_nat _ _ _ h

abbrev ND := S38
/-- A sibling in the same place. -/
def sib_ (p d : Int) (x : ND) : Bool := decide (x.f0 = p) && decide (x.f1 = d)
/-- Is the node n well at place k of the tree? -/
def row_ (l : List ND) (k : Nat) (n : ND) : Bool :=
  decide (0 ≤ n.f0 ∧ n.f0 < (k : Int)) && (decide ((rd_T38 l n.f0).f2 = 0) && (decide (0 ≤ n.f1 ∧ n.f1 ≤ 3) && (decide (0 ≤ n.f2 ∧ n.f2 ≤ 4) && !(l.take k).any (sib_ n.f0 n.f1))))
def rows_ (l : List ND) : Nat → Nat → Bool
  | 0, _ => true
  | d + 1, k => row_ l k (rd_T38 l (k : Int)) && rows_ l d (k + 1)
def root_ (l : List ND) : Bool := (rd_T38 l 0).f0 == (-1) && ((rd_T38 l 0).f1 == 0 && (rd_T38 l 0).f2 == 0)
def tree_ (l : List ND) : Bool := decide (1 ≤ (l.length : Int) ∧ (l.length : Int) ≤ 12) && (root_ l && rows_ l (l.length - 1) 1)
theorem tree_len {l : List ND} (h : tree_ l = true) : 1 ≤ l.length ∧ l.length ≤ 12 := by
  simp only [tree_, Bool.and_eq_true, decide_eq_true_eq] at h; omega
theorem tree_root {l : List ND} (h : tree_ l = true) : (rd_T38 l 0).f0 = -1 := by
  simp only [tree_, root_, Bool.and_eq_true, decide_eq_true_eq, beq_iff_eq] at h; exact h.2.1.1
theorem rows_row (l : List ND) : ∀ d k j, rows_ l d k = true → k ≤ j → j < k + d → row_ l j (rd_T38 l (j : Int)) = true := by
  intro d
  induction d with
  | zero => intro k j _ _ _; omega
  | succ d ih =>
    intro k j h h1 h2
    simp only [rows_, Bool.and_eq_true] at h
    by_cases e : j = k
    · subst e; exact h.1
    · exact ih (k + 1) j h.2 (by omega) (by omega)
theorem tree_row {l : List ND} (h : tree_ l = true) (j : Nat) (h0 : 0 < j) (h1 : j < l.length) : row_ l j (rd_T38 l (j : Int)) = true := by
  simp only [tree_, Bool.and_eq_true] at h
  exact rows_row l _ 1 j h.2.2 (by omega) (by omega)
theorem tree_parent {l : List ND} (h : tree_ l = true) (j : Nat) (h0 : 0 < j) (h1 : j < l.length) : 0 ≤ (rd_T38 l (j : Int)).f0 ∧ (rd_T38 l (j : Int)).f0 < (j : Int) := by
  have := tree_row h j h0 h1
  simp only [row_, Bool.and_eq_true, decide_eq_true_eq] at this
  exact this.1

theorem sib_root {l : List ND} (hl : 0 < l.length) (hr : (rd_T38 l 0).f0 = -1) (p d : Int) (hp : 0 ≤ p) (k : Nat) (hk : 1 ≤ k) : (l.take k).any (sib_ p d) = ((l.take k).drop 1).any (sib_ p d) := by
  cases l with
  | nil => simp at hl
  | cons x xs =>
    obtain ⟨k, rfl⟩ : ∃ m, k = m + 1 := ⟨k - 1, by omega⟩
    have hx : x.f0 = -1 := hr
    have : sib_ p d x = false := by unfold sib_; rw [hx]; rw [decide_eq_false (show ¬ (-1 : Int) = p by omega)]; rfl
    simp [this]
theorem sl1_eq (l : List ND) (k : Nat) (hk : k < l.length) (hl : l.length ≤ 12) (p d f : Int) (R : Bool) (B : Nat) (hR : ∀ K, B < K → spec_TreeOk.l0 K l ((k + 1 : Nat) : Int) = some R) :
    ∀ e K i, i + e = k → B + e + 1 < K → spec_TreeOk.l1 K l (k : Int) (i : Int) p d f = some (if ((l.take k).drop i).any (sib_ p d) then false else R) := by
  intro e
  induction e with
  | zero =>
    intro K i hi hK
    obtain ⟨K, rfl⟩ : ∃ m, K = m + 1 := ⟨K - 1, by omega⟩
    obtain rfl : i = k := by omega
    simp only [spec_TreeOk.l1]
    rw [if_neg (by omega), wr ((i : Int) + 1) (by omega) (by omega), List.drop_of_length_le (by simp; omega)]
    simpa using hR K (by omega)
  | succ e ih =>
    intro K i hi hK
    obtain ⟨K, rfl⟩ : ∃ m, K = m + 1 := ⟨K - 1, by omega⟩
    have hlt : i < (l.take k).length := by simp; omega
    have hg : (l.take k)[i] = l[i]'(by omega) := by simp
    have e1 : ((i : Int) + 1) = ((i + 1 : Nat) : Int) := by omega
    simp only [spec_TreeOk.l1]
    rw [if_pos (by omega), if_pos (by omega), if_pos (by omega), rd_inode _ _ (by omega), wr ((i : Int) + 1) (by omega) (by omega), List.drop_eq_getElem_cons hlt, hg, e1, ih K (i + 1) (by omega) (by omega)]
    rw [List.any_cons]
    by_cases h0 : (l[i]'(by omega)).f0 = p
    · by_cases h1 : (l[i]'(by omega)).f1 = d
      · rw [if_pos h0, if_pos h1]; simp [sib_, h0, h1]
      · rw [if_pos h0, if_neg h1]; simp [sib_, h0, h1]
    · rw [if_neg h0]; simp [sib_, h0]
theorem sl0_eq (l : List ND) (h1 : 1 ≤ l.length) (hl : l.length ≤ 12) (hr : (rd_T38 l 0).f0 = -1) :
    ∀ d K k, 1 ≤ k → k + d = l.length → 16 * d < K → spec_TreeOk.l0 K l (k : Int) = some (rows_ l d k) := by
  intro d
  induction d with
  | zero =>
    intro K k hk hd hK
    obtain ⟨K, rfl⟩ : ∃ m, K = m + 1 := ⟨K - 1, by omega⟩
    simp only [spec_TreeOk.l0]
    rw [if_neg (by omega)]; rfl
  | succ d ih =>
    intro K k hk hd hK
    obtain ⟨K, rfl⟩ : ∃ m, K = m + 2 := ⟨K - 2, by omega⟩
    have hx : ∀ b p d' f, spec_TreeOk.j2 (K + 1) l (k : Int) b p d' f = if b = true then some false else spec_TreeOk.l1 K l (k : Int) 1 p d' f := fun b p d' f => by simp only [spec_TreeOk.j2]
    have hin : ∀ p d' f, 0 ≤ p → spec_TreeOk.l1 K l (k : Int) 1 p d' f = some (if (l.take k).any (sib_ p d') then false else rows_ l d (k + 1)) := fun p d' f hp => by
      have h := sl1_eq l k (by omega) hl p d' f (rows_ l d (k + 1)) (16 * d) (fun K' hK' => ih K' (k + 1) (by omega) (by omega) hK') (k - 1) K 1 (by omega) (by omega)
      rw [sib_root (by omega) hr p d' hp k hk]
      exact h
    simp only [spec_TreeOk.l0]
    rw [if_pos (by omega), if_pos (by omega), wr ((k : Int) - 1) (by omega) (by omega)]
    unfold rows_ row_
    generalize rd_T38 l (k : Int) = n
    simp only [l01In_eq, Option.bind_some, hx]
    by_cases c0 : 0 ≤ n.f0 ∧ n.f0 < (k : Int)
    · rw [if_pos (by simp; omega), if_pos c0.1, if_pos (by omega), decide_eq_true c0, Bool.true_and]
      by_cases c1 : (rd_T38 l n.f0).f2 = 0
      · rw [if_pos c1, decide_eq_true c1, Bool.true_and]
        by_cases c2 : 0 ≤ n.f1 ∧ n.f1 ≤ 3
        · rw [decide_eq_true c2, if_pos rfl, Bool.true_and]
          by_cases c3 : 0 ≤ n.f2 ∧ n.f2 ≤ 4
          · rw [decide_eq_true c3, if_neg (by simp), Bool.true_and, hin _ _ _ c0.1]
            cases (l.take k).any (sib_ n.f0 n.f1) <;> simp
          · rw [decide_eq_false c3]; simp
        · rw [decide_eq_false c2]; simp
      · rw [if_neg c1, decide_eq_false c1]; simp
    · rw [if_neg (by simp; omega), decide_eq_false c0]; simp
theorem stree_eq (l : List ND) (hl : l.length ≤ 9223372036854775807) (K : Nat) (hK : 200 < K) : spec_TreeOk.f K l = some (tree_ l) := by
  obtain ⟨K, rfl⟩ : ∃ m, K = m + 1 := ⟨K - 1, by omega⟩
  unfold spec_TreeOk.f tree_
  simp only [l01In_eq, Option.bind_some, spec_TreeOk.j0]
  by_cases c : 1 ≤ (l.length : Int) ∧ (l.length : Int) ≤ 12
  · rw [decide_eq_true c, if_pos rfl, if_pos (by omega), Bool.true_and]
    by_cases hr : root_ l = true
    · have hr0 : (rd_T38 l 0).f0 = -1 := by
        simp only [root_, Bool.and_eq_true, beq_iff_eq] at hr; exact hr.1
      have h := sl0_eq l (by omega) (by omega) hr0 (l.length - 1) K 1 (by omega) (by omega) (by omega)
      have hr2 := hr
      simp only [root_, Bool.and_eq_true, beq_iff_eq] at hr2
      rw [hr, Bool.true_and, if_neg (by simp [hr2])]
      exact h
    · rw [Bool.not_eq_true] at hr
      rw [hr, if_pos, Bool.false_and]
      unfold root_ at hr
      revert hr
      cases (rd_T38 l 0).f0 == -1 <;> cases (rd_T38 l 0).f1 == 0 <;> cases (rd_T38 l 0).f2 == 0 <;> simp
  · rw [decide_eq_false c, if_neg (by simp), Bool.false_and]; simp

theorem tree_one : tree_ [(⟨(-1), 0, 0⟩ : ND)] = true := by decide
theorem l19Tree_some (s : List Int) (hs : s.length ≤ 1048576) : ∀ (d K i : Nat) (t : List ND) (j h : Int), i + d = 10 → d + 300 < K → tree_ t = true → 0 ≤ j → j ≤ s.length →
    ∃ t' j' h', spec_l19Tree.l0 K t (i : Int) s j h = some (t', j', h') ∧ tree_ t' = true ∧ 0 ≤ j' ∧ j' ≤ s.length := by
  intro d
  induction d with
  | zero =>
    intro K i t j h hi hK ht h0 h1
    obtain ⟨K, rfl⟩ : ∃ m, K = m + 1 := ⟨K - 1, by omega⟩
    obtain ⟨x, j1, h1', e, x0, x1, i0, i2⟩ := below_some s j h 8 hs h0 h1 (by omega) (by omega)
    simp only [spec_l19Tree.l0]
    rw [e, obs, wr (3 + x) (by omega) (by omega), if_neg (by omega)]
    exact ⟨_, _, _, rfl, ht, i0, i2⟩
  | succ d ih =>
    intro K i t j h hi hK ht h0 h1
    obtain ⟨K, rfl⟩ : ∃ m, K = m + 1 := ⟨K - 1, by omega⟩
    have hl := tree_len ht
    obtain ⟨x, j1, h1', e, x0, x1, i0, i2⟩ := below_some s j h 8 hs h0 h1 (by omega) (by omega)
    simp only [spec_l19Tree.l0]
    rw [e, obs, wr (3 + x) (by omega) (by omega)]
    by_cases hlt : (i : Int) < 3 + x
    · rw [if_pos hlt]
      obtain ⟨a, j3, h3, ea, a0, a1, a2, a3⟩ := below_some s j1 h1' (t.length : Int) hs i0 i2 (by omega) (by omega)
      obtain ⟨b, j4, h4, eb, b0, b1, b2, b3⟩ := below_some s j3 h3 4 hs a2 a3 (by omega) (by omega)
      obtain ⟨c, j5, h5, ec, c0, c1, c2⟩ := pick_some s j4 h4 [0, 0, 1, 1, 2, 4] hs b2 b3 (by simp) (by simp)
      rw [ea, obs, eb, obs, ec, obs, obs, if_pos (by simp; omega), obs, obs, if_pos (by simp; omega), obs, stree_eq _ (by simp; omega) K (by omega), obs, wr ((i : Int) + 1) (by omega) (by omega), show (i : Int) + 1 = ((i + 1 : Nat) : Int) by omega]
      by_cases hok : tree_ (([] : List ND) ++ t ++ [(⟨a, b, c⟩ : ND)]) = true
      · rw [if_pos hok]
        exact ih K (i + 1) _ _ _ (by omega) (by omega) hok c1 c2
      · rw [if_neg hok]
        exact ih K (i + 1) _ _ _ (by omega) (by omega) ht c1 c2
    · rw [if_neg hlt]
      exact ⟨_, _, _, rfl, ht, i0, i2⟩
theorem drawTree_some (k : Nat) (s : List Int) (hs : s.length ≤ 1048576) (hk : 4400 < k) : ∃ t, spec_DrawTree.f k s = some t ∧ tree_ t = true := by
  unfold spec_DrawTree.f spec_l19Tree.f
  obtain ⟨h, e⟩ := new_some k s hs (by omega)
  obtain ⟨t, j, h', e2, ht, _⟩ := l19Tree_some s hs 10 k 0 [(⟨(-1), 0, 0⟩ : ND)] 0 h (by omega) (by omega) tree_one (by omega) (by omega)
  refine ⟨t, ?_, ht⟩
  rw [e, obs]
  have e3 : (((0 : Nat) : Int)) = 0 := rfl
  rw [e3] at e2
  simp only [e2, obs]


/-- The nodes from x up to the root. -/
def up_ (l : List ND) : Nat → Int → List Int
  | 0, _ => []
  | d + 1, x => if 0 ≤ x then x :: up_ l d (rd_T38 l x).f0 else []
def isn_ (l : List ND) (x : Int) : Bool := tree_ l && decide (0 ≤ x ∧ x < (l.length : Int))
def path_ (l : List ND) (x : Int) : List Int := if isn_ l x = true then (up_ l 13 x).reverse else []
theorem up_len (l : List ND) : ∀ d x, (up_ l d x).length ≤ d := by
  intro d
  induction d with
  | zero => intro x; simp [up_]
  | succ d ih =>
    intro x
    unfold up_
    split
    · have := ih (rd_T38 l x).f0; simp; omega
    · simp
theorem path_len (l : List ND) (x : Int) : (path_ l x).length ≤ 13 := by
  unfold path_
  split
  · rw [List.length_reverse]; exact up_len l 13 x
  · simp
theorem parent_lt {l : List ND} (h : tree_ l = true) (x : Int) (h0 : 0 ≤ x) (h1 : x < (l.length : Int)) : -1 ≤ (rd_T38 l x).f0 ∧ (rd_T38 l x).f0 < x := by
  obtain ⟨j, rfl⟩ : ∃ j : Nat, x = (j : Int) := ⟨x.toNat, by omega⟩
  by_cases hj : j = 0
  · subst hj; have := tree_root h; have e : (((0 : Nat) : Int)) = 0 := rfl; rw [e, this]; omega
  · have := tree_parent h j (by omega) (by omega); omega
theorem isn_tree {l : List ND} {x : Int} (h : isn_ l x = true) : tree_ l = true ∧ 0 ≤ x ∧ x < (l.length : Int) := by
  simpa only [isn_, Bool.and_eq_true, decide_eq_true_eq] using h

/-- How long two lists agree from their start. -/
def cp_ : List Int → List Int → Nat
  | x :: xs, y :: ys => if x = y then cp_ xs ys + 1 else 0
  | _, _ => 0
theorem cp_le (a b : List Int) : cp_ a b ≤ a.length ∧ cp_ a b ≤ b.length := by
  induction a generalizing b with
  | nil => simp [cp_]
  | cons x xs ih =>
    cases b with
    | nil => simp [cp_]
    | cons y ys =>
      unfold cp_
      have := ih ys
      split <;> simp <;> omega
/-- From the end of up to the last node that both have, then down. -/
def btw_ (x y : List Int) : List Int := if x.length = 0 ∨ y.length = 0 then [] else (x.drop (cp_ x y - 1)).reverse ++ y.drop (cp_ x y)
theorem up_head (l : List ND) (h : tree_ l = true) : ∀ (d : Nat) (x : Int), 0 ≤ x → x < (d : Int) → x < (l.length : Int) → ∃ r, (up_ l d x).reverse = 0 :: r := by
  intro d
  induction d with
  | zero => intro x h0 h1; omega
  | succ d ih =>
    intro x h0 h1 h2
    unfold up_
    rw [if_pos h0]
    have hp := parent_lt h x h0 h2
    by_cases hz : 0 ≤ (rd_T38 l x).f0
    · obtain ⟨r, e⟩ := ih _ hz (by omega) (by omega)
      exact ⟨r ++ [x], by rw [List.reverse_cons, e]; rfl⟩
    · have hx : x = 0 := by
        apply Classical.byContradiction
        intro hn
        obtain ⟨j, rfl⟩ : ∃ j : Nat, x = (j : Int) := ⟨x.toNat, by omega⟩
        have := tree_parent h j (by omega) (by omega)
        omega
      subst hx
      have : up_ l d (rd_T38 l 0).f0 = [] := by
        cases d with
        | zero => rfl
        | succ d => unfold up_; rw [if_neg hz]
      rw [this]; exact ⟨[], rfl⟩
theorem path_head (l : List ND) (x : Int) (h : isn_ l x = true) : ∃ r, path_ l x = 0 :: r := by
  obtain ⟨h1, h2, h3⟩ := isn_tree h
  have := tree_len h1
  unfold path_
  rw [if_pos h]
  exact up_head l h1 13 x h2 (by omega) h3
theorem path_none (l : List ND) (x : Int) (h : ¬ isn_ l x = true) : path_ l x = [] := by unfold path_; rw [if_neg h]
theorem path_isn (l : List ND) (x : Int) : (path_ l x).length = 0 ↔ ¬ isn_ l x = true := by
  constructor
  · intro e h; obtain ⟨r, hr⟩ := path_head l x h; rw [hr] at e; simp at e
  · intro h; rw [path_none l x h]; rfl

def pa_ (t : List ND) (x : Int) : Int := (rd_T38 t x).f0
/-- Each step of the way goes to the parent or to a child. -/
def way_ (t : List ND) : List Int → Prop
  | [] => True
  | [_] => True
  | a :: b :: r => (pa_ t b = a ∨ pa_ t a = b) ∧ way_ t (b :: r)
theorem way_tail {t : List ND} {a : Int} {l : List Int} (h : way_ t (a :: l)) : way_ t l := by
  cases l with
  | nil => trivial
  | cons b r => exact h.2
theorem way_drop {t : List ND} : ∀ (n : Nat) (l : List Int), way_ t l → way_ t (l.drop n) := by
  intro n
  induction n with
  | zero => intro l h; simpa using h
  | succ n ih =>
    intro l h
    cases l with
    | nil => simpa using h
    | cons a r => rw [List.drop_succ_cons]; exact ih r (way_tail h)
theorem way_app {t : List ND} (v : Int) (r : List Int) : ∀ (l : List Int), way_ t (l ++ [v]) → way_ t (v :: r) → way_ t (l ++ v :: r) := by
  intro l
  induction l with
  | nil => intro _ h; simpa using h
  | cons a l ih =>
    intro h1 h2
    cases l with
    | nil => exact ⟨h1.1, h2⟩
    | cons b l => exact ⟨h1.1, ih h1.2 h2⟩
theorem way_rev {t : List ND} : ∀ (l : List Int), way_ t l → way_ t l.reverse := by
  intro l
  induction l with
  | nil => intro h; exact h
  | cons a l ih =>
    intro h
    cases l with
    | nil => trivial
    | cons b r =>
      have h1 := ih h.2
      rw [List.reverse_cons] at h1
      have h2 : way_ t (b :: [a]) := ⟨h.1.symm, trivial⟩
      have := way_app b [a] r.reverse h1 h2
      simpa using this
theorem way_get {t : List ND} : ∀ (l : List Int), way_ t l → ∀ (k : Nat) (h : k + 1 < l.length), pa_ t l[k + 1] = l[k] ∨ pa_ t l[k] = l[k + 1] := by
  intro l
  induction l with
  | nil => intro _ k h; simp at h
  | cons a l ih =>
    intro hw k h
    cases l with
    | nil => simp at h
    | cons b r =>
      cases k with
      | zero => exact hw.1
      | succ k => exact ih hw.2 k (by simpa using h)
theorem up_cons (l : List ND) (d : Nat) (x : Int) (h : 0 ≤ x) : up_ l (d + 1) x = x :: up_ l d (pa_ l x) := by
  show (if 0 ≤ x then x :: up_ l d (rd_T38 l x).f0 else []) = _
  rw [if_pos h]; rfl
theorem up_way (l : List ND) : ∀ (d : Nat) (x : Int), way_ l (up_ l d x) := by
  intro d
  induction d with
  | zero => intro x; trivial
  | succ d ih =>
    intro x
    by_cases h : 0 ≤ x
    · rw [up_cons l d x h]
      cases d with
      | zero => trivial
      | succ d =>
        by_cases h2 : 0 ≤ pa_ l x
        · have := ih (pa_ l x)
          rw [up_cons l d _ h2] at this ⊢
          exact ⟨.inr rfl, this⟩
        · have : up_ l (d + 1) (pa_ l x) = [] := by unfold up_; rw [if_neg h2]
          rw [this]; trivial
    · have : up_ l (d + 1) x = [] := by unfold up_; rw [if_neg h]
      rw [this]; trivial
theorem up_in (l : List ND) (h : tree_ l = true) : ∀ (d : Nat) (x : Int), x < (l.length : Int) → ∀ y ∈ up_ l d x, 0 ≤ y ∧ y < (l.length : Int) := by
  intro d
  induction d with
  | zero => intro x _ y hy; simp [up_] at hy
  | succ d ih =>
    intro x hx y hy
    by_cases h0 : 0 ≤ x
    · rw [up_cons l d x h0] at hy
      rcases List.mem_cons.1 hy with rfl | hy
      · exact ⟨h0, hx⟩
      · have := parent_lt h x h0 hx
        exact ih (pa_ l x) (by unfold pa_; omega) y hy
    · have : up_ l (d + 1) x = [] := by unfold up_; rw [if_neg h0]
      rw [this] at hy; simp at hy
/-- What a path is: it begins at the root, ends at x, stays in the tree, and goes from parent to child. -/
theorem path_is (l : List ND) (x : Int) (h : isn_ l x = true) : (∃ r, path_ l x = 0 :: r) ∧ (∃ q, path_ l x = q ++ [x]) ∧ way_ l (path_ l x) ∧ (∀ y ∈ path_ l x, 0 ≤ y ∧ y < (l.length : Int)) := by
  obtain ⟨h1, h2, h3⟩ := isn_tree h
  refine ⟨path_head l x h, ?_, ?_, ?_⟩ <;> unfold path_ <;> rw [if_pos h]
  · exact ⟨(up_ l 12 (pa_ l x)).reverse, by rw [up_cons l 12 x h2, List.reverse_cons]⟩
  · exact way_rev _ (up_way l 13 x)
  · intro y hy; rw [List.mem_reverse] at hy; exact up_in l h1 13 x h3 y hy
theorem cp_comm (x y : List Int) : cp_ x y = cp_ y x := by
  induction x generalizing y with
  | nil => cases y <;> rfl
  | cons a x ih =>
    cases y with
    | nil => rfl
    | cons b y =>
      unfold cp_
      by_cases e : a = b
      · subst e; rw [if_pos rfl, if_pos rfl, ih y]
      · rw [if_neg e, if_neg (fun h => e h.symm)]
theorem cp_get (x y : List Int) (k : Nat) (h : k < cp_ x y) : x[k]'(by have := cp_le x y; omega) = y[k]'(by have := cp_le x y; omega) := by
  induction x generalizing y k with
  | nil => simp [cp_] at h
  | cons a x ih =>
    cases y with
    | nil => simp [cp_] at h
    | cons b y =>
      unfold cp_ at h
      by_cases e : a = b
      · rw [if_pos e] at h
        cases k with
        | zero => exact e
        | succ k => simpa using ih y k (by omega)
      · rw [if_neg e] at h; omega
theorem btw_aux (l : List ND) (a b : Int) (x y r s q p : List Int) (er : x = 0 :: r) (es : y = 0 :: s) (eq : x = q ++ [a]) (ep : y = p ++ [b]) (hwx : way_ l x) (hwy : way_ l y)
    (hix : ∀ z ∈ x, 0 ≤ z ∧ z < (l.length : Int)) (hiy : ∀ z ∈ y, 0 ≤ z ∧ z < (l.length : Int)) (hlx : x.length ≤ 13) (hly : y.length ≤ 13) : ∃ v x' y', btw_ x y = x'.reverse ++ v :: y' ∧ btw_ y x = y'.reverse ++ v :: x' ∧
    (∃ q, v :: x' = q ++ [a]) ∧ (∃ q, v :: y' = q ++ [b]) ∧ way_ l (v :: x') ∧ way_ l (v :: y') ∧ (∀ z ∈ v :: x', 0 ≤ z ∧ z < (l.length : Int)) ∧ (∀ z ∈ v :: y', 0 ≤ z ∧ z < (l.length : Int)) ∧ x'.length ≤ 13 ∧ y'.length ≤ 13 := by
  have hc : 1 ≤ cp_ x y := by rw [er, es]; simp [cp_]
  have hcl := cp_le x y
  have hv := cp_get x y (cp_ x y - 1) (by omega)
  have hcm := cp_comm y x
  have dx : x.drop (cp_ x y - 1) = x[cp_ x y - 1]'(by omega) :: x.drop (cp_ x y) := by rw [List.drop_eq_getElem_cons (by omega), show cp_ x y - 1 + 1 = cp_ x y by omega]
  have dy : y.drop (cp_ x y - 1) = x[cp_ x y - 1]'(by omega) :: y.drop (cp_ x y) := by rw [List.drop_eq_getElem_cons (by omega), show cp_ x y - 1 + 1 = cp_ x y by omega, hv]
  have q1 : cp_ x y - 1 ≤ q.length := by
    have : x.length = q.length + 1 := by rw [eq]; simp
    omega
  have q2 : cp_ x y - 1 ≤ p.length := by
    have : y.length = p.length + 1 := by rw [ep]; simp
    omega
  unfold btw_
  rw [hcm]
  refine ⟨x[cp_ x y - 1]'(by omega), x.drop (cp_ x y), y.drop (cp_ x y), ?_, ?_, ?_, ?_, ?_, ?_, ?_, ?_, ?_, ?_⟩
  · rw [if_neg (by omega), dx]; simp
  · rw [if_neg (by omega), dy]; simp
  · rw [← dx]
    generalize cp_ x y - 1 = n at q1
    subst eq
    rw [List.drop_append_of_le_length q1]; exact ⟨_, rfl⟩
  · rw [← dy]
    generalize cp_ x y - 1 = n at q2
    subst ep
    rw [List.drop_append_of_le_length q2]; exact ⟨_, rfl⟩
  · rw [← dx]; exact way_drop _ _ hwx
  · rw [← dy]; exact way_drop _ _ hwy
  · rw [← dx]; exact fun z hz => hix z (List.mem_of_mem_drop hz)
  · rw [← dy]; exact fun z hz => hiy z (List.mem_of_mem_drop hz)
  · simp; omega
  · simp; omega
/-- The way between two nodes, told by the node at which it turns. -/
theorem btw_is (l : List ND) (a b : Int) (ha : isn_ l a = true) (hb : isn_ l b = true) : ∃ v x' y', btw_ (path_ l a) (path_ l b) = x'.reverse ++ v :: y' ∧ btw_ (path_ l b) (path_ l a) = y'.reverse ++ v :: x' ∧
    (∃ q, v :: x' = q ++ [a]) ∧ (∃ q, v :: y' = q ++ [b]) ∧ way_ l (v :: x') ∧ way_ l (v :: y') ∧ (∀ z ∈ v :: x', 0 ≤ z ∧ z < (l.length : Int)) ∧ (∀ z ∈ v :: y', 0 ≤ z ∧ z < (l.length : Int)) ∧ x'.length ≤ 13 ∧ y'.length ≤ 13 := by
  obtain ⟨⟨r, er⟩, ⟨q, eq⟩, hwx, hix⟩ := path_is l a ha
  obtain ⟨⟨s, es⟩, ⟨p, ep⟩, hwy, hiy⟩ := path_is l b hb
  exact btw_aux l a b _ _ r s q p er es eq ep hwx hwy hix hiy (path_len l a) (path_len l b)
theorem btw_root (l : List ND) (a : Int) (h : isn_ l a = true) : btw_ (path_ l 0) (path_ l a) = path_ l a := by
  obtain ⟨h1, h2, h3⟩ := isn_tree h
  have h0 : isn_ l 0 = true := by
    unfold isn_; rw [h1, Bool.true_and, decide_eq_true_eq]; omega
  obtain ⟨r, er⟩ := path_head l a h
  have e0 : path_ l 0 = [0] := by
    unfold path_
    rw [if_pos h0, up_cons l 12 0 (by omega)]
    have : pa_ l 0 = -1 := tree_root h1
    rw [this]; rfl
  rw [e0, er]
  simp [btw_, cp_]


theorem within_eq (a b c : Int) : impl_within.f a b c = some (decide (b ≤ a ∧ a ≤ c)) := by
  unfold impl_within.f; by_cases h : a ≥ b <;> simp [h]



theorem il0_eq (l : List ND) (h1 : 1 ≤ l.length) (hl : l.length ≤ 12) :
    ∀ d K (j : Nat), j + 1 + d = l.length → 2 * d < K → impl_TreeOk.l0 K l (l.drop 1) ((l.drop 1).length : Int) (j : Int) = some (rows_ l d (j + 1)) := by
  intro d
  have hd1 : (l.drop 1).length = l.length - 1 := by simp
  induction d with
  | zero =>
    intro K j hd hK
    obtain ⟨K, rfl⟩ : ∃ m, K = m + 1 := ⟨K - 1, by omega⟩
    simp only [impl_TreeOk.l0]
    rw [if_neg (by omega)]; rfl
  | succ d ih =>
    intro K j hd hK
    obtain ⟨K, rfl⟩ : ∃ m, K = m + 2 := ⟨K - 2, by omega⟩
    have e1 : ((j : Int) + 1) = ((j + 1 : Nat) : Int) := by omega
    have hrd : rd_T38 (l.drop 1) (j : Int) = rd_T38 l ((j + 1 : Nat) : Int) := by
      rw [rd_inode _ _ (by omega), rd_inode _ _ (by omega)]
      simp [Nat.add_comm]
    have hrt : ∀ p : Int, 0 ≤ p → p < ((j + 1 : Nat) : Int) → rd_T38 (l.take (j + 1)) p = rd_T38 l p := by
      intro p hp0 hp1
      obtain ⟨q, rfl⟩ : ∃ q : Nat, p = (q : Int) := ⟨p.toNat, by omega⟩
      rw [rd_inode _ _ (by simp; omega), rd_inode _ _ (by omega)]
      simp
    have hx : ∀ b p d' f, impl_TreeOk.j2 (K + 1) l (l.take (j + 1)) (l.drop 1) ((l.drop 1).length : Int) (j : Int) b p d' f = if b = true then some false else some (if (l.take (j + 1)).any (sib_ p d') then false else rows_ l d (j + 1 + 1)) := fun b p d' f => by
      simp only [impl_TreeOk.j2, impl_Node_impl_TreeOk_1.f, Option.bind_some]
      rw [wr ((j : Int) + 1) (by omega) (by omega), e1, ih K (j + 1) (by omega) (by omega)]
      unfold sib_
      cases b <;> cases (l.take (j + 1)).any (fun x => decide (x.f0 = p) && decide (x.f1 = d')) <;> simp
    simp only [impl_TreeOk.l0]
    rw [if_pos (by omega), if_pos (by omega), if_pos (by omega), wr ((j : Int) + 1) (by omega) (by omega), if_pos (by omega), if_pos (by omega), e1]
    rw [hrd, Int.toNat_natCast]
    unfold rows_ row_
    generalize hn : rd_T38 l ((j + 1 : Nat) : Int) = n
    simp only [within_eq, Option.bind_some, hx]
    have ht : ((l.take (j + 1)).length : Int) = ((j + 1 : Nat) : Int) := by simp; omega
    by_cases c0 : 0 ≤ n.f0 ∧ n.f0 < ((j + 1 : Nat) : Int)
    · rw [if_pos (by simp; omega), if_pos c0.1, if_pos (by rw [ht]; omega), decide_eq_true c0, Bool.true_and, hrt _ c0.1 c0.2]
      by_cases c1 : (rd_T38 l n.f0).f2 = 0
      · rw [if_pos c1, decide_eq_true c1, Bool.true_and]
        by_cases c2 : 0 ≤ n.f1 ∧ n.f1 ≤ 3
        · rw [decide_eq_true c2, if_pos rfl, Bool.true_and]
          by_cases c3 : 0 ≤ n.f2 ∧ n.f2 ≤ 4
          · rw [decide_eq_true c3, if_neg (by simp), Bool.true_and]
            cases (l.take (j + 1)).any (sib_ n.f0 n.f1) <;> simp
          · rw [decide_eq_false c3]; simp
        · rw [decide_eq_false c2]; simp
      · rw [if_neg c1, decide_eq_false c1]; simp
    · rw [if_neg (by simp; omega), decide_eq_false c0]; simp
theorem itree_eq (l : List ND) (hl : l.length ≤ 9223372036854775807) (K : Nat) (hK : 200 < K) : impl_TreeOk.f K l = some (tree_ l) := by
  obtain ⟨K, rfl⟩ : ∃ m, K = m + 1 := ⟨K - 1, by omega⟩
  unfold impl_TreeOk.f tree_
  simp only [within_eq, Option.bind_some, impl_TreeOk.j0]
  by_cases c : 1 ≤ (l.length : Int) ∧ (l.length : Int) ≤ 12
  · rw [decide_eq_true c, if_pos rfl, if_pos (by omega), Bool.true_and, if_pos (show (1 : Int) ≤ (l.length : Int) from c.1)]
    have h := il0_eq l (by omega) (by omega) (l.length - 1) K 0 (by omega) (by omega)
    by_cases hr : root_ l = true
    · have hr2 := hr
      simp only [root_, Bool.and_eq_true, beq_iff_eq] at hr2
      rw [hr, Bool.true_and, if_neg (by simp [hr2])]
      exact h
    · rw [Bool.not_eq_true] at hr
      rw [hr, if_pos, Bool.false_and]
      unfold root_ at hr
      revert hr
      cases (rd_T38 l 0).f0 == -1 <;> cases (rd_T38 l 0).f1 == 0 <;> cases (rd_T38 l 0).f2 == 0 <;> simp
  · rw [decide_eq_false c, if_neg (by simp), Bool.false_and]; simp


theorem rev_at (a : List Int) (y : Int) (b : List Int) : rd (a ++ y :: b) (a.length : Int) = y := by
  rw [rd_nat _ _ (by simp)]; simp
theorem rev_loop : ∀ (n K : Nat) (a m b : List Int), m.length ≤ n → n < K → a.length + m.length + b.length ≤ 1048576 →
    slices_Reverse_int_int.l0 K (a ++ (m ++ b)) (a.length : Int) ((a.length : Int) + (m.length : Int) - 1) = some (a ++ (m.reverse ++ b)) := by
  intro n
  induction n with
  | zero =>
    intro K a m b hm hK hl
    obtain ⟨K, rfl⟩ : ∃ q, K = q + 1 := ⟨K - 1, by omega⟩
    have : m = [] := List.eq_nil_of_length_eq_zero (by omega)
    subst this
    simp only [slices_Reverse_int_int.l0]
    rw [if_neg (by simp; omega)]; simp
  | succ n ih =>
    intro K a m b hm hK hl
    obtain ⟨K, rfl⟩ : ∃ q, K = q + 1 := ⟨K - 1, by omega⟩
    by_cases h2 : m.length < 2
    · simp only [slices_Reverse_int_int.l0]
      rw [if_neg (by omega)]
      have : m.reverse = m := by
        cases m with
        | nil => rfl
        | cons x xs =>
          have : xs = [] := List.eq_nil_of_length_eq_zero (by simp at h2; omega)
          subst this; rfl
      rw [this]
    · obtain ⟨y, m', rfl⟩ : ∃ y m', m = y :: m' := by
        cases m with
        | nil => simp at h2
        | cons y m' => exact ⟨y, m', rfl⟩
      obtain ⟨m2, z, rfl⟩ : ∃ m2 z, m' = m2 ++ [z] := by
        refine ⟨m'.dropLast, m'.getLast (fun e => by subst e; simp at h2), ?_⟩
        rw [List.dropLast_concat_getLast]
      simp only [List.length_cons, List.length_append, List.length_nil] at hm hl h2 ⊢
      have hj : ((a.length : Int) + ((m2.length + (0 + 1) + 1 : Nat) : Int) - 1) = ((a ++ y :: m2).length : Int) := by simp; omega
      rw [hj]
      have e0 : a ++ (y :: (m2 ++ [z]) ++ b) = a ++ y :: (m2 ++ z :: b) := by simp
      have e1 : a ++ (y :: (m2 ++ [z]) ++ b) = (a ++ y :: m2) ++ z :: b := by simp
      have r0 : rd (a ++ (y :: (m2 ++ [z]) ++ b)) (a.length : Int) = y := by rw [e0]; exact rev_at _ _ _
      have r1 : rd (a ++ (y :: (m2 ++ [z]) ++ b)) ((a ++ y :: m2).length : Int) = z := by rw [e1]; exact rev_at _ _ _
      have hlen : ((a ++ (y :: (m2 ++ [z]) ++ b)).length : Int) = (a.length : Int) + m2.length + 2 + b.length := by simp; omega
      have hjl : ((a ++ y :: m2).length : Int) = (a.length : Int) + m2.length + 1 := by simp; omega
      simp only [slices_Reverse_int_int.l0]
      rw [if_pos (by omega), if_pos (by omega), if_pos (by omega), if_pos (by omega), if_pos (by omega), r0, r1]
      have hs : ((a ++ (y :: (m2 ++ [z]) ++ b)).set (a.length : Int).toNat z).set ((a ++ y :: m2).length : Int).toNat y = (a ++ [z]) ++ (m2 ++ (y :: b)) := by
        rw [e0, Int.toNat_natCast, Int.toNat_natCast]
        have : (a ++ y :: (m2 ++ z :: b)).set a.length z = (a ++ z :: m2) ++ z :: b := by simp
        rw [this]
        have hl2 : (a ++ y :: m2).length = (a ++ z :: m2).length := by simp
        rw [hl2, List.set_append_right _ _ (Nat.le_refl _)]
        simp
      rw [hs, wr ((a.length : Int) + 1) (by omega) (by omega), wr (((a ++ y :: m2).length : Int) - 1) (by omega) (by omega)]
      have h := ih K (a ++ [z]) m2 (y :: b) (by omega) (by omega) (by simp; omega)
      have ea : (((a ++ [z]).length : Nat) : Int) = (a.length : Int) + 1 := by simp
      rw [ea] at h
      have ej : ((a ++ y :: m2).length : Int) - 1 = (a.length : Int) + 1 + (m2.length : Int) - 1 := by omega
      rw [ej, h]
      simp
theorem rev_eq (K : Nat) (l : List Int) (hl : l.length ≤ 1048576) (hK : l.length < K) : slices_Reverse_int_int.f K l = some l.reverse := by
  unfold slices_Reverse_int_int.f
  have h := rev_loop l.length K [] l [] (Nat.le_refl _) hK (by simp; omega)
  simp only [List.nil_append, List.append_nil, List.length_nil] at h
  rw [wr _ (by omega) (by omega)]
  have e : ((0 : Nat) : Int) + (l.length : Int) - 1 = (l.length : Int) - 1 := by omega
  rw [e] at h
  exact h

theorem isNode_eq (l : List ND) (x : Int) (hl : l.length ≤ 9223372036854775807) (K : Nat) (hK : 200 < K) : impl_isNode.f K l x = some (isn_ l x) := by
  unfold impl_isNode.f isn_
  rw [itree_eq l hl K hK, obs]
  cases h : tree_ l
  · simp
  · have := tree_len h
    rw [if_pos rfl, within_eq, obs, wr ((l.length : Int) - 1) (by omega) (by omega), Bool.true_and]
    congr 1
    rw [Bool.eq_iff_iff, decide_eq_true_eq, decide_eq_true_eq]; omega
theorem ipl_eq (l : List ND) (h : tree_ l = true) : ∀ (d K : Nat) (x : Int) (out : List Int), -1 ≤ x → x < (d : Int) → x < (l.length : Int) → d + 1001 < K → out.length + d ≤ 1000 → impl_PathTo.l0 K l x out = some ((out ++ up_ l d x).reverse) := by
  intro d
  induction d with
  | zero =>
    intro K x out h0 h1 h2 hK ho
    obtain ⟨K, rfl⟩ : ∃ m, K = m + 1 := ⟨K - 1, by omega⟩
    simp only [impl_PathTo.l0]
    rw [if_neg (by omega), rev_eq K out (by omega) (by omega)]; simp [up_]
  | succ d ih =>
    intro K x out h0 h1 h2 hK ho
    obtain ⟨K, rfl⟩ : ∃ m, K = m + 1 := ⟨K - 1, by omega⟩
    simp only [impl_PathTo.l0]
    unfold up_
    by_cases hx : 0 ≤ x
    · have hp := parent_lt h x hx h2
      rw [if_pos hx, if_pos hx, if_pos (by omega), if_pos h2, ih K _ _ hp.1 (by omega) (by omega) (by omega) (by simp; omega)]
      simp [hx]
    · rw [if_neg hx, if_neg hx, rev_eq K out (by omega) (by omega)]; simp
theorem ipath_eq (l : List ND) (x : Int) (hl : l.length ≤ 9223372036854775807) (K : Nat) (hK : 2000 < K) : impl_PathTo.f K l x = some (path_ l x) := by
  unfold impl_PathTo.f path_
  rw [obs, isNode_eq l x hl K (by omega), obs]
  by_cases h : isn_ l x = true
  · obtain ⟨h1, h2, h3⟩ := isn_tree h
    have := tree_len h1
    rw [if_pos h, if_pos h, ipl_eq l h1 13 K x [] (by omega) (by omega) h3 (by omega) (by simp)]
    simp
  · rw [if_neg h, if_neg h]


theorem clone0 (l : List Int) (h : l.length ≤ 17592186044416) : slices_Clone_int_int.f l = some l := by unfold slices_Clone_int_int.f; rw [if_pos h]

theorem ibtend (K : Nat) (x y : List Int) (hx : x.length ≤ 100) (hy : y.length ≤ 100) (n : Nat) (h1 : 1 ≤ n) (hn : n ≤ x.length) (hn2 : n ≤ y.length) (hK : 1000 < K) :
    (if 0 ≤ (wrap64 ((n : Int) - 1)) then (if (wrap64 ((n : Int) - 1)) ≤ (x.length : Int) then ((slices_Clone_int_int.f (x.drop ((wrap64 ((n : Int) - 1)) : Int).toNat)).bind fun t249 => ((slices_Reverse_int_int.f K t249).bind fun t252 => (if 0 ≤ (n : Int) then (if (n : Int) ≤ (y.length : Int) then ((some (y.drop (n : Int).toNat : List Int)).bind fun y253 => (if t252.length + y253.length < 17592186044416 then (some (t252 ++ y253)) else (none))) else (none)) else (none)))) else (none)) else (none)) = some ((x.drop (n - 1)).reverse ++ y.drop n) := by
  rw [wr ((n : Int) - 1) (by omega) (by omega), if_pos (by omega), if_pos (by omega), clone0 _ (by simp; omega), obs, rev_eq K _ (by simp; omega) (by simp; omega), obs, if_pos (by omega), if_pos (by omega), obs, if_pos (by simp; omega)]
  simp [show ((n : Int) - 1).toNat = n - 1 by omega]
theorem ibt_eq (x y : List Int) (hx : x.length ≤ 100) (hy : y.length ≤ 100) (c : Nat) (hc1 : 1 ≤ c) (hcx : c ≤ x.length) (hcy : c ≤ y.length) :
    ∀ (d K i : Nat), i + d = x.length → d + 1001 < K → i + cp_ (x.drop i) (y.drop i) = c → impl_PathBetween.l0 K x y (i : Int) = some ((x.drop (c - 1)).reverse ++ y.drop c) := by
  intro d
  induction d with
  | zero =>
    intro K i hi hK hc
    obtain ⟨K, rfl⟩ : ∃ m, K = m + 1 := ⟨K - 1, by omega⟩
    rw [List.drop_of_length_le (by omega : x.length ≤ i)] at hc
    simp only [cp_] at hc
    simp only [impl_PathBetween.l0]
    rw [if_neg (by unfold mn; split <;> omega)]
    obtain rfl : i = c := by omega
    exact ibtend K x y hx hy i hc1 hcx hcy (by omega)
  | succ d ih =>
    intro K i hi hK hc
    obtain ⟨K, rfl⟩ : ∃ m, K = m + 1 := ⟨K - 1, by omega⟩
    simp only [impl_PathBetween.l0]
    rw [List.drop_eq_getElem_cons (by omega : i < x.length)] at hc
    by_cases hyi : i < y.length
    · rw [List.drop_eq_getElem_cons hyi] at hc
      rw [if_pos (by unfold mn; split <;> omega), if_pos (by omega), if_pos (by omega), if_pos (by omega), rd_nat _ _ (by omega), rd_nat _ _ hyi]
      unfold cp_ at hc
      by_cases he : x[i]'(by omega) = y[i]
      · rw [if_pos he] at hc
        rw [if_pos he, wr ((i : Int) + 1) (by omega) (by omega)]
        exact ih K (i + 1) (by omega) (by omega) (by omega)
      · rw [if_neg he] at hc
        rw [if_neg he]
        obtain rfl : i = c := by omega
        have h := ibtend K x y hx hy i hc1 hcx hcy (by omega)
        simp only [show (0 : Int) ≤ (i : Int) from by omega, if_true] at h
        exact h
    · rw [List.drop_of_length_le (by omega : y.length ≤ i)] at hc
      unfold cp_ at hc
      rw [if_neg (by unfold mn; split <;> omega)]
      obtain rfl : i = c := by omega
      exact ibtend K x y hx hy i hc1 hcx hcy (by omega)
theorem ibetween_eq (l : List ND) (a b : Int) (hl : l.length ≤ 9223372036854775807) (K : Nat) (hK : 3000 < K) : impl_PathBetween.f K l a b = some (btw_ (path_ l a) (path_ l b)) := by
  obtain ⟨K, rfl⟩ : ∃ m, K = m + 1 := ⟨K - 1, by omega⟩
  unfold impl_PathBetween.f
  rw [isNode_eq l a hl _ (by omega), obs]
  simp only [isNode_eq l b hl (K + 1) (by omega), obs, impl_PathBetween.j0]
  have hx := path_len l a
  have hy := path_len l b
  by_cases h0 : isn_ l a = true
  · by_cases h1 : isn_ l b = true
    · obtain ⟨r, e⟩ := path_head l a h0
      obtain ⟨s, f⟩ := path_head l b h1
      have hc : 1 ≤ cp_ (path_ l a) (path_ l b) := by rw [e, f]; simp [cp_]
      have hcl := cp_le (path_ l a) (path_ l b)
      rw [if_pos h0, h1, if_neg (by simp), ipath_eq l a hl K (by omega), obs, ipath_eq l b hl K (by omega), obs]
      unfold btw_
      rw [if_neg (by omega)]
      exact ibt_eq _ _ (by omega) (by omega) _ hc (by omega) (by omega) (path_ l a).length K 0 (by omega) (by omega) (by simp)
    · rw [if_pos h0, path_none l b h1]
      rw [Bool.not_eq_true] at h1
      rw [h1]
      simp [btw_]
  · rw [if_neg h0, path_none l a h0]
    simp [btw_]


theorem places_some (k : Nat) (s : List Int) (hs : s.length ≤ 1048576) (hk : 4000 < k) : ∃ p, spec_DrawPlaces.f k s = some p ∧ p.length = 12 ∧ ∀ x ∈ p, 0 ≤ x ∧ x < 10000 := by
  have key : ∀ d k (p : List Int) (i : Nat) (j h : Int), i + d = 12 → d < k → p.length = i → 0 ≤ j → j ≤ s.length → (∀ x ∈ p, 0 ≤ x ∧ x < 10000) →
      ∃ q, spec_DrawPlaces.l0 k p (i : Int) s j h = some q ∧ q.length = 12 ∧ ∀ x ∈ q, 0 ≤ x ∧ x < 10000 := by
    intro d
    induction d with
    | zero =>
      intro k p i j h hi hk hp h0 h1 hx
      obtain ⟨k, rfl⟩ : ∃ m, k = m + 1 := ⟨k - 1, by omega⟩
      simp only [spec_DrawPlaces.l0]
      rw [if_neg (by omega)]
      exact ⟨p, rfl, by omega, hx⟩
    | succ d ih =>
      intro k p i j h hi hk hp h0 h1 hx
      obtain ⟨k, rfl⟩ : ∃ m, k = m + 1 := ⟨k - 1, by omega⟩
      simp only [spec_DrawPlaces.l0]
      obtain ⟨x, i1, h1', e, x0, x1, i0, i2⟩ := below_some s j h 10000 hs h0 h1 (by omega) (by omega)
      rw [if_pos (by omega), e]
      simp only [Option.bind_some]
      rw [if_pos (by omega), wr ((i : Int) + 1) (by omega) (by omega)]
      refine ih k _ (i + 1) _ _ (by omega) (by omega) (by simp [hp]) i0 i2 (fun y hy => ?_)
      rcases List.mem_append.1 hy with hy | hy
      · exact hx y hy
      · rw [List.mem_singleton.1 hy]; exact ⟨x0, x1⟩
  obtain ⟨h, hn⟩ := new_some k s hs hk
  unfold spec_DrawPlaces.f
  rw [hn]
  exact key 12 k [] 0 0 h (by omega) (by omega) rfl (by omega) (by omega) (by simp)

theorem same_eq (k : Nat) (a b : List Int) (hl : a.length ≤ 1048576) (hk : a.length < k) : laws_sameInts.f k a b = some (decide (a = b)) := by
  unfold laws_sameInts.f
  by_cases e : b.length = a.length
  · rw [if_pos (by omega)]
    have h := eq_loop laws_sameInts.l0 a b hl e (fun k i h hx => by
        simp only [laws_sameInts.l0]
        rw [if_pos (by omega), if_pos (by omega), if_pos (by omega), rd_nat _ _ h, rd_nat _ _ (by omega), if_neg hx]) (fun k i h hx => by
        simp only [laws_sameInts.l0]
        rw [if_pos (by omega), if_pos (by omega), if_pos (by omega), rd_nat _ _ h, rd_nat _ _ (by omega), if_pos hx, wr _ (by omega) (by omega)]
        rfl) (fun k => by
        simp only [laws_sameInts.l0]
        rw [if_neg (by omega)]) a.length k 0 (by omega) hk
    simpa using h
  · rw [if_neg (by omega)]
    congr 1
    symm
    rw [decide_eq_false_iff_not]
    rintro rfl
    exact e rfl

theorem paths_loop (t : List ND) (z : List Int) (a : Int) (ht : tree_ t = true) (ha : isn_ t a = true) (hw : way_ t z) (hz : ∀ y ∈ z, 0 ≤ y ∧ y < (t.length : Int)) (hl : z.length ≤ 100) :
    ∀ (d K i : Nat), i + d = z.length → 2 * d + 5000 < K → laws_FnPaths.l0 K t a z z.reverse (i : Int) = some true := by
  intro d
  induction d with
  | zero =>
    intro K i hi hK
    obtain ⟨K, rfl⟩ : ∃ m, K = m + 1 := ⟨K - 1, by omega⟩
    have hlt := tree_len ht
    obtain ⟨⟨r, er⟩, ⟨q, eq⟩, _, _⟩ := path_is t a ha
    have hp := path_len t a
    have hb := btw_root t a ha
    have hq : rd (path_ t a) ((path_ t a).length - 1 : Int) = a := by
      rw [eq, show ((q ++ [a]).length : Int) - 1 = (q.length : Int) by simp, rd_nat _ _ (by simp)]; simp
    have h0 : rd (path_ t a) 0 = 0 := by rw [er]; rfl
    have hpos : 0 < (path_ t a).length := by rw [er]; simp
    simp only [laws_FnPaths.l0]
    rw [if_neg (by omega), ipath_eq t a (by omega) K (by omega), obs, if_pos (by omega), if_pos (by omega), if_pos h0, wr _ (by omega) (by omega), if_pos (by omega), if_pos (by omega), if_pos hq, ibetween_eq t 0 a (by omega) K (by omega), obs, hb, same_eq K _ _ (by omega) (by omega), obs]
    simp
  | succ d ih =>
    intro K i hi hK
    obtain ⟨K, rfl⟩ : ∃ m, K = m + 1 := ⟨K - 1, by omega⟩
    have hlt : i < z.length := by omega
    have hx := hz z[i] (List.getElem_mem _)
    have hr : rd z.reverse (wrap64 ((wrap64 ((z.reverse.length : Int) - 1)) - (i : Int))) = z[i] := by
      rw [List.length_reverse, wr ((z.length : Int) - 1) (by omega) (by omega), wr _ (by omega) (by omega), show (z.length : Int) - 1 - (i : Int) = ((z.length - 1 - i : Nat) : Int) by omega, rd_nat _ _ (by simp; omega), List.getElem_reverse]
      congr 1
      omega
    have hj : laws_FnPaths.j2 K t a z z.reverse (i : Int) false = some true := by
      obtain ⟨K, rfl⟩ : ∃ m, K = m + 1 := ⟨K - 1, by omega⟩
      simp only [laws_FnPaths.j2]
      rw [if_neg (by simp), wr ((i : Int) + 1) (by omega) (by omega), show (i : Int) + 1 = ((i + 1 : Nat) : Int) by omega, ih K (i + 1) (by omega) (by omega)]
      by_cases h0 : (i : Int) > 0
      · obtain ⟨j, rfl⟩ : ∃ j, i = j + 1 := ⟨i - 1, by omega⟩
        have hy := hz z[j] (List.getElem_mem _)
        have hg := way_get z hw j hlt
        unfold pa_ at hg
        rw [if_pos h0, if_pos (by omega), if_pos (by omega), rd_nat _ _ hlt, if_pos hx.1, if_pos hx.2, wr (((j + 1 : Nat) : Int) - 1) (by omega) (by omega), show ((j + 1 : Nat) : Int) - 1 = (j : Int) by omega, if_pos (by omega), if_pos (by omega), rd_nat _ _ (by omega)]
        by_cases g : (rd_T38 t z[j + 1]).f0 = z[j]
        · rw [if_pos g]
        · rw [if_neg g, if_pos hy.1, if_pos hy.2, if_pos (hg.resolve_left g)]
      · rw [if_neg h0]
    simp only [laws_FnPaths.l0]
    rw [hr, rd_nat _ _ hlt]
    rw [if_pos (by omega), if_pos (by omega), List.length_reverse, wr ((z.length : Int) - 1) (by omega) (by omega), wr _ (by omega) (by omega), if_pos (by omega), if_pos (by omega), if_pos rfl, if_neg (by omega), decide_eq_false (by omega)]
    exact hj
theorem FnPaths : laws_FnPaths.Pure := by
  intro s h1 h2 hw
  obtain ⟨K, hK⟩ : ∃ K : Nat, 1048576 < K := ⟨1048577, by omega⟩
  refine ⟨K + 1, ?_⟩
  unfold laws_FnPaths.f laws_big.f
  simp only [obs, decide_eq_true_eq]
  by_cases hb : (s.length : Int) > 1048576
  · rw [if_pos hb]
  · rw [if_neg hb]
    obtain ⟨t, et, ht⟩ := drawTree_some (K + 1) s (by omega) (by omega)
    obtain ⟨p, ep, hp12, hpx⟩ := places_some (K + 1) s (by omega) (by omega)
    have hl := tree_len ht
    have hp0 := hpx p[0] (List.getElem_mem _)
    have hp1 := hpx p[1] (List.getElem_mem _)
    have r0 : rd p 0 = p[0] := rd_nat p 0 (by omega)
    have r1 : rd p 1 = p[1] := rd_nat p 1 (by omega)
    have ma : 0 ≤ Int.tmod p[0] (t.length : Int) ∧ Int.tmod p[0] (t.length : Int) < (t.length : Int) := ⟨Int.tmod_nonneg _ hp0.1, Int.tmod_lt_of_pos _ (by omega)⟩
    have mb : 0 ≤ Int.tmod p[1] (t.length : Int) ∧ Int.tmod p[1] (t.length : Int) < (t.length : Int) := ⟨Int.tmod_nonneg _ hp1.1, Int.tmod_lt_of_pos _ (by omega)⟩
    rw [et, obs, ep, obs, if_pos (by omega), if_neg (by omega), if_pos (by omega), r0, r1]
    generalize Int.tmod p[0] (t.length : Int) = a at *
    generalize Int.tmod p[1] (t.length : Int) = b at *
    have ha : isn_ t a = true := by unfold isn_; rw [ht, Bool.true_and, decide_eq_true_eq]; exact ma
    have hbn : isn_ t b = true := by unfold isn_; rw [ht, Bool.true_and, decide_eq_true_eq]; exact mb
    obtain ⟨v, x', y', e1, e2, ⟨q, eq⟩, ⟨q2, eq2⟩, w1, w2, i1, i2, l1, l2⟩ := btw_is t a b ha hbn
    have hrev : btw_ (path_ t b) (path_ t a) = (btw_ (path_ t a) (path_ t b)).reverse := by rw [e1, e2]; simp
    rw [ibetween_eq t a b (by omega) (K + 1) (by omega), obs, ibetween_eq t b a (by omega) (K + 1) (by omega), obs, hrev]
    have hwz : way_ t (btw_ (path_ t a) (path_ t b)) := by
      rw [e1]
      have := way_rev _ w1
      rw [List.reverse_cons] at this
      exact way_app v y' x'.reverse this w2
    have hiz : ∀ z ∈ btw_ (path_ t a) (path_ t b), 0 ≤ z ∧ z < (t.length : Int) := by
      rw [e1]
      intro z hz
      rcases List.mem_append.1 hz with hz | hz
      · exact i1 z (List.mem_cons_of_mem _ (List.mem_reverse.1 hz))
      · exact i2 z hz
    have hlz : (btw_ (path_ t a) (path_ t b)).length = x'.length + y'.length + 1 := by rw [e1]; simp; omega
    have hfirst : rd (btw_ (path_ t a) (path_ t b)) 0 = a := by
      have e3 : btw_ (path_ t a) (path_ t b) = (v :: x').reverse ++ y' := by rw [e1]; simp
      rw [e3, eq, List.reverse_append]; rfl
    have hlast : rd (btw_ (path_ t a) (path_ t b)) (((btw_ (path_ t a) (path_ t b)).length : Int) - 1) = b := by
      have e3 : btw_ (path_ t a) (path_ t b) = (x'.reverse ++ q2) ++ [b] := by rw [e1, eq2]; simp
      rw [e3, show (((x'.reverse ++ q2) ++ [b]).length : Int) - 1 = ((x'.reverse ++ q2).length : Int) by simp; omega, rd_nat _ _ (by simp)]
      simp
    generalize btw_ (path_ t a) (path_ t b) = z at *
    rw [if_neg (by omega), List.length_reverse, if_pos rfl, if_pos (by omega), if_pos hfirst, wr _ (by omega) (by omega), if_pos (by omega), if_pos (by omega), hlast]
    simp only [laws_FnPaths.j0]
    rw [if_neg (by simp)]
    exact paths_loop t z a ht ha hwz hiz (by omega) z.length K 0 (by omega) (by omega)

end Go.Proofs.Ytbgmbhhbonpoaaa.Pure
