/- Of every list of nodes and list of sizes and number: the program's WindowSize and the reference's answer alike. -/
import Derived.Test.YtbbppknnkghkjaaPFnExactWindowSizex8
import Derived.Test.YtbbppknnkghkjaaCom
import Derived.Test.YtbbppknnkghkjaaPow
namespace Go.Proofs.Ytbbppknnkghkjaa.Pure
open Go.RowKit Go.Proofs.Ytbbppknnkghkjaa.PFnExactWindowSize Go.Proofs.YtbbppknnkghkjaaW.PrintWords Go.Proofs.YtbbppknnkghkjaaW.PrintLast Go.Proofs.YtbbppknnkghkjaaW.PrintMore Go.Proofs.Ytbbppknnkghkjaa.Com
set_option linter.unusedVariables false
set_option linter.unusedSimpArgs false

theorem rd_inode (xs : List S50) (i : Nat) (h : i < xs.length) : rd_T50 xs (i : Int) = xs[i] := getD_nat _ _ _ h

def toNd (x : S83) : S50 := ⟨x.f0, x.f1, x.f2⟩
theorem rd_lnode (xs : List S83) (i : Nat) (h : i < xs.length) : rd_T83 xs (i : Int) = xs[i] := getD_nat _ _ _ h
theorem toNodeS_eq (k : Nat) (l : List S83) (hl : l.length ≤ 1048576) (hk : l.length < k) : laws_toNodeS.f k l = some (l.map toNd) := by
  unfold laws_toNodeS.f
  rw [if_pos (by omega), if_pos (by omega)]
  have h := copy_loop laws_toNodeS.l0 toNd l hl (fun k x3 i h h3 => by
      simp only [laws_toNodeS.l0]
      rw [if_pos (by omega), if_pos (by omega), rd_lnode _ _ h]
      simp only [laws_toNode.f, Option.bind_some]
      rw [if_pos (by omega), wr _ (by omega) (by omega)]
      rfl) (fun k x3 h3 => by
      simp only [laws_toNodeS.l0]
      rw [if_neg (by omega)]) l.length k (List.replicate ((l.length : Int)).toNat z50) 0 (by omega) hk (by simp) (fun j hj => by omega)
  exact h
theorem node_ext (a b : S50) (h0 : a.f0 = b.f0) (h1 : a.f1 = b.f1) (h2 : a.f2 = b.f2) : a = b := by cases a; cases b; simp_all
instance : DecidableEq S50 := fun a b => decidable_of_iff (a.f0 = b.f0 ∧ a.f1 = b.f1 ∧ a.f2 = b.f2) ⟨fun h => node_ext a b h.1 h.2.1 h.2.2, fun h => by rw [h]; exact ⟨rfl, rfl, rfl⟩⟩
theorem eqNode_eq (a b : S50) : laws_eqNode.f a.f0 a.f1 a.f2 b.f0 b.f1 b.f2 = some (decide (a = b)) := by
  unfold laws_eqNode.f
  by_cases h0 : a.f0 = b.f0
  · by_cases h1 : a.f1 = b.f1
    · by_cases h2 : a.f2 = b.f2
      · rw [if_pos h0, if_pos h1, if_pos h2]; simp [node_ext a b h0 h1 h2]
      · rw [if_pos h0, if_pos h1, if_neg h2]; simp only [Option.some.injEq]; symm; rw [decide_eq_false_iff_not]; rintro rfl; exact h2 rfl
    · rw [if_pos h0, if_neg h1]; simp only [Option.some.injEq]; symm; rw [decide_eq_false_iff_not]; rintro rfl; exact h1 rfl
  · rw [if_neg h0]; simp only [Option.some.injEq]; symm; rw [decide_eq_false_iff_not]; rintro rfl; exact h0 rfl
theorem eqNodeS_eq (k : Nat) (a b : List S50) (hl : a.length ≤ 1048576) (hk : a.length < k) : laws_eqNodeS.f k a b = some (decide (a = b)) := by
  unfold laws_eqNodeS.f
  by_cases e : b.length = a.length
  · rw [if_pos (by omega)]
    have h := eq_loop laws_eqNodeS.l0 a b hl e (fun k i h hx => by
        simp only [laws_eqNodeS.l0]
        rw [if_pos (by omega), if_pos (by omega), if_pos (by omega), rd_inode _ _ h, rd_inode _ _ (by omega), eqNode_eq]
        simp [hx]) (fun k i h hx => by
        simp only [laws_eqNodeS.l0]
        rw [if_pos (by omega), if_pos (by omega), if_pos (by omega), rd_inode _ _ h, rd_inode _ _ (by omega), eqNode_eq, wr _ (by omega) (by omega)]
        simp only [hx, decide_true, Option.bind_some, if_true]
        rfl) (fun k => by
        simp only [laws_eqNodeS.l0]
        rw [if_neg (by omega)]) a.length k 0 (by omega) hk
    simpa using h
  · rw [if_neg (by omega)]
    congr 1
    symm
    rw [decide_eq_false_iff_not]
    rintro rfl
    exact e rfl

theorem szNodeS_eq (l : List S83) (a : Int) (h0 : l.length ≤ 9223372036854775807) (h1 : 0 ≤ a) (h2 : a ≤ 1048576) :
    laws_szNodeS.f l a = some (if a < (l.length : Int) then -1 else a - (l.length : Int)) := by
  unfold laws_szNodeS.f
  rw [wr (a - (l.length : Int)) (by omega) (by omega)]
  by_cases h : a < (l.length : Int)
  · rw [if_pos (by omega), if_pos h]
  · rw [if_neg (by omega), if_neg h]

theorem toIntS_eq (k : Nat) (l : List Int) (hl : l.length ≤ 1048576) (hk : l.length < k) : laws_toIntS.f k l = some l := by
  unfold laws_toIntS.f
  rw [if_pos (by omega), if_pos (by omega)]
  have h := copy_loop laws_toIntS.l0 (fun x => x) l hl (fun k x3 i h h3 => by
      simp only [laws_toIntS.l0]
      rw [if_pos (by omega), if_pos (by omega), if_pos (by omega), rd_nat _ _ h, wr _ (by omega) (by omega)]
      rfl) (fun k x3 h3 => by
      simp only [laws_toIntS.l0]
      rw [if_neg (by omega)]) l.length k (List.replicate ((l.length : Int)).toNat 0) 0 (by omega) hk (by simp) (fun j hj => by omega)
  simpa using h

theorem eqIntS_eq (k : Nat) (a b : List Int) (hl : a.length ≤ 1048576) (hk : a.length < k) : laws_eqIntS.f k a b = some (decide (a = b)) := by
  unfold laws_eqIntS.f
  by_cases e : b.length = a.length
  · rw [if_pos (by omega)]
    have h := eq_loop laws_eqIntS.l0 a b hl e (fun k i h hx => by
        simp only [laws_eqIntS.l0]
        rw [if_pos (by omega), if_pos (by omega), if_pos (by omega), rd_nat _ _ h, rd_nat _ _ (by omega), if_neg hx]) (fun k i h hx => by
        simp only [laws_eqIntS.l0]
        rw [if_pos (by omega), if_pos (by omega), if_pos (by omega), rd_nat _ _ h, rd_nat _ _ (by omega), if_pos hx, wr _ (by omega) (by omega)]
        rfl) (fun k => by
        simp only [laws_eqIntS.l0]
        rw [if_neg (by omega)]) a.length k 0 (by omega) hk
    simpa using h
  · rw [if_neg (by omega)]
    congr 1
    symm
    rw [decide_eq_false_iff_not]
    rintro rfl
    exact e rfl

/-- As Option.bind_some, but not by rfl: rewriting with it below an 'if' with a great number keeps the kernel from unfolding that number. -/
theorem obs {α β : Type} (a : α) (f : α → Option β) : (some a).bind f = f a := by rw [Option.bind_some]

theorem l01In_eq (a b c : Int) : spec_l01In.f a b c = some (decide (b ≤ a ∧ a ≤ c)) := by
  unfold spec_l01In.f; by_cases h : a ≥ b <;> simp [h]


abbrev ND := S50
/-- A sibling in the same place. -/
def sib_ (p d : Int) (x : ND) : Bool := decide (x.f0 = p) && decide (x.f1 = d)
/-- Is the node n well at place k of the tree? -/
def row_ (l : List ND) (k : Nat) (n : ND) : Bool :=
  decide (0 ≤ n.f0 ∧ n.f0 < (k : Int)) && (decide ((rd_T50 l n.f0).f2 = 0) && (decide (0 ≤ n.f1 ∧ n.f1 ≤ 3) && (decide (0 ≤ n.f2 ∧ n.f2 ≤ 4) && !(l.take k).any (sib_ n.f0 n.f1))))
def rows_ (l : List ND) : Nat → Nat → Bool
  | 0, _ => true
  | d + 1, k => row_ l k (rd_T50 l (k : Int)) && rows_ l d (k + 1)
def root_ (l : List ND) : Bool := (rd_T50 l 0).f0 == (-1) && ((rd_T50 l 0).f1 == 0 && (rd_T50 l 0).f2 == 0)
def tree_ (l : List ND) : Bool := decide (1 ≤ (l.length : Int) ∧ (l.length : Int) ≤ 12) && (root_ l && rows_ l (l.length - 1) 1)
theorem tree_len {l : List ND} (h : tree_ l = true) : 1 ≤ l.length ∧ l.length ≤ 12 := by
  simp only [tree_, Bool.and_eq_true, decide_eq_true_eq] at h; omega
theorem tree_root {l : List ND} (h : tree_ l = true) : (rd_T50 l 0).f0 = -1 := by
  simp only [tree_, root_, Bool.and_eq_true, decide_eq_true_eq, beq_iff_eq] at h; exact h.2.1.1
theorem rows_row (l : List ND) : ∀ d k j, rows_ l d k = true → k ≤ j → j < k + d → row_ l j (rd_T50 l (j : Int)) = true := by
  intro d
  induction d with
  | zero => intro k j _ _ _; omega
  | succ d ih =>
    intro k j h h1 h2
    simp only [rows_, Bool.and_eq_true] at h
    by_cases e : j = k
    · subst e; exact h.1
    · exact ih (k + 1) j h.2 (by omega) (by omega)
theorem tree_row {l : List ND} (h : tree_ l = true) (j : Nat) (h0 : 0 < j) (h1 : j < l.length) : row_ l j (rd_T50 l (j : Int)) = true := by
  simp only [tree_, Bool.and_eq_true] at h
  exact rows_row l _ 1 j h.2.2 (by omega) (by omega)
theorem tree_parent {l : List ND} (h : tree_ l = true) (j : Nat) (h0 : 0 < j) (h1 : j < l.length) : 0 ≤ (rd_T50 l (j : Int)).f0 ∧ (rd_T50 l (j : Int)).f0 < (j : Int) := by
  have := tree_row h j h0 h1
  simp only [row_, Bool.and_eq_true, decide_eq_true_eq] at this
  exact this.1

theorem sib_root {l : List ND} (hl : 0 < l.length) (hr : (rd_T50 l 0).f0 = -1) (p d : Int) (hp : 0 ≤ p) (k : Nat) (hk : 1 ≤ k) : (l.take k).any (sib_ p d) = ((l.take k).drop 1).any (sib_ p d) := by
  cases l with
  | nil => simp at hl
  | cons x xs =>
    obtain ⟨k, rfl⟩ : ∃ m, k = m + 1 := ⟨k - 1, by omega⟩
    have hx : x.f0 = -1 := hr
    have : sib_ p d x = false := by unfold sib_; rw [hx]; rw [decide_eq_false (show ¬ (-1 : Int) = p by omega)]; rfl
    simp [this]
theorem sl1_eq (l : List ND) (k : Nat) (hk : k < l.length) (hl : l.length ≤ 12) (p d f : Int) (R : Bool) (B : Nat) (hR : ∀ K, B < K → spec_TreeOk.l0 K l ((k + 1 : Nat) : Int) = some R) :
    ∀ e K i, i + e = k → B + e + 1 < K → spec_TreeOk.l1 K l (k : Int) (i : Int) p d f = some (if ((l.take k).drop i).any (sib_ p d) then false else R) := by
  intro e
  induction e with
  | zero =>
    intro K i hi hK
    obtain ⟨K, rfl⟩ : ∃ m, K = m + 1 := ⟨K - 1, by omega⟩
    obtain rfl : i = k := by omega
    simp only [spec_TreeOk.l1]
    rw [if_neg (by omega), wr ((i : Int) + 1) (by omega) (by omega), List.drop_of_length_le (by simp; omega)]
    simpa using hR K (by omega)
  | succ e ih =>
    intro K i hi hK
    obtain ⟨K, rfl⟩ : ∃ m, K = m + 1 := ⟨K - 1, by omega⟩
    have hlt : i < (l.take k).length := by simp; omega
    have hg : (l.take k)[i] = l[i]'(by omega) := by simp
    have e1 : ((i : Int) + 1) = ((i + 1 : Nat) : Int) := by omega
    simp only [spec_TreeOk.l1]
    rw [if_pos (by omega), if_pos (by omega), if_pos (by omega), rd_inode _ _ (by omega), wr ((i : Int) + 1) (by omega) (by omega), List.drop_eq_getElem_cons hlt, hg, e1, ih K (i + 1) (by omega) (by omega)]
    rw [List.any_cons]
    by_cases h0 : (l[i]'(by omega)).f0 = p
    · by_cases h1 : (l[i]'(by omega)).f1 = d
      · rw [if_pos h0, if_pos h1]; simp [sib_, h0, h1]
      · rw [if_pos h0, if_neg h1]; simp [sib_, h0, h1]
    · rw [if_neg h0]; simp [sib_, h0]
theorem sl0_eq (l : List ND) (h1 : 1 ≤ l.length) (hl : l.length ≤ 12) (hr : (rd_T50 l 0).f0 = -1) :
    ∀ d K k, 1 ≤ k → k + d = l.length → 16 * d < K → spec_TreeOk.l0 K l (k : Int) = some (rows_ l d k) := by
  intro d
  induction d with
  | zero =>
    intro K k hk hd hK
    obtain ⟨K, rfl⟩ : ∃ m, K = m + 1 := ⟨K - 1, by omega⟩
    simp only [spec_TreeOk.l0]
    rw [if_neg (by omega)]; rfl
  | succ d ih =>
    intro K k hk hd hK
    obtain ⟨K, rfl⟩ : ∃ m, K = m + 2 := ⟨K - 2, by omega⟩
    have hx : ∀ b p d' f, spec_TreeOk.j2 (K + 1) l (k : Int) b p d' f = if b = true then some false else spec_TreeOk.l1 K l (k : Int) 1 p d' f := fun b p d' f => by simp only [spec_TreeOk.j2]
    have hin : ∀ p d' f, 0 ≤ p → spec_TreeOk.l1 K l (k : Int) 1 p d' f = some (if (l.take k).any (sib_ p d') then false else rows_ l d (k + 1)) := fun p d' f hp => by
      have h := sl1_eq l k (by omega) hl p d' f (rows_ l d (k + 1)) (16 * d) (fun K' hK' => ih K' (k + 1) (by omega) (by omega) hK') (k - 1) K 1 (by omega) (by omega)
      rw [sib_root (by omega) hr p d' hp k hk]
      exact h
    simp only [spec_TreeOk.l0]
    rw [if_pos (by omega), if_pos (by omega), wr ((k : Int) - 1) (by omega) (by omega)]
    unfold rows_ row_
    generalize rd_T50 l (k : Int) = n
    simp only [l01In_eq, Option.bind_some, hx]
    by_cases c0 : 0 ≤ n.f0 ∧ n.f0 < (k : Int)
    · rw [if_pos (by simp; omega), if_pos c0.1, if_pos (by omega), decide_eq_true c0, Bool.true_and]
      by_cases c1 : (rd_T50 l n.f0).f2 = 0
      · rw [if_pos c1, decide_eq_true c1, Bool.true_and]
        by_cases c2 : 0 ≤ n.f1 ∧ n.f1 ≤ 3
        · rw [decide_eq_true c2, if_pos rfl, Bool.true_and]
          by_cases c3 : 0 ≤ n.f2 ∧ n.f2 ≤ 4
          · rw [decide_eq_true c3, if_neg (by simp), Bool.true_and, hin _ _ _ c0.1]
            cases (l.take k).any (sib_ n.f0 n.f1) <;> simp
          · rw [decide_eq_false c3]; simp
        · rw [decide_eq_false c2]; simp
      · rw [if_neg c1, decide_eq_false c1]; simp
    · rw [if_neg (by simp; omega), decide_eq_false c0]; simp
theorem stree_eq (l : List ND) (hl : l.length ≤ 9223372036854775807) (K : Nat) (hK : 200 < K) : spec_TreeOk.f K l = some (tree_ l) := by
  obtain ⟨K, rfl⟩ : ∃ m, K = m + 1 := ⟨K - 1, by omega⟩
  unfold spec_TreeOk.f tree_
  simp only [l01In_eq, Option.bind_some, spec_TreeOk.j0]
  by_cases c : 1 ≤ (l.length : Int) ∧ (l.length : Int) ≤ 12
  · rw [decide_eq_true c, if_pos rfl, if_pos (by omega), Bool.true_and]
    by_cases hr : root_ l = true
    · have hr0 : (rd_T50 l 0).f0 = -1 := by
        simp only [root_, Bool.and_eq_true, beq_iff_eq] at hr; exact hr.1
      have h := sl0_eq l (by omega) (by omega) hr0 (l.length - 1) K 1 (by omega) (by omega) (by omega)
      have hr2 := hr
      simp only [root_, Bool.and_eq_true, beq_iff_eq] at hr2
      rw [hr, Bool.true_and, if_neg (by simp [hr2])]
      exact h
    · rw [Bool.not_eq_true] at hr
      rw [hr, if_pos, Bool.false_and]
      unfold root_ at hr
      revert hr
      cases (rd_T50 l 0).f0 == -1 <;> cases (rd_T50 l 0).f1 == 0 <;> cases (rd_T50 l 0).f2 == 0 <;> simp
  · rw [decide_eq_false c, if_neg (by simp), Bool.false_and]; simp


/-- The nodes from x up to the root. -/
def up_ (l : List ND) : Nat → Int → List Int
  | 0, _ => []
  | d + 1, x => if 0 ≤ x then x :: up_ l d (rd_T50 l x).f0 else []
def isn_ (l : List ND) (x : Int) : Bool := tree_ l && decide (0 ≤ x ∧ x < (l.length : Int))
def path_ (l : List ND) (x : Int) : List Int := if isn_ l x = true then (up_ l 13 x).reverse else []
theorem up_len (l : List ND) : ∀ d x, (up_ l d x).length ≤ d := by
  intro d
  induction d with
  | zero => intro x; simp [up_]
  | succ d ih =>
    intro x
    unfold up_
    split
    · have := ih (rd_T50 l x).f0; simp; omega
    · simp
theorem path_len (l : List ND) (x : Int) : (path_ l x).length ≤ 13 := by
  unfold path_
  split
  · rw [List.length_reverse]; exact up_len l 13 x
  · simp
theorem parent_lt {l : List ND} (h : tree_ l = true) (x : Int) (h0 : 0 ≤ x) (h1 : x < (l.length : Int)) : -1 ≤ (rd_T50 l x).f0 ∧ (rd_T50 l x).f0 < x := by
  obtain ⟨j, rfl⟩ : ∃ j : Nat, x = (j : Int) := ⟨x.toNat, by omega⟩
  by_cases hj : j = 0
  · subst hj; have := tree_root h; have e : (((0 : Nat) : Int)) = 0 := rfl; rw [e, this]; omega
  · have := tree_parent h j (by omega) (by omega); omega
theorem isn_tree {l : List ND} {x : Int} (h : isn_ l x = true) : tree_ l = true ∧ 0 ≤ x ∧ x < (l.length : Int) := by
  simpa only [isn_, Bool.and_eq_true, decide_eq_true_eq] using h

theorem l19Ok_eq (l : List ND) (x : Int) (hl : l.length ≤ 9223372036854775807) (K : Nat) (hK : 200 < K) : spec_l19Ok.f K l x = some (isn_ l x) := by
  unfold spec_l19Ok.f isn_
  rw [stree_eq l hl K hK, obs]
  cases h : tree_ l
  · simp
  · have := tree_len h
    rw [if_pos rfl, l01In_eq, obs, wr ((l.length : Int) - 1) (by omega) (by omega), Bool.true_and]
    congr 1
    rw [Bool.eq_iff_iff, decide_eq_true_eq, decide_eq_true_eq]; omega


theorem within_eq (a b c : Int) : impl_within.f a b c = some (decide (b ≤ a ∧ a ≤ c)) := by
  unfold impl_within.f; by_cases h : a ≥ b <;> simp [h]



theorem il0_eq (l : List ND) (h1 : 1 ≤ l.length) (hl : l.length ≤ 12) :
    ∀ d K (j : Nat), j + 1 + d = l.length → 2 * d < K → impl_TreeOk.l0 K l (l.drop 1) ((l.drop 1).length : Int) (j : Int) = some (rows_ l d (j + 1)) := by
  intro d
  have hd1 : (l.drop 1).length = l.length - 1 := by simp
  induction d with
  | zero =>
    intro K j hd hK
    obtain ⟨K, rfl⟩ : ∃ m, K = m + 1 := ⟨K - 1, by omega⟩
    simp only [impl_TreeOk.l0]
    rw [if_neg (by omega)]; rfl
  | succ d ih =>
    intro K j hd hK
    obtain ⟨K, rfl⟩ : ∃ m, K = m + 2 := ⟨K - 2, by omega⟩
    have e1 : ((j : Int) + 1) = ((j + 1 : Nat) : Int) := by omega
    have hrd : rd_T50 (l.drop 1) (j : Int) = rd_T50 l ((j + 1 : Nat) : Int) := by
      rw [rd_inode _ _ (by omega), rd_inode _ _ (by omega)]
      simp [Nat.add_comm]
    have hrt : ∀ p : Int, 0 ≤ p → p < ((j + 1 : Nat) : Int) → rd_T50 (l.take (j + 1)) p = rd_T50 l p := by
      intro p hp0 hp1
      obtain ⟨q, rfl⟩ : ∃ q : Nat, p = (q : Int) := ⟨p.toNat, by omega⟩
      rw [rd_inode _ _ (by simp; omega), rd_inode _ _ (by omega)]
      simp
    have hx : ∀ b p d' f, impl_TreeOk.j2 (K + 1) l (l.take (j + 1)) (l.drop 1) ((l.drop 1).length : Int) (j : Int) b p d' f = if b = true then some false else some (if (l.take (j + 1)).any (sib_ p d') then false else rows_ l d (j + 1 + 1)) := fun b p d' f => by
      simp only [impl_TreeOk.j2, impl_Node_impl_TreeOk_1.f, Option.bind_some]
      rw [wr ((j : Int) + 1) (by omega) (by omega), e1, ih K (j + 1) (by omega) (by omega)]
      unfold sib_
      cases b <;> cases (l.take (j + 1)).any (fun x => decide (x.f0 = p) && decide (x.f1 = d')) <;> simp
    simp only [impl_TreeOk.l0]
    rw [if_pos (by omega), if_pos (by omega), if_pos (by omega), wr ((j : Int) + 1) (by omega) (by omega), if_pos (by omega), if_pos (by omega), e1]
    rw [hrd, Int.toNat_natCast]
    unfold rows_ row_
    generalize hn : rd_T50 l ((j + 1 : Nat) : Int) = n
    simp only [within_eq, Option.bind_some, hx]
    have ht : ((l.take (j + 1)).length : Int) = ((j + 1 : Nat) : Int) := by simp; omega
    by_cases c0 : 0 ≤ n.f0 ∧ n.f0 < ((j + 1 : Nat) : Int)
    · rw [if_pos (by simp; omega), if_pos c0.1, if_pos (by rw [ht]; omega), decide_eq_true c0, Bool.true_and, hrt _ c0.1 c0.2]
      by_cases c1 : (rd_T50 l n.f0).f2 = 0
      · rw [if_pos c1, decide_eq_true c1, Bool.true_and]
        by_cases c2 : 0 ≤ n.f1 ∧ n.f1 ≤ 3
        · rw [decide_eq_true c2, if_pos rfl, Bool.true_and]
          by_cases c3 : 0 ≤ n.f2 ∧ n.f2 ≤ 4
          · rw [decide_eq_true c3, if_neg (by simp), Bool.true_and]
            cases (l.take (j + 1)).any (sib_ n.f0 n.f1) <;> simp
          · rw [decide_eq_false c3]; simp
        · rw [decide_eq_false c2]; simp
      · rw [if_neg c1, decide_eq_false c1]; simp
    · rw [if_neg (by simp; omega), decide_eq_false c0]; simp
theorem itree_eq (l : List ND) (hl : l.length ≤ 9223372036854775807) (K : Nat) (hK : 200 < K) : impl_TreeOk.f K l = some (tree_ l) := by
  obtain ⟨K, rfl⟩ : ∃ m, K = m + 1 := ⟨K - 1, by omega⟩
  unfold impl_TreeOk.f tree_
  simp only [within_eq, Option.bind_some, impl_TreeOk.j0]
  by_cases c : 1 ≤ (l.length : Int) ∧ (l.length : Int) ≤ 12
  · rw [decide_eq_true c, if_pos rfl, if_pos (by omega), Bool.true_and, if_pos (show (1 : Int) ≤ (l.length : Int) from c.1)]
    have h := il0_eq l (by omega) (by omega) (l.length - 1) K 0 (by omega) (by omega)
    by_cases hr : root_ l = true
    · have hr2 := hr
      simp only [root_, Bool.and_eq_true, beq_iff_eq] at hr2
      rw [hr, Bool.true_and, if_neg (by simp [hr2])]
      exact h
    · rw [Bool.not_eq_true] at hr
      rw [hr, if_pos, Bool.false_and]
      unfold root_ at hr
      revert hr
      cases (rd_T50 l 0).f0 == -1 <;> cases (rd_T50 l 0).f1 == 0 <;> cases (rd_T50 l 0).f2 == 0 <;> simp
  · rw [decide_eq_false c, if_neg (by simp), Bool.false_and]; simp


theorem isNode_eq (l : List ND) (x : Int) (hl : l.length ≤ 9223372036854775807) (K : Nat) (hK : 200 < K) : impl_isNode.f K l x = some (isn_ l x) := by
  unfold impl_isNode.f isn_
  rw [itree_eq l hl K hK, obs]
  cases h : tree_ l
  · simp
  · have := tree_len h
    rw [if_pos rfl, within_eq, obs, wr ((l.length : Int) - 1) (by omega) (by omega), Bool.true_and]
    congr 1
    rw [Bool.eq_iff_iff, decide_eq_true_eq, decide_eq_true_eq]; omega

/-- The places from i on, d of them, whose node answers to p. -/
def ixs_ (l : List ND) (p : ND → Bool) : Nat → Nat → List Int
  | 0, _ => []
  | d + 1, i => if p (rd_T50 l (i : Int)) = true then (i : Int) :: ixs_ l p d (i + 1) else ixs_ l p d (i + 1)
def kid_ (x d : Int) (n : ND) : Bool := decide (n.f0 = x) && decide (n.f1 = d)
def kidsAt_ (l : List ND) (x d : Int) : List Int := ixs_ l (kid_ x d) (l.length - 1) 1
def kids_ (l : List ND) (x : Int) : List Int := if isn_ l x = true then kidsAt_ l x 0 ++ (kidsAt_ l x 1 ++ (kidsAt_ l x 2 ++ kidsAt_ l x 3)) else []
theorem ixs_succ (l : List ND) (p : ND → Bool) (d i : Nat) : ixs_ l p (d + 1) i = if p (rd_T50 l (i : Int)) = true then (i : Int) :: ixs_ l p d (i + 1) else ixs_ l p d (i + 1) := rfl
theorem ixs_len (l : List ND) (p : ND → Bool) : ∀ d i, (ixs_ l p d i).length ≤ d := by
  intro d
  induction d with
  | zero => intro i; simp [ixs_]
  | succ d ih => intro i; have := ih (i + 1); rw [ixs_succ]; split <;> simp <;> omega
theorem ixs_mem (l : List ND) (p : ND → Bool) : ∀ d i (y : Int), y ∈ ixs_ l p d i → (i : Int) ≤ y ∧ y < ((i + d : Nat) : Int) ∧ p (rd_T50 l y) = true := by
  intro d
  induction d with
  | zero => intro i y h; simp [ixs_] at h
  | succ d ih =>
    intro i y h
    rw [ixs_succ] at h
    split at h
    · rename_i hp
      rcases List.mem_cons.1 h with rfl | h
      · exact ⟨by omega, by omega, hp⟩
      · obtain ⟨a, b, c⟩ := ih _ _ h; exact ⟨by omega, by omega, c⟩
    · obtain ⟨a, b, c⟩ := ih _ _ h; exact ⟨by omega, by omega, c⟩
theorem ixs_filter (l : List ND) (p q : ND → Bool) : ∀ d i, (ixs_ l p d i).filter (fun y => q (rd_T50 l y)) = ixs_ l (fun n => p n && q n) d i := by
  intro d
  induction d with
  | zero => intro i; rfl
  | succ d ih =>
    intro i
    rw [ixs_succ, ixs_succ]
    cases hp : p (rd_T50 l (i : Int)) <;> cases hq : q (rd_T50 l (i : Int)) <;> simp [ih, hq]
theorem skid1_eq (l : List ND) (x c : Int) (c0 : 0 ≤ c) (c1 : c ≤ 3) (hl : l.length ≤ 12) : ∀ (d K i : Nat) (out : List Int), i + d = l.length → out.length + d ≤ 1000 → spec_ChildrenOf.l1 (K + d + 1) l x out c (i : Int) = spec_ChildrenOf.l0 K l x (out ++ ixs_ l (kid_ x c) d i) (c + 1) := by
  intro d
  induction d with
  | zero =>
    intro K i out h ho
    simp only [spec_ChildrenOf.l1]
    rw [if_neg (by omega), wr (c + 1) (by omega) (by omega)]; simp [ixs_]
  | succ d ih =>
    intro K i out h ho
    rw [show K + (d + 1) + 1 = (K + d + 1) + 1 by omega]
    have ih' := fun o => ih K (i + 1) o (by omega)
    generalize K + d + 1 = q at ih' ⊢
    simp only [spec_ChildrenOf.l1]
    rw [if_pos (by omega), if_pos (by omega), ixs_succ, wr ((i : Int) + 1) (by omega) (by omega), show (i : Int) + 1 = ((i + 1 : Nat) : Int) by omega]
    by_cases a : (rd_T50 l (i : Int)).f0 = x
    · by_cases b : (rd_T50 l (i : Int)).f1 = c
      · rw [if_pos a, if_pos b, if_pos (by omega), ih' _ (by simp; omega), if_pos (by simp [kid_, a, b])]
        simp
      · rw [if_pos a, if_neg b, ih' _ (by omega), if_neg (by simp [kid_, b])]
    · rw [if_neg a, ih' _ (by omega), if_neg (by simp [kid_, a])]
theorem skid0_eq (l : List ND) (x c : Int) (c0 : 0 ≤ c) (c1 : c ≤ 3) (h1 : 1 ≤ l.length) (hl : l.length ≤ 12) (K K' : Nat) (hK : K' = K + l.length + 1) (out : List Int) (ho : out.length ≤ 900) : spec_ChildrenOf.l0 K' l x out c = spec_ChildrenOf.l0 K l x (out ++ kidsAt_ l x c) (c + 1) := by
  obtain ⟨m, rfl⟩ : ∃ m, K' = m + 1 := ⟨K' - 1, by omega⟩
  simp only [spec_ChildrenOf.l0]
  rw [if_pos c1]
  have := skid1_eq l x c c0 c1 hl (l.length - 1) K 1 out (by omega) (by omega)
  rw [show K + (l.length - 1) + 1 = m by omega] at this
  exact this
theorem kidsAt_len (l : List ND) (x d : Int) (hl : l.length ≤ 12) : (kidsAt_ l x d).length ≤ 12 := by
  have := ixs_len l (kid_ x d) (l.length - 1) 1; unfold kidsAt_; omega
theorem skids_eq (l : List ND) (x : Int) (hl : l.length ≤ 9223372036854775807) (K : Nat) (hK : 500 < K) : spec_ChildrenOf.f K l x = some (kids_ l x) := by
  unfold spec_ChildrenOf.f kids_
  rw [obs, l19Ok_eq l x hl K (by omega), obs]
  by_cases h : isn_ l x = true
  · obtain ⟨t, g0, g1⟩ := isn_tree h
    obtain ⟨t0, t1⟩ := tree_len t
    have z0 := kidsAt_len l x 0 t1; have z1 := kidsAt_len l x 1 t1; have z2 := kidsAt_len l x 2 t1; have z3 := kidsAt_len l x 3 t1
    rw [if_pos h, if_pos h, skid0_eq l x 0 (by omega) (by omega) t0 t1 (K - (l.length + 1)) K (by omega) _ (by simp),
      show (0 : Int) + 1 = 1 by rfl, skid0_eq l x 1 (by omega) (by omega) t0 t1 (K - 2 * (l.length + 1)) _ (by omega) _ (by simp; omega),
      show (1 : Int) + 1 = 2 by rfl, skid0_eq l x 2 (by omega) (by omega) t0 t1 (K - 3 * (l.length + 1)) _ (by omega) _ (by simp; omega),
      show (2 : Int) + 1 = 3 by rfl, skid0_eq l x 3 (by omega) (by omega) t0 t1 (K - 4 * (l.length + 1)) _ (by omega) _ (by simp; omega)]
    obtain ⟨m, e⟩ : ∃ m, K - 4 * (l.length + 1) = m + 1 := ⟨K - 4 * (l.length + 1) - 1, by omega⟩
    rw [e]
    simp only [spec_ChildrenOf.l0]
    rw [if_neg (by omega)]
    simp
  · rw [if_neg h, if_neg h]
theorem kids_len (l : List ND) (x : Int) : (kids_ l x).length ≤ 48 := by
  unfold kids_
  split
  · rename_i h
    obtain ⟨t, _⟩ := isn_tree h
    have t1 := (tree_len t).2
    have z0 := kidsAt_len l x 0 t1; have z1 := kidsAt_len l x 1 t1; have z2 := kidsAt_len l x 2 t1; have z3 := kidsAt_len l x 3 t1
    simp; omega
  · simp
/-- The children in the order of their places. -/
def all_ (l : List ND) (x : Int) : List Int := ixs_ l (fun n => decide (n.f0 = x)) l.length 0
theorem ikid0_eq (l : List ND) (x : Int) (hl : l.length ≤ 12) : ∀ (d K i : Nat) (out : List Int), i + d = l.length → d < K → out.length + d ≤ 1000 → impl_ChildrenOf.l0 K x out l (l.length : Int) (i : Int) l = slices_SortFunc_int_int_impl_ChildrenOf_1.f (out ++ ixs_ l (fun n => decide (n.f0 = x)) d i) l := by
  intro d
  induction d with
  | zero =>
    intro K i out h hK ho
    obtain ⟨K, rfl⟩ : ∃ m, K = m + 1 := ⟨K - 1, by omega⟩
    simp only [impl_ChildrenOf.l0]
    rw [if_neg (by omega)]; simp [ixs_]
  | succ d ih =>
    intro K i out h hK ho
    obtain ⟨K, rfl⟩ : ∃ m, K = m + 1 := ⟨K - 1, by omega⟩
    simp only [impl_ChildrenOf.l0]
    rw [if_pos (by omega), if_pos (by omega), if_pos (by omega), ixs_succ, wr ((i : Int) + 1) (by omega) (by omega), show (i : Int) + 1 = ((i + 1 : Nat) : Int) by omega]
    by_cases a : (rd_T50 l (i : Int)).f0 = x
    · rw [if_pos a, if_pos (by omega), ih K (i + 1) _ (by omega) (by omega) (by simp; omega), if_pos (by simp [a])]
      simp
    · rw [if_neg a, ih K (i + 1) _ (by omega) (by omega) (by omega), if_neg (by simp [a])]
theorem any_take (l : List ND) (p : ND → Bool) (j i : Nat) (hi : i < j) (hj : j ≤ l.length) (h : (l.take j).any p = false) : p (rd_T50 l (i : Int)) = false := by
  rw [List.any_eq_false] at h
  have := h (rd_T50 l (i : Int)) (by rw [rd_inode l i (by omega)]; exact List.mem_take_iff_getElem.2 ⟨i, by omega, rfl⟩)
  simpa using this
theorem all_nodup (l : List ND) (h : tree_ l = true) (x : Int) (hx : 0 ≤ x) : ∀ d i, i + d = l.length → ((ixs_ l (fun n => decide (n.f0 = x)) d i).map (slices_SortFunc_int_int_impl_ChildrenOf_1.key l)).Nodup := by
  intro d
  induction d with
  | zero => intro i _; simp [ixs_]
  | succ d ih =>
    intro i hi
    rw [ixs_succ]
    split
    · rename_i hp
      rw [List.map_cons, List.nodup_cons]
      refine ⟨?_, ih (i + 1) (by omega)⟩
      intro hm
      obtain ⟨y, hy, e⟩ := List.mem_map.1 hm
      obtain ⟨y0, y1, y2⟩ := ixs_mem _ _ _ _ _ hy
      obtain ⟨j, rfl⟩ : ∃ j : Nat, y = (j : Int) := ⟨y.toNat, by omega⟩
      have hr := tree_row h j (by omega) (by omega)
      simp only [row_, Bool.and_eq_true, Bool.not_eq_true'] at hr
      have := any_take l _ j i (by omega) (by omega) hr.2.2.2.2
      simp only [sib_, slices_SortFunc_int_int_impl_ChildrenOf_1.key] at this e hp y2
      simp only [decide_eq_true_eq] at hp y2
      rw [y2, hp, e] at this
      simp at this
    · exact ih (i + 1) (by omega)
theorem ikids_eq (l : List ND) (x : Int) (hl : l.length ≤ 9223372036854775807) (K : Nat) (hK : 500 < K) : impl_ChildrenOf.f K l x = some (kids_ l x) := by
  unfold impl_ChildrenOf.f kids_
  rw [obs, isNode_eq l x hl K (by omega), obs]
  by_cases h : isn_ l x = true
  · obtain ⟨t, g0, g1⟩ := isn_tree h
    obtain ⟨t0, t1⟩ := tree_len t
    have hlen := ixs_len l (fun n => decide (n.f0 = x)) l.length 0
    have hw := ikid0_eq l x t1 l.length K 0 [] (by omega) (by omega) (by simp; omega)
    simp only [List.nil_append, Int.natCast_zero] at hw
    rw [if_pos h, if_pos h]
    refine Eq.trans hw ?_
    unfold slices_SortFunc_int_int_impl_ChildrenOf_1.f
    have hroot := tree_root t
    have hall : (ixs_ l (fun n => decide (n.f0 = x)) l.length 0).all (fun y => decide (0 ≤ y ∧ y < (l.length : Int) ∧ 0 ≤ slices_SortFunc_int_int_impl_ChildrenOf_1.key l y ∧ slices_SortFunc_int_int_impl_ChildrenOf_1.key l y ≤ 3)) = true := by
      rw [List.all_eq_true]
      intro y hy
      obtain ⟨y0, y1, y2⟩ := ixs_mem _ _ _ _ _ hy
      obtain ⟨j, rfl⟩ : ∃ j : Nat, y = (j : Int) := ⟨y.toNat, by omega⟩
      simp only [decide_eq_true_eq] at y2
      have hj : 0 < j := by
        rcases Nat.eq_zero_or_pos j with rfl | hj
        · rw [show ((0 : Nat) : Int) = 0 by rfl, hroot] at y2; omega
        · exact hj
      have hr := tree_row t j hj (by omega)
      simp only [row_, Bool.and_eq_true, decide_eq_true_eq] at hr
      simp only [slices_SortFunc_int_int_impl_ChildrenOf_1.key]
      exact decide_eq_true ⟨by omega, by omega, hr.2.2.1.1, hr.2.2.1.2⟩
    rw [if_pos (by
      rw [hall, decide_eq_true (all_nodup l t x g0 l.length 0 (by omega)), decide_eq_true (show (ixs_ l (fun n => decide (n.f0 = x)) l.length 0).length ≤ 12 by omega)]; rfl)]
    have hf : ∀ c : Int, (ixs_ l (fun n => decide (n.f0 = x)) l.length 0).filter (fun y => decide (slices_SortFunc_int_int_impl_ChildrenOf_1.key l y = c)) = kidsAt_ l x c := fun c => by
      have e := ixs_filter l (fun n => decide (n.f0 = x)) (fun n => decide (n.f1 = c)) l.length 0
      refine e.trans ?_
      obtain ⟨m, hm⟩ : ∃ m, l.length = m + 1 := ⟨l.length - 1, by omega⟩
      unfold kidsAt_
      rw [hm, ixs_succ, if_neg (by simp [hroot]; omega)]
      rfl
    rw [hf, hf, hf, hf]
  · rw [if_neg h, if_neg h]




theorem oc_eq (a : Int) : bits_OnesCount.f a = some (oc64 a) := rfl
theorem ipow_some (n : Int) : ∃ b, impl_IsPower.f n = some b := by
  unfold impl_IsPower.f
  rw [within_eq]
  simp only [Option.bind_some, oc_eq]
  split <;> exact ⟨_, rfl⟩
theorem ipow_eq (n : Nat) (h0 : 1 ≤ n) (h : n ≤ 32768) : impl_IsPower.f (n : Int) = some (pwF n) := by
  unfold impl_IsPower.f
  rw [within_eq, u64_of (by omega) (by omega)]
  simp only [Option.bind_some, oc_eq]
  rw [if_pos (by rw [decide_eq_true_iff]; omega), oc64_nat n (by omega), ← pop_pw n h0 h]
  congr 1
  rw [Bool.eq_iff_iff, beq_iff_eq, beq_iff_eq]
  omega
theorem shl_one (j : Nat) (h : j ≤ 20) : shl .i64 1 (j : Int) = ((2 ^ j : Nat) : Int) := by
  unfold shl
  rw [show min ((j : Int)).toNat IntKind.i64.bits = j by simp [IntKind.bits]; omega]
  have h2 : 2 ^ j ≤ 2 ^ 20 := Nat.pow_le_pow_right (by decide) h
  rw [Go.IntKind.wrap_i64]
  have h3 : (1 : Int) * 2 ^ j = ((2 ^ j : Nat) : Int) := by rw [Int.one_mul]; norm_cast
  rw [h3]
  have h4 : (2 : Nat) ^ 20 = 1048576 := by decide
  generalize 2 ^ j = p at *
  omega
theorem spow_l0 (n : Int) : ∀ d k (j : Nat), j + d = 21 → d < k → ∃ b, spec_IsPower.l0 k n (j : Int) = some b ∧ (b = true ↔ ∃ i : Nat, j ≤ i ∧ i ≤ 20 ∧ n = ((2 ^ i : Nat) : Int)) := by
  intro d
  induction d with
  | zero =>
    intro k j hj hk
    obtain ⟨k, rfl⟩ : ∃ m, k = m + 1 := ⟨k - 1, by omega⟩
    simp only [spec_IsPower.l0]
    rw [if_neg (by omega)]
    refine ⟨false, rfl, ⟨fun h => absurd h (by decide), ?_⟩⟩
    rintro ⟨i, h1, h2, _⟩
    omega
  | succ d ih =>
    intro k j hj hk
    obtain ⟨k, rfl⟩ : ∃ m, k = m + 1 := ⟨k - 1, by omega⟩
    simp only [spec_IsPower.l0]
    rw [if_pos (by omega), if_pos (by omega), shl_one j (by omega)]
    by_cases e : n = ((2 ^ j : Nat) : Int)
    · rw [if_pos e]
      exact ⟨true, rfl, ⟨fun _ => ⟨j, by omega, by omega, e⟩, fun _ => rfl⟩⟩
    · rw [if_neg e, wr _ (by omega) (by omega)]
      obtain ⟨b, hb, hi⟩ := ih k (j + 1) (by omega) (by omega)
      refine ⟨b, hb, hi.trans ⟨?_, ?_⟩⟩
      · rintro ⟨i, h1, h2, h3⟩
        exact ⟨i, by omega, h2, h3⟩
      · rintro ⟨i, h1, h2, h3⟩
        refine ⟨i, ?_, h2, h3⟩
        by_cases e2 : i = j
        · subst e2; exact absurd h3 e
        · omega
theorem spow_some (k : Nat) (hk : 21 < k) (n : Int) : ∃ b, spec_IsPower.f k n = some b := by
  obtain ⟨b, hb, _⟩ := spow_l0 n 21 k 0 (by omega) hk
  exact ⟨b, hb⟩
theorem spow_eq (k : Nat) (hk : 21 < k) (n : Nat) (h0 : 1 ≤ n) (h : n ≤ 1048576) : spec_IsPower.f k (n : Int) = some (pwF n) := by
  obtain ⟨b, hb, hi⟩ := spow_l0 (n : Int) 21 k 0 (by omega) hk
  have h2 : spec_IsPower.f k (n : Int) = spec_IsPower.l0 k (n : Int) ((0 : Nat) : Int) := rfl
  rw [h2, hb]
  congr 1
  rw [Bool.eq_iff_iff, hi, pwF_iff n h0 h]
  constructor
  · rintro ⟨i, _, h3, h4⟩
    exact ⟨i, h3, by exact_mod_cast h4⟩
  · rintro ⟨i, h3, h4⟩
    exact ⟨i, by omega, h3, by exact_mod_cast h4⟩


/-- The size n of a device, of a node with f functions. -/
def szT (f n : Int) : Bool := decide (n = 0) || (!decide (f = 0) && (decide (16 ≤ n ∧ n ≤ 4096) && pwF n.toNat))
def szs_ (l : List ND) (s : List Int) : Nat → Nat → Bool
  | 0, _ => true
  | d + 1, k => szT (rd_T50 l (k : Int)).f2 (rd s (k : Int)) && szs_ l s d (k + 1)
theorem szs_succ (l : List ND) (s : List Int) (d k : Nat) : szs_ l s (d + 1) k = (szT (rd_T50 l (k : Int)).f2 (rd s (k : Int)) && szs_ l s d (k + 1)) := rfl
def sizesOk_ (l : List ND) (s : List Int) : Bool := tree_ l && (decide (s.length = l.length) && szs_ l s l.length 0)
theorem bridge_eq (l : List ND) (i : Nat) (h : i < l.length) : impl_isBridge.f l (i : Int) = some ((rd_T50 l (i : Int)).f2 == 0) := by
  unfold impl_isBridge.f
  rw [if_pos (by omega), if_pos (by omega)]


theorem ssz_step (k : Nat) (hk : 21 < k) (f n : Int) (X : Option Bool) : (if n = 0 then X else (if f = 0 then (some false) else ((spec_IsPower.f k n).bind fun t133 => (if t133 = true then ((spec_l01In.f n 16 4096).bind fun t135 => (if t135 = true then X else (some false))) else (some false))))) = if szT f n = true then X else some false := by
  unfold szT
  by_cases h0 : n = 0
  · simp [h0]
  · rw [if_neg h0]
    by_cases h1 : f = 0
    · simp [h0, h1]
    · rw [if_neg h1, l01In_eq]
      by_cases h2 : 16 ≤ n ∧ n ≤ 4096
      · obtain ⟨m, rfl⟩ := Int.eq_ofNat_of_zero_le (show 0 ≤ n by omega)
        rw [spow_eq k hk m (by omega) (by omega)]
        simp only [obs, decide_eq_true h2, decide_eq_false h0, decide_eq_false h1, if_true, Bool.false_or, Bool.not_false, Bool.true_and, Int.toNat_natCast]
      · obtain ⟨b, hb⟩ := spow_some k hk n
        rw [hb]
        simp only [obs, decide_eq_false h2, decide_eq_false h0, Bool.false_and, Bool.and_false, Bool.false_or, Bool.false_eq_true, if_false]
        split <;> rfl
theorem ssz_eq (l : List ND) (s : List Int) (hs : s.length = l.length) (hl : l.length ≤ 12) : ∀ d K k, k + d = l.length → d + 30 < K → spec_SizesOk.l0 K l s (k : Int) = some (szs_ l s d k) := by
  intro d
  induction d with
  | zero =>
    intro K k hk hK
    obtain ⟨K, rfl⟩ : ∃ m, K = m + 1 := ⟨K - 1, by omega⟩
    simp only [spec_SizesOk.l0]
    rw [if_neg (by omega)]; rfl
  | succ d ih =>
    intro K k hk hK
    obtain ⟨K, rfl⟩ : ∃ m, K = m + 1 := ⟨K - 1, by omega⟩
    simp only [spec_SizesOk.l0]
    rw [if_pos (by omega), if_pos (by omega), if_pos (by omega), wr ((k : Int) + 1) (by omega) (by omega), show (k : Int) + 1 = ((k + 1 : Nat) : Int) by omega, ih K (k + 1) (by omega) (by omega), ssz_step K (by omega)]
    rw [szs_succ]
    cases szT (rd_T50 l (k : Int)).f2 (rd s (k : Int)) <;> simp
theorem ssizes_eq (l : List ND) (s : List Int) (hl : l.length ≤ 9223372036854775807) (K : Nat) (hK : 200 < K) : spec_SizesOk.f K l s = some (sizesOk_ l s) := by
  obtain ⟨K, rfl⟩ : ∃ m, K = m + 1 := ⟨K - 1, by omega⟩
  unfold spec_SizesOk.f sizesOk_
  rw [stree_eq l hl _ hK, obs]
  simp only [spec_SizesOk.j0]
  cases h : tree_ l
  · simp
  · have := tree_len h
    rw [if_pos rfl]
    by_cases e : s.length = l.length
    · rw [if_neg (by simp [e])]
      have h2 := ssz_eq l s e (by omega) l.length K 0 (by omega) (by omega)
      simp only [decide_eq_true e, Bool.true_and]
      exact h2
    · rw [if_pos (by simp; omega)]; simp [e]



theorem isz_step (g : Bool) (f n : Int) (hg : g = (f == 0)) (X : Option Bool) : (if n = 0 then X else ((some g).bind fun t164 => (if t164 = true then (some false) else ((impl_IsPower.f n).bind fun t165 => (if t165 = true then ((impl_within.f n 16 4096).bind fun t166 => (if t166 = true then X else (some false))) else (some false)))))) = if szT f n = true then X else some false := by
  unfold szT
  by_cases h0 : n = 0
  · simp [h0]
  · rw [if_neg h0, obs, hg]
    by_cases h1 : f = 0
    · simp [h0, h1]
    · rw [if_neg (by simpa using h1), within_eq]
      by_cases h2 : 16 ≤ n ∧ n ≤ 4096
      · obtain ⟨m, rfl⟩ := Int.eq_ofNat_of_zero_le (show 0 ≤ n by omega)
        rw [ipow_eq m (by omega) (by omega)]
        simp only [obs, decide_eq_true h2, decide_eq_false h0, decide_eq_false h1, if_true, Bool.false_or, Bool.not_false, Bool.true_and, Int.toNat_natCast]
      · obtain ⟨b, hb⟩ := ipow_some n
        rw [hb]
        simp only [obs, decide_eq_false h2, decide_eq_false h0, Bool.false_and, Bool.and_false, Bool.false_or, Bool.false_eq_true, if_false]
        split <;> rfl
theorem isz_eq (l : List ND) (s : List Int) (hs : s.length = l.length) (hl : l.length ≤ 12) : ∀ d K k, k + d = l.length → d + 30 < K → impl_SizesOk.l0 K l s (s.length : Int) (k : Int) = some (szs_ l s d k) := by
  intro d
  induction d with
  | zero =>
    intro K k hk hK
    obtain ⟨K, rfl⟩ : ∃ m, K = m + 1 := ⟨K - 1, by omega⟩
    simp only [impl_SizesOk.l0]
    rw [if_neg (by omega)]; rfl
  | succ d ih =>
    intro K k hk hK
    obtain ⟨K, rfl⟩ : ∃ m, K = m + 1 := ⟨K - 1, by omega⟩
    simp only [impl_SizesOk.l0]
    rw [if_pos (by omega), if_pos (by omega), if_pos (by omega), wr ((k : Int) + 1) (by omega) (by omega), show (k : Int) + 1 = ((k + 1 : Nat) : Int) by omega, ih K (k + 1) (by omega) (by omega), bridge_eq l k (by omega), isz_step _ _ _ rfl]
    rw [szs_succ]
    cases szT (rd_T50 l (k : Int)).f2 (rd s (k : Int)) <;> simp
theorem isizes_eq (l : List ND) (s : List Int) (hl : l.length ≤ 9223372036854775807) (K : Nat) (hK : 200 < K) : impl_SizesOk.f K l s = some (sizesOk_ l s) := by
  obtain ⟨K, rfl⟩ : ∃ m, K = m + 1 := ⟨K - 1, by omega⟩
  unfold impl_SizesOk.f sizesOk_
  rw [itree_eq l hl _ hK, obs]
  simp only [impl_SizesOk.j0]
  cases h : tree_ l
  · simp
  · have := tree_len h
    rw [if_pos rfl]
    by_cases e : s.length = l.length
    · rw [if_neg (by simp [e])]
      have h2 := isz_eq l s e (by omega) l.length K 0 (by omega) (by omega)
      simp only [decide_eq_true e, Bool.true_and]
      exact h2
    · rw [if_pos (by simp; omega)]; simp [e]

theorem tree_f2 {l : List ND} (h : tree_ l = true) (j : Nat) (h1 : j < l.length) : 0 ≤ (rd_T50 l (j : Int)).f2 ∧ (rd_T50 l (j : Int)).f2 ≤ 4 := by
  by_cases hj : j = 0
  · subst hj
    simp only [tree_, root_, Bool.and_eq_true, decide_eq_true_eq, beq_iff_eq] at h
    have e : (((0 : Nat) : Int)) = 0 := rfl
    rw [e, h.2.1.2.2]; omega
  · have := tree_row h j (by omega) h1
    simp only [row_, Bool.and_eq_true, decide_eq_true_eq] at this
    exact this.2.2.2.1

/-- The least p * 2^i that is no less than s, i at most j. -/
def pgo_ : Nat → Int → Int → Int
  | 0, p, _ => p
  | j + 1, p, s => if p < s then pgo_ j (p * 2) s else p
def np_ (s : Int) : Int := if s = 0 then 0 else pgo_ 24 1 s
/-- The size of the window of node k. -/
def win_ (l : List ND) (s : List Int) : Nat → Int → Int
  | 0, _ => 0
  | n + 1, k => if (rd_T50 l k).f2 > 0 then rd s k else np_ (((kids_ l k).map (win_ l s n)).sum)
theorem pgo_succ (j : Nat) (p s : Int) : pgo_ (j + 1) p s = if p < s then pgo_ j (p * 2) s else p := rfl
theorem win_succ (l : List ND) (s : List Int) (n : Nat) (k : Int) : win_ l s (n + 1) k = if (rd_T50 l k).f2 > 0 then rd s k else np_ (((kids_ l k).map (win_ l s n)).sum) := rfl
theorem one_le_pow (m : Nat) : (1 : Int) ≤ 2 ^ m := by
  have h : (0 : Int) < 2 ^ m := Int.pow_pos (by omega)
  omega
theorem pgo_le (s B : Int) (hs : s ≤ B) : ∀ (j m : Nat) (p : Int), 0 < p → p * 2 ^ m = B → pgo_ j p s ≤ B := by
  intro j
  induction j with
  | zero =>
    intro m p hp hB
    have h1 : (1 : Int) ≤ 2 ^ m := one_le_pow m
    have : p * 1 ≤ p * 2 ^ m := Int.mul_le_mul_of_nonneg_left h1 (by omega)
    unfold pgo_; omega
  | succ j ih =>
    intro m p hp hB
    rw [pgo_succ]
    split
    · rename_i h
      cases m with
      | zero => simp at hB; omega
      | succ m => exact ih m (p * 2) (by omega) (by rw [← hB, Int.pow_succ]; rw [Int.mul_assoc, Int.mul_comm 2 (2 ^ m)])
    · have h1 : (1 : Int) ≤ 2 ^ m := one_le_pow m
      have : p * 1 ≤ p * 2 ^ m := Int.mul_le_mul_of_nonneg_left h1 (by omega)
      omega
theorem pgo_pos (s : Int) : ∀ (j : Nat) (p : Int), 0 < p → 0 < pgo_ j p s ∧ p ≤ pgo_ j p s := by
  intro j
  induction j with
  | zero => intro p hp; unfold pgo_; omega
  | succ j ih =>
    intro p hp
    rw [pgo_succ]; split
    · have := ih (p * 2) (by omega); omega
    · omega
theorem spgo_eq (s : Int) (hs : s ≤ 8388608) : ∀ (j K : Nat) (p : Int), 0 < p → p ≤ 16777216 → 8388608 ≤ p * 2 ^ j → j < K → spec_l24Window.l1 K s p = some (mn (pgo_ (j + 1) p s) (wrap64 (s * pgo_ (j + 1) p s))) := by
  intro j
  induction j with
  | zero =>
    intro K p hp hp' h hK
    obtain ⟨K, rfl⟩ : ∃ m, K = m + 1 := ⟨K - 1, by omega⟩
    simp only [spec_l24Window.l1]
    rw [if_neg (by simp at h; omega), pgo_succ, if_neg (by simp at h; omega)]
  | succ j ih =>
    intro K p hp hp' h hK
    obtain ⟨K, rfl⟩ : ∃ m, K = m + 1 := ⟨K - 1, by omega⟩
    simp only [spec_l24Window.l1]
    rw [pgo_succ]
    by_cases e : p < s
    · rw [if_pos e, if_pos e, wr (p * 2) (by omega) (by omega)]
      exact ih K (p * 2) (by omega) (by omega) (by rw [Int.pow_succ, Int.mul_comm (2 ^ j) 2, ← Int.mul_assoc] at h; exact h) (by omega)
    · rw [if_neg e, if_neg e]
theorem ipgo_eq (s : Int) (hs : s ≤ 8388608) : ∀ (j K : Nat) (p : Int), 0 < p → p ≤ 16777216 → 8388608 ≤ p * 2 ^ j → j < K → impl_windowSize.l1 K s p = some (pgo_ (j + 1) p s) := by
  intro j
  induction j with
  | zero =>
    intro K p hp hp' h hK
    obtain ⟨K, rfl⟩ : ∃ m, K = m + 1 := ⟨K - 1, by omega⟩
    simp only [impl_windowSize.l1]
    rw [if_neg (by simp at h; omega), pgo_succ, if_neg (by simp at h; omega)]
  | succ j ih =>
    intro K p hp hp' h hK
    obtain ⟨K, rfl⟩ : ∃ m, K = m + 1 := ⟨K - 1, by omega⟩
    simp only [impl_windowSize.l1]
    rw [pgo_succ]
    by_cases e : p < s
    · rw [if_pos e, if_pos e, wr (p * 2) (by omega) (by omega)]
      exact ih K (p * 2) (by omega) (by omega) (by rw [Int.pow_succ, Int.mul_comm (2 ^ j) 2, ← Int.mul_assoc] at h; exact h) (by omega)
    · rw [if_neg e, if_neg e]
theorem snp_eq (s : Int) (h0 : 0 ≤ s) (hs : s ≤ 8388608) (K : Nat) (hK : 40 < K) : spec_l24Window.l1 K s 1 = some (np_ s) := by
  rw [spgo_eq s hs 23 K 1 (by omega) (by omega) (by decide) (by omega), show 23 + 1 = 24 from rfl]
  unfold np_
  have hp := pgo_pos s 24 1 (by omega)
  have hb := pgo_le s 8388608 hs 24 23 1 (by omega) (by decide)
  by_cases e : s = 0
  · rw [if_pos e, e, Int.zero_mul, wr 0 (by omega) (by omega)]
    rw [e] at hp
    unfold mn; rw [if_pos (by omega)]
  · rw [if_neg e]
    have h1 : 1 * pgo_ 24 1 s ≤ s * pgo_ 24 1 s := Int.mul_le_mul_of_nonneg_right (by omega) (by omega)
    have h2 : s * pgo_ 24 1 s ≤ 8388608 * pgo_ 24 1 s := Int.mul_le_mul_of_nonneg_right (by omega) (by omega)
    rw [wr _ (by omega) (by omega)]
    unfold mn; congr 1; split <;> omega
theorem inp_eq (s : Int) (h0 : 0 ≤ s) (hs : s ≤ 8388608) (K : Nat) (hK : 40 < K) : (if s = 0 then (some 0) else (impl_windowSize.l1 K s 1)) = some (np_ s) := by
  unfold np_
  by_cases e : s = 0
  · rw [if_pos e, if_pos e]
  · rw [if_neg e, if_neg e, ipgo_eq s hs 23 K 1 (by omega) (by omega) (by decide) (by omega)]
/-- The bound of a window at place y. -/
def bd_ (y : Int) : Int := 2 ^ (11 - y.toNat) * 4096
theorem bd_half (y : Int) (h0 : 0 ≤ y) (h1 : y < 11) : bd_ y = bd_ (y + 1) * 2 := by
  unfold bd_
  rw [show 11 - y.toNat = (11 - (y + 1).toNat) + 1 by omega, Int.pow_succ]
  rw [Int.mul_assoc, Int.mul_assoc]; rfl
theorem bd_pos (y : Int) : 4096 ≤ bd_ y := by
  unfold bd_
  have h1 : (1 : Int) ≤ 2 ^ (11 - y.toNat) := one_le_pow _
  omega
theorem bd_le (y : Int) : bd_ y ≤ 8388608 := by
  unfold bd_
  have h1 : (2 : Int) ^ (11 - y.toNat) ≤ 2 ^ 11 := by exact_mod_cast Nat.pow_le_pow_right (by omega) (by omega)
  have h2 : (2 : Int) ^ 11 = 2048 := by decide
  omega
theorem bsum_le (l : List ND) (x : Int) (hl : l.length ≤ 12) : ∀ d i, i + d = l.length → ((ixs_ l (kid_ x 0) d i).map bd_).sum + ((ixs_ l (kid_ x 1) d i).map bd_).sum + ((ixs_ l (kid_ x 2) d i).map bd_).sum + ((ixs_ l (kid_ x 3) d i).map bd_).sum ≤ (if i < 12 then 2 * bd_ (i : Int) - 4096 else 0) := by
  intro d
  induction d with
  | zero => intro i h; have := bd_pos (i : Int); simp [ixs_]; split <;> omega
  | succ d ih =>
    intro i h
    have h1 := ih (i + 1) (by omega)
    have hb : (if i + 1 < 12 then 2 * bd_ ((i + 1 : Nat) : Int) - 4096 else 0) ≤ bd_ (i : Int) - 4096 := by
      split
      · have := bd_half (i : Int) (by omega) (by omega); rw [show ((i + 1 : Nat) : Int) = (i : Int) + 1 by omega]; omega
      · have := bd_pos (i : Int); omega
    have hp := bd_pos (i : Int)
    rw [if_pos (by omega), ixs_succ, ixs_succ, ixs_succ, ixs_succ]
    simp only [kid_]
    by_cases a : (rd_T50 l (i : Int)).f0 = x
    · by_cases b0 : (rd_T50 l (i : Int)).f1 = 0
      · simp [a, b0]; omega
      · by_cases b1 : (rd_T50 l (i : Int)).f1 = 1
        · simp [a, b1]; omega
        · by_cases b2 : (rd_T50 l (i : Int)).f1 = 2
          · simp [a, b2]; omega
          · by_cases b3 : (rd_T50 l (i : Int)).f1 = 3
            · simp [a, b3]; omega
            · simp [a, b0, b1, b2, b3]; omega
    · simp [a]; omega
theorem ixs_skip (l : List ND) (p : ND → Bool) : ∀ e d i, (∀ j : Nat, i ≤ j → j < i + e → p (rd_T50 l (j : Int)) = false) → ixs_ l p (e + d) i = ixs_ l p d (i + e) := by
  intro e
  induction e with
  | zero => intro d i _; rw [Nat.zero_add]; rfl
  | succ e ih =>
    intro d i h
    rw [show e + 1 + d = (e + d) + 1 by omega, ixs_succ, if_neg (by rw [h i (by omega) (by omega)]; simp), ih d (i + 1) (fun j h1 h2 => h j (by omega) (by omega))]
    rw [show i + 1 + e = i + (e + 1) by omega]
theorem kidsAt_skip (l : List ND) (h : tree_ l = true) (x c : Int) (h0 : 0 ≤ x) (h1 : x < (l.length : Int)) : kidsAt_ l x c = ixs_ l (kid_ x c) (l.length - 1 - x.toNat) (x.toNat + 1) := by
  unfold kidsAt_
  rw [show l.length - 1 = x.toNat + (l.length - 1 - x.toNat) by omega, ixs_skip l _ x.toNat _ 1 (fun j h2 h3 => by
    have := tree_parent h j (by omega) (by omega)
    unfold kid_
    rw [decide_eq_false (by omega)]; rfl)]
  rw [show x.toNat + (l.length - 1 - x.toNat) - x.toNat = l.length - 1 - x.toNat by omega, Nat.add_comm 1]
theorem kids_mem (l : List ND) (h : tree_ l = true) (x y : Int) (h0 : 0 ≤ x) (h1 : x < (l.length : Int)) (hy : y ∈ kids_ l x) : x < y ∧ y < (l.length : Int) := by
  have hk : ∀ c, y ∈ kidsAt_ l x c → x < y ∧ y < (l.length : Int) := fun c hc => by
    rw [kidsAt_skip l h x c h0 h1] at hc
    have := ixs_mem _ _ _ _ _ hc
    omega
  unfold kids_ at hy
  split at hy
  · rcases List.mem_append.1 hy with hy | hy
    · exact hk 0 hy
    · rcases List.mem_append.1 hy with hy | hy
      · exact hk 1 hy
      · rcases List.mem_append.1 hy with hy | hy
        · exact hk 2 hy
        · exact hk 3 hy
  · simp at hy
theorem kids_bd (l : List ND) (h : tree_ l = true) (x : Int) (h0 : 0 ≤ x) (h1 : x < (l.length : Int)) : ((kids_ l x).map bd_).sum ≤ bd_ x := by
  have t := (tree_len h).2
  have hi : isn_ l x = true := by simp [isn_, h]; omega
  have hs := bsum_le l x t (l.length - 1 - x.toNat) (x.toNat + 1) (by omega)
  unfold kids_
  rw [if_pos hi, kidsAt_skip l h x 0 h0 h1, kidsAt_skip l h x 1 h0 h1, kidsAt_skip l h x 2 h0 h1, kidsAt_skip l h x 3 h0 h1]
  simp only [List.map_append, List.sum_append]
  have hp := bd_pos x
  split at hs
  · have := bd_half x h0 (by omega)
    rw [show ((x.toNat + 1 : Nat) : Int) = x + 1 by omega] at hs
    omega
  · omega
theorem sum_le (f g : Int → Int) : ∀ ks : List Int, (∀ y ∈ ks, 0 ≤ f y ∧ f y ≤ g y) → 0 ≤ (ks.map f).sum ∧ (ks.map f).sum ≤ (ks.map g).sum := by
  intro ks
  induction ks with
  | nil => intro _; simp
  | cons a t ih =>
    intro h
    have := ih (fun y hy => h y (List.mem_cons_of_mem _ hy))
    have := h a (List.mem_cons_self)
    simp only [List.map_cons, List.sum_cons]; omega
theorem szs_at (l : List ND) (s : List Int) : ∀ d k j, szs_ l s d k = true → k ≤ j → j < k + d → szT (rd_T50 l (j : Int)).f2 (rd s (j : Int)) = true := by
  intro d
  induction d with
  | zero => intro k j _ _ _; omega
  | succ d ih =>
    intro k j h h1 h2
    rw [szs_succ, Bool.and_eq_true] at h
    by_cases e : j = k
    · subst e; exact h.1
    · exact ih (k + 1) j h.2 (by omega) (by omega)
theorem sizes_at {l : List ND} {s : List Int} (h : sizesOk_ l s = true) (x : Int) (h0 : 0 ≤ x) (h1 : x < (l.length : Int)) : 0 ≤ rd s x ∧ rd s x ≤ 4096 := by
  simp only [sizesOk_, Bool.and_eq_true, decide_eq_true_eq] at h
  obtain ⟨j, rfl⟩ : ∃ j : Nat, x = (j : Int) := ⟨x.toNat, by omega⟩
  have := szs_at l s l.length 0 j h.2.2 (by omega) (by omega)
  simp only [szT, Bool.or_eq_true, Bool.and_eq_true, decide_eq_true_eq] at this
  omega
theorem sizes_tree {l : List ND} {s : List Int} (h : sizesOk_ l s = true) : tree_ l = true ∧ s.length = l.length := by
  simp only [sizesOk_, Bool.and_eq_true, decide_eq_true_eq] at h; exact ⟨h.1, h.2.1⟩
theorem win_bd {l : List ND} {s : List Int} (h : sizesOk_ l s = true) : ∀ (n : Nat) (x : Int), 0 ≤ x → x < (l.length : Int) → 0 ≤ win_ l s n x ∧ win_ l s n x ≤ bd_ x := by
  intro n
  induction n with
  | zero => intro x h0 h1; have := bd_pos x; unfold win_; omega
  | succ n ih =>
    intro x h0 h1
    have t := (sizes_tree h).1
    have hp := bd_pos x
    rw [win_succ]
    split
    · have := sizes_at h x h0 h1; omega
    · have hs := sum_le (win_ l s n) bd_ (kids_ l x) (fun y hy => by have := kids_mem l t x y h0 h1 hy; exact ih y (by omega) (by omega))
      have hk := kids_bd l t x h0 h1
      unfold np_
      split
      · omega
      · have h2 := (pgo_pos ((kids_ l x).map (win_ l s n)).sum 24 1 (by omega)).1
        have h3 := pgo_le ((kids_ l x).map (win_ l s n)).sum (bd_ x) (by omega) 24 (11 - x.toNat + 12) 1 (by omega) (by unfold bd_; rw [Int.pow_add, Int.one_mul]; rfl)
        omega
theorem drop_sum (f : Int → Int) (ks : List Int) (i : Nat) (h : i < ks.length) : ((ks.drop i).map f).sum = f ks[i] + ((ks.drop (i + 1)).map f).sum := by
  rw [List.drop_eq_getElem_cons h, List.map_cons, List.sum_cons]
theorem drop_sum_nn (f : Int → Int) (ks : List Int) (h : ∀ y ∈ ks, 0 ≤ f y) (i : Nat) : 0 ≤ ((ks.drop i).map f).sum :=
  (sum_le f f (ks.drop i) (fun y hy => ⟨h y (List.mem_of_mem_drop hy), Int.le_refl _⟩)).1
theorem swl_eq (l : List ND) (s : List Int) (ks : List Int) (f : Int → Int) (R : Nat) (hR : 100 < R) (hn : ks.length ≤ 48) (hf : ∀ y ∈ ks, 0 ≤ f y ∧ ∀ k, R ≤ k → spec_l24Window.f k l s y = some (f y)) : ∀ d K i (acc : Int), i + d = ks.length → d + R < K → 0 ≤ acc → acc + ((ks.drop i).map f).sum ≤ 8388608 → spec_l24Window.l0 K l s ks acc (i : Int) = some (np_ (acc + ((ks.drop i).map f).sum)) := by
  intro d
  induction d with
  | zero =>
    intro K i acc hi hK ha hb
    obtain ⟨K, rfl⟩ : ∃ m, K = m + 1 := ⟨K - 1, by omega⟩
    simp only [spec_l24Window.l0]
    rw [List.drop_of_length_le (by omega)] at hb ⊢
    simp only [List.map_nil, List.sum_nil, Int.add_zero] at hb ⊢
    rw [if_neg (by omega), snp_eq acc ha hb K (by omega)]
  | succ d ih =>
    intro K i acc hi hK ha hb
    obtain ⟨K, rfl⟩ : ∃ m, K = m + 1 := ⟨K - 1, by omega⟩
    have hm := hf ks[i] (List.getElem_mem (by omega))
    have hs := drop_sum f ks i (by omega)
    have hnn := drop_sum_nn f ks (fun y hy => (hf y hy).1) (i + 1)
    simp only [spec_l24Window.l0]
    rw [if_pos (by omega), if_pos (by omega), rd_nat ks i (by omega), hm.2 K (by omega), obs, wr (acc + f ks[i]) (by omega) (by omega), wr ((i : Int) + 1) (by omega) (by omega), show (i : Int) + 1 = ((i + 1 : Nat) : Int) by omega,
      ih K (i + 1) _ (by omega) (by omega) (by omega) (by omega), hs, Int.add_assoc]
theorem iwl_eq (l : List ND) (s : List Int) (x0 : Int) (ks : List Int) (f : Int → Int) (R : Nat) (hR : 100 < R) (hn : ks.length ≤ 48) (hf : ∀ y ∈ ks, 0 ≤ f y ∧ ∀ k, R ≤ k → impl_windowSize.f k l s y = some (f y)) : ∀ d K i (acc : Int), i + d = ks.length → d + R < K → 0 ≤ acc → acc + ((ks.drop i).map f).sum ≤ 8388608 → impl_windowSize.l0 K l s acc ks (ks.length : Int) (i : Int) = some (np_ (acc + ((ks.drop i).map f).sum)) := by
  intro d
  induction d with
  | zero =>
    intro K i acc hi hK ha hb
    obtain ⟨K, rfl⟩ : ∃ m, K = m + 1 := ⟨K - 1, by omega⟩
    simp only [impl_windowSize.l0]
    rw [List.drop_of_length_le (by omega)] at hb ⊢
    simp only [List.map_nil, List.sum_nil, Int.add_zero] at hb ⊢
    rw [if_neg (by omega), inp_eq acc ha hb K (by omega)]
  | succ d ih =>
    intro K i acc hi hK ha hb
    obtain ⟨K, rfl⟩ : ∃ m, K = m + 1 := ⟨K - 1, by omega⟩
    have hm := hf ks[i] (List.getElem_mem (by omega))
    have hs := drop_sum f ks i (by omega)
    have hnn := drop_sum_nn f ks (fun y hy => (hf y hy).1) (i + 1)
    simp only [impl_windowSize.l0]
    rw [if_pos (by omega), if_pos (by omega), if_pos (by omega), rd_nat ks i (by omega), hm.2 K (by omega), obs, wr (acc + f ks[i]) (by omega) (by omega), wr ((i : Int) + 1) (by omega) (by omega), show (i : Int) + 1 = ((i + 1 : Nat) : Int) by omega,
      ih K (i + 1) _ (by omega) (by omega) (by omega) (by omega), hs, Int.add_assoc]
theorem swin_eq {l : List ND} {s : List Int} (h : sizesOk_ l s = true) : ∀ (n : Nat) (x : Int) (K : Nat), 0 ≤ x → x < (l.length : Int) → (l.length : Int) - x ≤ (n : Int) → 700 + 100 * n < K → spec_l24Window.f K l s x = some (win_ l s n x) := by
  intro n
  induction n with
  | zero => intro x K h0 h1 h2 hK; omega
  | succ n ih =>
    intro x K h0 h1 h2 hK
    obtain ⟨K, rfl⟩ : ∃ m, K = m + 1 := ⟨K - 1, by omega⟩
    obtain ⟨t, hsl⟩ := sizes_tree h
    have tl := tree_len t
    have hb := bd_le x
    rw [win_succ]
    simp only [spec_l24Window.f]
    rw [if_pos h0, if_pos h1]
    split
    · rw [if_pos (by omega)]
    · rw [skids_eq l x (by omega) K (by omega), obs]
      have hs := sum_le (win_ l s n) bd_ (kids_ l x) (fun y hy => by have := kids_mem l t x y h0 h1 hy; exact win_bd h n y (by omega) (by omega))
      have hk := kids_bd l t x h0 h1
      have hl := kids_len l x
      have e := swl_eq l s (kids_ l x) (win_ l s n) (701 + 100 * n) (by omega) hl (fun y hy => by
        have := kids_mem l t x y h0 h1 hy
        exact ⟨(win_bd h n y (by omega) (by omega)).1, fun k hk => ih y k (by omega) (by omega) (by omega) (by omega)⟩) (kids_ l x).length K 0 0 (by omega) (by omega) (by omega) (by rw [List.drop_zero]; omega)
      rw [List.drop_zero, Int.zero_add] at e
      exact e
theorem iwin_eq {l : List ND} {s : List Int} (h : sizesOk_ l s = true) : ∀ (n : Nat) (x : Int) (K : Nat), 0 ≤ x → x < (l.length : Int) → (l.length : Int) - x ≤ (n : Int) → 700 + 100 * n < K → impl_windowSize.f K l s x = some (win_ l s n x) := by
  intro n
  induction n with
  | zero => intro x K h0 h1 h2 hK; omega
  | succ n ih =>
    intro x K h0 h1 h2 hK
    obtain ⟨K, rfl⟩ : ∃ m, K = m + 1 := ⟨K - 1, by omega⟩
    obtain ⟨t, hsl⟩ := sizes_tree h
    have tl := tree_len t
    have hb := bd_le x
    obtain ⟨j, rfl⟩ : ∃ j : Nat, x = (j : Int) := ⟨x.toNat, by omega⟩
    have f2 := tree_f2 t j (by omega)
    rw [win_succ]
    simp only [impl_windowSize.f]
    rw [bridge_eq l j (by omega), obs]
    by_cases g : (rd_T50 l (j : Int)).f2 > 0
    · rw [if_neg (by simp; omega), if_pos h0, if_pos (by omega), if_pos g]
    · rw [if_pos (by simp; omega), if_neg g, ikids_eq l _ (by omega) K (by omega), obs]
      have hs := sum_le (win_ l s n) bd_ (kids_ l (j : Int)) (fun y hy => by have := kids_mem l t _ y h0 h1 hy; exact win_bd h n y (by omega) (by omega))
      have hk := kids_bd l t _ h0 h1
      have hl := kids_len l (j : Int)
      have e := iwl_eq l s 0 (kids_ l (j : Int)) (win_ l s n) (701 + 100 * n) (by omega) hl (fun y hy => by
        have := kids_mem l t _ y h0 h1 hy
        exact ⟨(win_bd h n y (by omega) (by omega)).1, fun k hk => ih y k (by omega) (by omega) (by omega) (by omega)⟩) (kids_ l (j : Int)).length K 0 0 (by omega) (by omega) (by omega) (by rw [List.drop_zero]; omega)
      rw [List.drop_zero, Int.zero_add] at e
      exact e
def window_ (l : List ND) (s : List Int) (x : Int) : Int := if sizesOk_ l s = true then (if 0 ≤ x ∧ x ≤ (l.length : Int) - 1 then win_ l s 12 x else -1) else -1

theorem swindow_eq (l : List ND) (s : List Int) (x : Int) (hl : l.length ≤ 9223372036854775807) (K : Nat) (hK : 2500 < K) : spec_WindowSize.f K l s x = some (window_ l s x) := by
  unfold spec_WindowSize.f window_
  rw [ssizes_eq l s hl K (by omega), obs]
  by_cases h : sizesOk_ l s = true
  · have tl := tree_len (sizes_tree h).1
    rw [if_pos h, if_pos h, l01In_eq, obs, wr ((l.length : Int) - 1) (by omega) (by omega)]
    by_cases g : 0 ≤ x ∧ x ≤ (l.length : Int) - 1
    · rw [if_pos (decide_eq_true g), if_pos g, swin_eq h 12 x K g.1 (by omega) (by omega) (by omega), obs]
    · rw [if_neg (by simpa using g), if_neg g]
  · rw [if_neg h, if_neg h]
theorem iwindow_eq (l : List ND) (s : List Int) (x : Int) (hl : l.length ≤ 9223372036854775807) (K : Nat) (hK : 2500 < K) : impl_WindowSize.f K l s x = some (window_ l s x) := by
  unfold impl_WindowSize.f window_
  rw [isizes_eq l s hl K (by omega), obs]
  by_cases h : sizesOk_ l s = true
  · have tl := tree_len (sizes_tree h).1
    rw [if_pos h, if_pos h, within_eq, obs, wr ((l.length : Int) - 1) (by omega) (by omega)]
    by_cases g : 0 ≤ x ∧ x ≤ (l.length : Int) - 1
    · rw [if_pos (decide_eq_true g), if_pos g, iwin_eq h 12 x K g.1 (by omega) (by omega) (by omega), obs]
    · rw [if_neg (by simpa using g), if_neg g]
  · rw [if_neg h, if_neg h]

theorem FnExactWindowSize (l0 : List (S83)) (l1 : List Int) (a2 : Int)
    (h0 : l0.length ≤ 9223372036854775807) (h1 : (∀ y ∈ l0, ((Lit.int .i64 y.f0).wf = true) ∧ ((Lit.int .i64 y.f1).wf = true) ∧ ((Lit.int .i64 y.f2).wf = true))) (h2 : l1.length ≤ 9223372036854775807) (h3 : (∀ y ∈ l1, (Lit.int .i64 y).wf = true)) (h4 : (Lit.int .i64 a2).wf = true) :
    ∃ k, laws_FnExactWindowSize.f k l0 l1 a2 = some true := by
  obtain ⟨k, hk⟩ : ∃ k : Nat, 1048576 < k := ⟨1048577, by omega⟩
  refine ⟨k, ?_⟩
  unfold laws_FnExactWindowSize.f
  by_cases hb1 : (l1.length : Int) > 1048576
  · rw [if_pos hb1]
  · rw [if_neg hb1, szNodeS_eq l0 1048576 h0 (by omega) (by omega)]
    by_cases hb : (1048576 : Int) < (l0.length : Int)
    · simp [hb]
    · have hl : l0.length ≤ 1048576 := by omega
      have hm : (l0.map toNd).length ≤ 1048576 := by simpa using hl
      simp only [if_neg hb, obs]
      rw [if_neg (by omega)]
      simp only [toNodeS_eq k l0 hl (by omega), toIntS_eq k l1 (by omega) (by omega), obs, swindow_eq _ l1 a2 (by omega : (l0.map toNd).length ≤ 9223372036854775807) k (by omega), iwindow_eq _ l1 a2 (by omega : (l0.map toNd).length ≤ 9223372036854775807) k (by omega), eqNodeS_eq k _ _ hm (by omega), eqIntS_eq k l1 l1 (by omega) (by omega)]
      simp

end Go.Proofs.Ytbbppknnkghkjaa.Pure
