/- Of every list of nodes and every number: the program's ChildrenOf and the reference's are one function; what it answers is a list of its own. -/
import Derived.Test.YtbbppknnkghkjaaPFnExactChildrenOfx7
import Derived.Test.YtbbppknnkghkjaaCom
namespace Go.Proofs.Ytbbppknnkghkjaa.Pure
open Go.RowKit Go.Proofs.Ytbbppknnkghkjaa.PFnExactChildrenOf Go.Proofs.YtbbppknnkghkjaaW.PrintWords Go.Proofs.YtbbppknnkghkjaaW.PrintLast Go.Proofs.YtbbppknnkghkjaaW.PrintMore Go.Proofs.Ytbbppknnkghkjaa.Com
set_option linter.unusedVariables false
set_option linter.unusedSimpArgs false

theorem rd_inode (xs : List S50) (i : Nat) (h : i < xs.length) : rd_T50 xs (i : Int) = xs[i] := getD_nat _ _ _ h

def toNd (x : S83) : S50 := ⟨x.f0, x.f1, x.f2⟩
theorem rd_lnode (xs : List S83) (i : Nat) (h : i < xs.length) : rd_T83 xs (i : Int) = xs[i] := getD_nat _ _ _ h
theorem toNodeS_eq (k : Nat) (l : List S83) (hl : l.length ≤ 1048576) (hk : l.length < k) : laws_toNodeS.f k l = some (l.map toNd) := by
  unfold laws_toNodeS.f
  rw [if_pos (by omega), if_pos (by omega)]
  have h := copy_loop laws_toNodeS.l0 toNd l hl (fun k x3 i h h3 => by
      simp only [laws_toNodeS.l0]
      rw [if_pos (by omega), if_pos (by omega), rd_lnode _ _ h]
      simp only [laws_toNode.f, Option.bind_some]
      rw [if_pos (by omega), wr _ (by omega) (by omega)]
      rfl) (fun k x3 h3 => by
      simp only [laws_toNodeS.l0]
      rw [if_neg (by omega)]) l.length k (List.replicate ((l.length : Int)).toNat z50) 0 (by omega) hk (by simp) (fun j hj => by omega)
  exact h
theorem node_ext (a b : S50) (h0 : a.f0 = b.f0) (h1 : a.f1 = b.f1) (h2 : a.f2 = b.f2) : a = b := by cases a; cases b; simp_all
instance : DecidableEq S50 := fun a b => decidable_of_iff (a.f0 = b.f0 ∧ a.f1 = b.f1 ∧ a.f2 = b.f2) ⟨fun h => node_ext a b h.1 h.2.1 h.2.2, fun h => by rw [h]; exact ⟨rfl, rfl, rfl⟩⟩
theorem eqNode_eq (a b : S50) : laws_eqNode.f a.f0 a.f1 a.f2 b.f0 b.f1 b.f2 = some (decide (a = b)) := by
  unfold laws_eqNode.f
  by_cases h0 : a.f0 = b.f0
  · by_cases h1 : a.f1 = b.f1
    · by_cases h2 : a.f2 = b.f2
      · rw [if_pos h0, if_pos h1, if_pos h2]; simp [node_ext a b h0 h1 h2]
      · rw [if_pos h0, if_pos h1, if_neg h2]; simp only [Option.some.injEq]; symm; rw [decide_eq_false_iff_not]; rintro rfl; exact h2 rfl
    · rw [if_pos h0, if_neg h1]; simp only [Option.some.injEq]; symm; rw [decide_eq_false_iff_not]; rintro rfl; exact h1 rfl
  · rw [if_neg h0]; simp only [Option.some.injEq]; symm; rw [decide_eq_false_iff_not]; rintro rfl; exact h0 rfl
theorem eqNodeS_eq (k : Nat) (a b : List S50) (hl : a.length ≤ 1048576) (hk : a.length < k) : laws_eqNodeS.f k a b = some (decide (a = b)) := by
  unfold laws_eqNodeS.f
  by_cases e : b.length = a.length
  · rw [if_pos (by omega)]
    have h := eq_loop laws_eqNodeS.l0 a b hl e (fun k i h hx => by
        simp only [laws_eqNodeS.l0]
        rw [if_pos (by omega), if_pos (by omega), if_pos (by omega), rd_inode _ _ h, rd_inode _ _ (by omega), eqNode_eq]
        simp [hx]) (fun k i h hx => by
        simp only [laws_eqNodeS.l0]
        rw [if_pos (by omega), if_pos (by omega), if_pos (by omega), rd_inode _ _ h, rd_inode _ _ (by omega), eqNode_eq, wr _ (by omega) (by omega)]
        simp only [hx, decide_true, Option.bind_some, if_true]
        rfl) (fun k => by
        simp only [laws_eqNodeS.l0]
        rw [if_neg (by omega)]) a.length k 0 (by omega) hk
    simpa using h
  · rw [if_neg (by omega)]
    congr 1
    symm
    rw [decide_eq_false_iff_not]
    rintro rfl
    exact e rfl

theorem szNodeS_eq (l : List S83) (a : Int) (h0 : l.length ≤ 9223372036854775807) (h1 : 0 ≤ a) (h2 : a ≤ 1048576) :
    laws_szNodeS.f l a = some (if a < (l.length : Int) then -1 else a - (l.length : Int)) := by
  unfold laws_szNodeS.f
  rw [wr (a - (l.length : Int)) (by omega) (by omega)]
  by_cases h : a < (l.length : Int)
  · rw [if_pos (by omega), if_pos h]
  · rw [if_neg (by omega), if_neg h]

/-- As Option.bind_some, but not by rfl: rewriting with it below an 'if' with a great number keeps the kernel from unfolding that number. -/
theorem obs {α β : Type} (a : α) (f : α → Option β) : (some a).bind f = f a := by rw [Option.bind_some]

theorem l01In_eq (a b c : Int) : spec_l01In.f a b c = some (decide (b ≤ a ∧ a ≤ c)) := by
  unfold spec_l01In.f; by_cases h : a ≥ b <;> simp [h]


abbrev ND := S50
/-- A sibling in the same place. -/
def sib_ (p d : Int) (x : ND) : Bool := decide (x.f0 = p) && decide (x.f1 = d)
/-- Is the node n well at place k of the tree? -/
def row_ (l : List ND) (k : Nat) (n : ND) : Bool :=
  decide (0 ≤ n.f0 ∧ n.f0 < (k : Int)) && (decide ((rd_T50 l n.f0).f2 = 0) && (decide (0 ≤ n.f1 ∧ n.f1 ≤ 3) && (decide (0 ≤ n.f2 ∧ n.f2 ≤ 4) && !(l.take k).any (sib_ n.f0 n.f1))))
def rows_ (l : List ND) : Nat → Nat → Bool
  | 0, _ => true
  | d + 1, k => row_ l k (rd_T50 l (k : Int)) && rows_ l d (k + 1)
def root_ (l : List ND) : Bool := (rd_T50 l 0).f0 == (-1) && ((rd_T50 l 0).f1 == 0 && (rd_T50 l 0).f2 == 0)
def tree_ (l : List ND) : Bool := decide (1 ≤ (l.length : Int) ∧ (l.length : Int) ≤ 12) && (root_ l && rows_ l (l.length - 1) 1)
theorem tree_len {l : List ND} (h : tree_ l = true) : 1 ≤ l.length ∧ l.length ≤ 12 := by
  simp only [tree_, Bool.and_eq_true, decide_eq_true_eq] at h; omega
theorem tree_root {l : List ND} (h : tree_ l = true) : (rd_T50 l 0).f0 = -1 := by
  simp only [tree_, root_, Bool.and_eq_true, decide_eq_true_eq, beq_iff_eq] at h; exact h.2.1.1
theorem rows_row (l : List ND) : ∀ d k j, rows_ l d k = true → k ≤ j → j < k + d → row_ l j (rd_T50 l (j : Int)) = true := by
  intro d
  induction d with
  | zero => intro k j _ _ _; omega
  | succ d ih =>
    intro k j h h1 h2
    simp only [rows_, Bool.and_eq_true] at h
    by_cases e : j = k
    · subst e; exact h.1
    · exact ih (k + 1) j h.2 (by omega) (by omega)
theorem tree_row {l : List ND} (h : tree_ l = true) (j : Nat) (h0 : 0 < j) (h1 : j < l.length) : row_ l j (rd_T50 l (j : Int)) = true := by
  simp only [tree_, Bool.and_eq_true] at h
  exact rows_row l _ 1 j h.2.2 (by omega) (by omega)
theorem tree_parent {l : List ND} (h : tree_ l = true) (j : Nat) (h0 : 0 < j) (h1 : j < l.length) : 0 ≤ (rd_T50 l (j : Int)).f0 ∧ (rd_T50 l (j : Int)).f0 < (j : Int) := by
  have := tree_row h j h0 h1
  simp only [row_, Bool.and_eq_true, decide_eq_true_eq] at this
  exact this.1

theorem sib_root {l : List ND} (hl : 0 < l.length) (hr : (rd_T50 l 0).f0 = -1) (p d : Int) (hp : 0 ≤ p) (k : Nat) (hk : 1 ≤ k) : (l.take k).any (sib_ p d) = ((l.take k).drop 1).any (sib_ p d) := by
  cases l with
  | nil => simp at hl
  | cons x xs =>
    obtain ⟨k, rfl⟩ : ∃ m, k = m + 1 := ⟨k - 1, by omega⟩
    have hx : x.f0 = -1 := hr
    have : sib_ p d x = false := by unfold sib_; rw [hx]; rw [decide_eq_false (show ¬ (-1 : Int) = p by omega)]; rfl
    simp [this]
theorem sl1_eq (l : List ND) (k : Nat) (hk : k < l.length) (hl : l.length ≤ 12) (p d f : Int) (R : Bool) (B : Nat) (hR : ∀ K, B < K → spec_TreeOk.l0 K l ((k + 1 : Nat) : Int) = some R) :
    ∀ e K i, i + e = k → B + e + 1 < K → spec_TreeOk.l1 K l (k : Int) (i : Int) p d f = some (if ((l.take k).drop i).any (sib_ p d) then false else R) := by
  intro e
  induction e with
  | zero =>
    intro K i hi hK
    obtain ⟨K, rfl⟩ : ∃ m, K = m + 1 := ⟨K - 1, by omega⟩
    obtain rfl : i = k := by omega
    simp only [spec_TreeOk.l1]
    rw [if_neg (by omega), wr ((i : Int) + 1) (by omega) (by omega), List.drop_of_length_le (by simp; omega)]
    simpa using hR K (by omega)
  | succ e ih =>
    intro K i hi hK
    obtain ⟨K, rfl⟩ : ∃ m, K = m + 1 := ⟨K - 1, by omega⟩
    have hlt : i < (l.take k).length := by simp; omega
    have hg : (l.take k)[i] = l[i]'(by omega) := by simp
    have e1 : ((i : Int) + 1) = ((i + 1 : Nat) : Int) := by omega
    simp only [spec_TreeOk.l1]
    rw [if_pos (by omega), if_pos (by omega), if_pos (by omega), rd_inode _ _ (by omega), wr ((i : Int) + 1) (by omega) (by omega), List.drop_eq_getElem_cons hlt, hg, e1, ih K (i + 1) (by omega) (by omega)]
    rw [List.any_cons]
    by_cases h0 : (l[i]'(by omega)).f0 = p
    · by_cases h1 : (l[i]'(by omega)).f1 = d
      · rw [if_pos h0, if_pos h1]; simp [sib_, h0, h1]
      · rw [if_pos h0, if_neg h1]; simp [sib_, h0, h1]
    · rw [if_neg h0]; simp [sib_, h0]
theorem sl0_eq (l : List ND) (h1 : 1 ≤ l.length) (hl : l.length ≤ 12) (hr : (rd_T50 l 0).f0 = -1) :
    ∀ d K k, 1 ≤ k → k + d = l.length → 16 * d < K → spec_TreeOk.l0 K l (k : Int) = some (rows_ l d k) := by
  intro d
  induction d with
  | zero =>
    intro K k hk hd hK
    obtain ⟨K, rfl⟩ : ∃ m, K = m + 1 := ⟨K - 1, by omega⟩
    simp only [spec_TreeOk.l0]
    rw [if_neg (by omega)]; rfl
  | succ d ih =>
    intro K k hk hd hK
    obtain ⟨K, rfl⟩ : ∃ m, K = m + 2 := ⟨K - 2, by omega⟩
    have hx : ∀ b p d' f, spec_TreeOk.j2 (K + 1) l (k : Int) b p d' f = if b = true then some false else spec_TreeOk.l1 K l (k : Int) 1 p d' f := fun b p d' f => by simp only [spec_TreeOk.j2]
    have hin : ∀ p d' f, 0 ≤ p → spec_TreeOk.l1 K l (k : Int) 1 p d' f = some (if (l.take k).any (sib_ p d') then false else rows_ l d (k + 1)) := fun p d' f hp => by
      have h := sl1_eq l k (by omega) hl p d' f (rows_ l d (k + 1)) (16 * d) (fun K' hK' => ih K' (k + 1) (by omega) (by omega) hK') (k - 1) K 1 (by omega) (by omega)
      rw [sib_root (by omega) hr p d' hp k hk]
      exact h
    simp only [spec_TreeOk.l0]
    rw [if_pos (by omega), if_pos (by omega), wr ((k : Int) - 1) (by omega) (by omega)]
    unfold rows_ row_
    generalize rd_T50 l (k : Int) = n
    simp only [l01In_eq, Option.bind_some, hx]
    by_cases c0 : 0 ≤ n.f0 ∧ n.f0 < (k : Int)
    · rw [if_pos (by simp; omega), if_pos c0.1, if_pos (by omega), decide_eq_true c0, Bool.true_and]
      by_cases c1 : (rd_T50 l n.f0).f2 = 0
      · rw [if_pos c1, decide_eq_true c1, Bool.true_and]
        by_cases c2 : 0 ≤ n.f1 ∧ n.f1 ≤ 3
        · rw [decide_eq_true c2, if_pos rfl, Bool.true_and]
          by_cases c3 : 0 ≤ n.f2 ∧ n.f2 ≤ 4
          · rw [decide_eq_true c3, if_neg (by simp), Bool.true_and, hin _ _ _ c0.1]
            cases (l.take k).any (sib_ n.f0 n.f1) <;> simp
          · rw [decide_eq_false c3]; simp
        · rw [decide_eq_false c2]; simp
      · rw [if_neg c1, decide_eq_false c1]; simp
    · rw [if_neg (by simp; omega), decide_eq_false c0]; simp
theorem stree_eq (l : List ND) (hl : l.length ≤ 9223372036854775807) (K : Nat) (hK : 200 < K) : spec_TreeOk.f K l = some (tree_ l) := by
  obtain ⟨K, rfl⟩ : ∃ m, K = m + 1 := ⟨K - 1, by omega⟩
  unfold spec_TreeOk.f tree_
  simp only [l01In_eq, Option.bind_some, spec_TreeOk.j0]
  by_cases c : 1 ≤ (l.length : Int) ∧ (l.length : Int) ≤ 12
  · rw [decide_eq_true c, if_pos rfl, if_pos (by omega), Bool.true_and]
    by_cases hr : root_ l = true
    · have hr0 : (rd_T50 l 0).f0 = -1 := by
        simp only [root_, Bool.and_eq_true, beq_iff_eq] at hr; exact hr.1
      have h := sl0_eq l (by omega) (by omega) hr0 (l.length - 1) K 1 (by omega) (by omega) (by omega)
      have hr2 := hr
      simp only [root_, Bool.and_eq_true, beq_iff_eq] at hr2
      rw [hr, Bool.true_and, if_neg (by simp [hr2])]
      exact h
    · rw [Bool.not_eq_true] at hr
      rw [hr, if_pos, Bool.false_and]
      unfold root_ at hr
      revert hr
      cases (rd_T50 l 0).f0 == -1 <;> cases (rd_T50 l 0).f1 == 0 <;> cases (rd_T50 l 0).f2 == 0 <;> simp
  · rw [decide_eq_false c, if_neg (by simp), Bool.false_and]; simp


/-- The nodes from x up to the root. -/
def up_ (l : List ND) : Nat → Int → List Int
  | 0, _ => []
  | d + 1, x => if 0 ≤ x then x :: up_ l d (rd_T50 l x).f0 else []
def isn_ (l : List ND) (x : Int) : Bool := tree_ l && decide (0 ≤ x ∧ x < (l.length : Int))
def path_ (l : List ND) (x : Int) : List Int := if isn_ l x = true then (up_ l 13 x).reverse else []
theorem up_len (l : List ND) : ∀ d x, (up_ l d x).length ≤ d := by
  intro d
  induction d with
  | zero => intro x; simp [up_]
  | succ d ih =>
    intro x
    unfold up_
    split
    · have := ih (rd_T50 l x).f0; simp; omega
    · simp
theorem path_len (l : List ND) (x : Int) : (path_ l x).length ≤ 13 := by
  unfold path_
  split
  · rw [List.length_reverse]; exact up_len l 13 x
  · simp
theorem parent_lt {l : List ND} (h : tree_ l = true) (x : Int) (h0 : 0 ≤ x) (h1 : x < (l.length : Int)) : -1 ≤ (rd_T50 l x).f0 ∧ (rd_T50 l x).f0 < x := by
  obtain ⟨j, rfl⟩ : ∃ j : Nat, x = (j : Int) := ⟨x.toNat, by omega⟩
  by_cases hj : j = 0
  · subst hj; have := tree_root h; have e : (((0 : Nat) : Int)) = 0 := rfl; rw [e, this]; omega
  · have := tree_parent h j (by omega) (by omega); omega
theorem isn_tree {l : List ND} {x : Int} (h : isn_ l x = true) : tree_ l = true ∧ 0 ≤ x ∧ x < (l.length : Int) := by
  simpa only [isn_, Bool.and_eq_true, decide_eq_true_eq] using h

theorem l19Ok_eq (l : List ND) (x : Int) (hl : l.length ≤ 9223372036854775807) (K : Nat) (hK : 200 < K) : spec_l19Ok.f K l x = some (isn_ l x) := by
  unfold spec_l19Ok.f isn_
  rw [stree_eq l hl K hK, obs]
  cases h : tree_ l
  · simp
  · have := tree_len h
    rw [if_pos rfl, l01In_eq, obs, wr ((l.length : Int) - 1) (by omega) (by omega), Bool.true_and]
    congr 1
    rw [Bool.eq_iff_iff, decide_eq_true_eq, decide_eq_true_eq]; omega


theorem within_eq (a b c : Int) : impl_within.f a b c = some (decide (b ≤ a ∧ a ≤ c)) := by
  unfold impl_within.f; by_cases h : a ≥ b <;> simp [h]



theorem il0_eq (l : List ND) (h1 : 1 ≤ l.length) (hl : l.length ≤ 12) :
    ∀ d K (j : Nat), j + 1 + d = l.length → 2 * d < K → impl_TreeOk.l0 K l (l.drop 1) ((l.drop 1).length : Int) (j : Int) = some (rows_ l d (j + 1)) := by
  intro d
  have hd1 : (l.drop 1).length = l.length - 1 := by simp
  induction d with
  | zero =>
    intro K j hd hK
    obtain ⟨K, rfl⟩ : ∃ m, K = m + 1 := ⟨K - 1, by omega⟩
    simp only [impl_TreeOk.l0]
    rw [if_neg (by omega)]; rfl
  | succ d ih =>
    intro K j hd hK
    obtain ⟨K, rfl⟩ : ∃ m, K = m + 2 := ⟨K - 2, by omega⟩
    have e1 : ((j : Int) + 1) = ((j + 1 : Nat) : Int) := by omega
    have hrd : rd_T50 (l.drop 1) (j : Int) = rd_T50 l ((j + 1 : Nat) : Int) := by
      rw [rd_inode _ _ (by omega), rd_inode _ _ (by omega)]
      simp [Nat.add_comm]
    have hrt : ∀ p : Int, 0 ≤ p → p < ((j + 1 : Nat) : Int) → rd_T50 (l.take (j + 1)) p = rd_T50 l p := by
      intro p hp0 hp1
      obtain ⟨q, rfl⟩ : ∃ q : Nat, p = (q : Int) := ⟨p.toNat, by omega⟩
      rw [rd_inode _ _ (by simp; omega), rd_inode _ _ (by omega)]
      simp
    have hx : ∀ b p d' f, impl_TreeOk.j2 (K + 1) l (l.take (j + 1)) (l.drop 1) ((l.drop 1).length : Int) (j : Int) b p d' f = if b = true then some false else some (if (l.take (j + 1)).any (sib_ p d') then false else rows_ l d (j + 1 + 1)) := fun b p d' f => by
      simp only [impl_TreeOk.j2, impl_Node_impl_TreeOk_1.f, Option.bind_some]
      rw [wr ((j : Int) + 1) (by omega) (by omega), e1, ih K (j + 1) (by omega) (by omega)]
      unfold sib_
      cases b <;> cases (l.take (j + 1)).any (fun x => decide (x.f0 = p) && decide (x.f1 = d')) <;> simp
    simp only [impl_TreeOk.l0]
    rw [if_pos (by omega), if_pos (by omega), if_pos (by omega), wr ((j : Int) + 1) (by omega) (by omega), if_pos (by omega), if_pos (by omega), e1]
    rw [hrd, Int.toNat_natCast]
    unfold rows_ row_
    generalize hn : rd_T50 l ((j + 1 : Nat) : Int) = n
    simp only [within_eq, Option.bind_some, hx]
    have ht : ((l.take (j + 1)).length : Int) = ((j + 1 : Nat) : Int) := by simp; omega
    by_cases c0 : 0 ≤ n.f0 ∧ n.f0 < ((j + 1 : Nat) : Int)
    · rw [if_pos (by simp; omega), if_pos c0.1, if_pos (by rw [ht]; omega), decide_eq_true c0, Bool.true_and, hrt _ c0.1 c0.2]
      by_cases c1 : (rd_T50 l n.f0).f2 = 0
      · rw [if_pos c1, decide_eq_true c1, Bool.true_and]
        by_cases c2 : 0 ≤ n.f1 ∧ n.f1 ≤ 3
        · rw [decide_eq_true c2, if_pos rfl, Bool.true_and]
          by_cases c3 : 0 ≤ n.f2 ∧ n.f2 ≤ 4
          · rw [decide_eq_true c3, if_neg (by simp), Bool.true_and]
            cases (l.take (j + 1)).any (sib_ n.f0 n.f1) <;> simp
          · rw [decide_eq_false c3]; simp
        · rw [decide_eq_false c2]; simp
      · rw [if_neg c1, decide_eq_false c1]; simp
    · rw [if_neg (by simp; omega), decide_eq_false c0]; simp
theorem itree_eq (l : List ND) (hl : l.length ≤ 9223372036854775807) (K : Nat) (hK : 200 < K) : impl_TreeOk.f K l = some (tree_ l) := by
  obtain ⟨K, rfl⟩ : ∃ m, K = m + 1 := ⟨K - 1, by omega⟩
  unfold impl_TreeOk.f tree_
  simp only [within_eq, Option.bind_some, impl_TreeOk.j0]
  by_cases c : 1 ≤ (l.length : Int) ∧ (l.length : Int) ≤ 12
  · rw [decide_eq_true c, if_pos rfl, if_pos (by omega), Bool.true_and, if_pos (show (1 : Int) ≤ (l.length : Int) from c.1)]
    have h := il0_eq l (by omega) (by omega) (l.length - 1) K 0 (by omega) (by omega)
    by_cases hr : root_ l = true
    · have hr2 := hr
      simp only [root_, Bool.and_eq_true, beq_iff_eq] at hr2
      rw [hr, Bool.true_and, if_neg (by simp [hr2])]
      exact h
    · rw [Bool.not_eq_true] at hr
      rw [hr, if_pos, Bool.false_and]
      unfold root_ at hr
      revert hr
      cases (rd_T50 l 0).f0 == -1 <;> cases (rd_T50 l 0).f1 == 0 <;> cases (rd_T50 l 0).f2 == 0 <;> simp
  · rw [decide_eq_false c, if_neg (by simp), Bool.false_and]; simp


theorem isNode_eq (l : List ND) (x : Int) (hl : l.length ≤ 9223372036854775807) (K : Nat) (hK : 200 < K) : impl_isNode.f K l x = some (isn_ l x) := by
  unfold impl_isNode.f isn_
  rw [itree_eq l hl K hK, obs]
  cases h : tree_ l
  · simp
  · have := tree_len h
    rw [if_pos rfl, within_eq, obs, wr ((l.length : Int) - 1) (by omega) (by omega), Bool.true_and]
    congr 1
    rw [Bool.eq_iff_iff, decide_eq_true_eq, decide_eq_true_eq]; omega

/-- The places from i on, d of them, whose node answers to p. -/
def ixs_ (l : List ND) (p : ND → Bool) : Nat → Nat → List Int
  | 0, _ => []
  | d + 1, i => if p (rd_T50 l (i : Int)) = true then (i : Int) :: ixs_ l p d (i + 1) else ixs_ l p d (i + 1)
def kid_ (x d : Int) (n : ND) : Bool := decide (n.f0 = x) && decide (n.f1 = d)
def kidsAt_ (l : List ND) (x d : Int) : List Int := ixs_ l (kid_ x d) (l.length - 1) 1
def kids_ (l : List ND) (x : Int) : List Int := if isn_ l x = true then kidsAt_ l x 0 ++ (kidsAt_ l x 1 ++ (kidsAt_ l x 2 ++ kidsAt_ l x 3)) else []
theorem ixs_succ (l : List ND) (p : ND → Bool) (d i : Nat) : ixs_ l p (d + 1) i = if p (rd_T50 l (i : Int)) = true then (i : Int) :: ixs_ l p d (i + 1) else ixs_ l p d (i + 1) := rfl
theorem ixs_len (l : List ND) (p : ND → Bool) : ∀ d i, (ixs_ l p d i).length ≤ d := by
  intro d
  induction d with
  | zero => intro i; simp [ixs_]
  | succ d ih => intro i; have := ih (i + 1); rw [ixs_succ]; split <;> simp <;> omega
theorem ixs_mem (l : List ND) (p : ND → Bool) : ∀ d i (y : Int), y ∈ ixs_ l p d i → (i : Int) ≤ y ∧ y < ((i + d : Nat) : Int) ∧ p (rd_T50 l y) = true := by
  intro d
  induction d with
  | zero => intro i y h; simp [ixs_] at h
  | succ d ih =>
    intro i y h
    rw [ixs_succ] at h
    split at h
    · rename_i hp
      rcases List.mem_cons.1 h with rfl | h
      · exact ⟨by omega, by omega, hp⟩
      · obtain ⟨a, b, c⟩ := ih _ _ h; exact ⟨by omega, by omega, c⟩
    · obtain ⟨a, b, c⟩ := ih _ _ h; exact ⟨by omega, by omega, c⟩
theorem ixs_filter (l : List ND) (p q : ND → Bool) : ∀ d i, (ixs_ l p d i).filter (fun y => q (rd_T50 l y)) = ixs_ l (fun n => p n && q n) d i := by
  intro d
  induction d with
  | zero => intro i; rfl
  | succ d ih =>
    intro i
    rw [ixs_succ, ixs_succ]
    cases hp : p (rd_T50 l (i : Int)) <;> cases hq : q (rd_T50 l (i : Int)) <;> simp [ih, hq]
theorem skid1_eq (l : List ND) (x c : Int) (c0 : 0 ≤ c) (c1 : c ≤ 3) (hl : l.length ≤ 12) : ∀ (d K i : Nat) (out : List Int), i + d = l.length → out.length + d ≤ 1000 → spec_ChildrenOf.l1 (K + d + 1) l x out c (i : Int) = spec_ChildrenOf.l0 K l x (out ++ ixs_ l (kid_ x c) d i) (c + 1) := by
  intro d
  induction d with
  | zero =>
    intro K i out h ho
    simp only [spec_ChildrenOf.l1]
    rw [if_neg (by omega), wr (c + 1) (by omega) (by omega)]; simp [ixs_]
  | succ d ih =>
    intro K i out h ho
    rw [show K + (d + 1) + 1 = (K + d + 1) + 1 by omega]
    have ih' := fun o => ih K (i + 1) o (by omega)
    generalize K + d + 1 = q at ih' ⊢
    simp only [spec_ChildrenOf.l1]
    rw [if_pos (by omega), if_pos (by omega), ixs_succ, wr ((i : Int) + 1) (by omega) (by omega), show (i : Int) + 1 = ((i + 1 : Nat) : Int) by omega]
    by_cases a : (rd_T50 l (i : Int)).f0 = x
    · by_cases b : (rd_T50 l (i : Int)).f1 = c
      · rw [if_pos a, if_pos b, if_pos (by omega), ih' _ (by simp; omega), if_pos (by simp [kid_, a, b])]
        simp
      · rw [if_pos a, if_neg b, ih' _ (by omega), if_neg (by simp [kid_, b])]
    · rw [if_neg a, ih' _ (by omega), if_neg (by simp [kid_, a])]
theorem skid0_eq (l : List ND) (x c : Int) (c0 : 0 ≤ c) (c1 : c ≤ 3) (h1 : 1 ≤ l.length) (hl : l.length ≤ 12) (K K' : Nat) (hK : K' = K + l.length + 1) (out : List Int) (ho : out.length ≤ 900) : spec_ChildrenOf.l0 K' l x out c = spec_ChildrenOf.l0 K l x (out ++ kidsAt_ l x c) (c + 1) := by
  obtain ⟨m, rfl⟩ : ∃ m, K' = m + 1 := ⟨K' - 1, by omega⟩
  simp only [spec_ChildrenOf.l0]
  rw [if_pos c1]
  have := skid1_eq l x c c0 c1 hl (l.length - 1) K 1 out (by omega) (by omega)
  rw [show K + (l.length - 1) + 1 = m by omega] at this
  exact this
theorem kidsAt_len (l : List ND) (x d : Int) (hl : l.length ≤ 12) : (kidsAt_ l x d).length ≤ 12 := by
  have := ixs_len l (kid_ x d) (l.length - 1) 1; unfold kidsAt_; omega
theorem skids_eq (l : List ND) (x : Int) (hl : l.length ≤ 9223372036854775807) (K : Nat) (hK : 500 < K) : spec_ChildrenOf.f K l x = some (kids_ l x) := by
  unfold spec_ChildrenOf.f kids_
  rw [obs, l19Ok_eq l x hl K (by omega), obs]
  by_cases h : isn_ l x = true
  · obtain ⟨t, g0, g1⟩ := isn_tree h
    obtain ⟨t0, t1⟩ := tree_len t
    have z0 := kidsAt_len l x 0 t1; have z1 := kidsAt_len l x 1 t1; have z2 := kidsAt_len l x 2 t1; have z3 := kidsAt_len l x 3 t1
    rw [if_pos h, if_pos h, skid0_eq l x 0 (by omega) (by omega) t0 t1 (K - (l.length + 1)) K (by omega) _ (by simp),
      show (0 : Int) + 1 = 1 by rfl, skid0_eq l x 1 (by omega) (by omega) t0 t1 (K - 2 * (l.length + 1)) _ (by omega) _ (by simp; omega),
      show (1 : Int) + 1 = 2 by rfl, skid0_eq l x 2 (by omega) (by omega) t0 t1 (K - 3 * (l.length + 1)) _ (by omega) _ (by simp; omega),
      show (2 : Int) + 1 = 3 by rfl, skid0_eq l x 3 (by omega) (by omega) t0 t1 (K - 4 * (l.length + 1)) _ (by omega) _ (by simp; omega)]
    obtain ⟨m, e⟩ : ∃ m, K - 4 * (l.length + 1) = m + 1 := ⟨K - 4 * (l.length + 1) - 1, by omega⟩
    rw [e]
    simp only [spec_ChildrenOf.l0]
    rw [if_neg (by omega)]
    simp
  · rw [if_neg h, if_neg h]
theorem kids_len (l : List ND) (x : Int) : (kids_ l x).length ≤ 48 := by
  unfold kids_
  split
  · rename_i h
    obtain ⟨t, _⟩ := isn_tree h
    have t1 := (tree_len t).2
    have z0 := kidsAt_len l x 0 t1; have z1 := kidsAt_len l x 1 t1; have z2 := kidsAt_len l x 2 t1; have z3 := kidsAt_len l x 3 t1
    simp; omega
  · simp
/-- The children in the order of their places. -/
def all_ (l : List ND) (x : Int) : List Int := ixs_ l (fun n => decide (n.f0 = x)) l.length 0
theorem ikid0_eq (l : List ND) (x : Int) (hl : l.length ≤ 12) : ∀ (d K i : Nat) (out : List Int), i + d = l.length → d < K → out.length + d ≤ 1000 → impl_ChildrenOf.l0 K x out l (l.length : Int) (i : Int) l = slices_SortFunc_int_int_impl_ChildrenOf_1.f (out ++ ixs_ l (fun n => decide (n.f0 = x)) d i) l := by
  intro d
  induction d with
  | zero =>
    intro K i out h hK ho
    obtain ⟨K, rfl⟩ : ∃ m, K = m + 1 := ⟨K - 1, by omega⟩
    simp only [impl_ChildrenOf.l0]
    rw [if_neg (by omega)]; simp [ixs_]
  | succ d ih =>
    intro K i out h hK ho
    obtain ⟨K, rfl⟩ : ∃ m, K = m + 1 := ⟨K - 1, by omega⟩
    simp only [impl_ChildrenOf.l0]
    rw [if_pos (by omega), if_pos (by omega), if_pos (by omega), ixs_succ, wr ((i : Int) + 1) (by omega) (by omega), show (i : Int) + 1 = ((i + 1 : Nat) : Int) by omega]
    by_cases a : (rd_T50 l (i : Int)).f0 = x
    · rw [if_pos a, if_pos (by omega), ih K (i + 1) _ (by omega) (by omega) (by simp; omega), if_pos (by simp [a])]
      simp
    · rw [if_neg a, ih K (i + 1) _ (by omega) (by omega) (by omega), if_neg (by simp [a])]
theorem any_take (l : List ND) (p : ND → Bool) (j i : Nat) (hi : i < j) (hj : j ≤ l.length) (h : (l.take j).any p = false) : p (rd_T50 l (i : Int)) = false := by
  rw [List.any_eq_false] at h
  have := h (rd_T50 l (i : Int)) (by rw [rd_inode l i (by omega)]; exact List.mem_take_iff_getElem.2 ⟨i, by omega, rfl⟩)
  simpa using this
theorem all_nodup (l : List ND) (h : tree_ l = true) (x : Int) (hx : 0 ≤ x) : ∀ d i, i + d = l.length → ((ixs_ l (fun n => decide (n.f0 = x)) d i).map (slices_SortFunc_int_int_impl_ChildrenOf_1.key l)).Nodup := by
  intro d
  induction d with
  | zero => intro i _; simp [ixs_]
  | succ d ih =>
    intro i hi
    rw [ixs_succ]
    split
    · rename_i hp
      rw [List.map_cons, List.nodup_cons]
      refine ⟨?_, ih (i + 1) (by omega)⟩
      intro hm
      obtain ⟨y, hy, e⟩ := List.mem_map.1 hm
      obtain ⟨y0, y1, y2⟩ := ixs_mem _ _ _ _ _ hy
      obtain ⟨j, rfl⟩ : ∃ j : Nat, y = (j : Int) := ⟨y.toNat, by omega⟩
      have hr := tree_row h j (by omega) (by omega)
      simp only [row_, Bool.and_eq_true, Bool.not_eq_true'] at hr
      have := any_take l _ j i (by omega) (by omega) hr.2.2.2.2
      simp only [sib_, slices_SortFunc_int_int_impl_ChildrenOf_1.key] at this e hp y2
      simp only [decide_eq_true_eq] at hp y2
      rw [y2, hp, e] at this
      simp at this
    · exact ih (i + 1) (by omega)
theorem ikids_eq (l : List ND) (x : Int) (hl : l.length ≤ 9223372036854775807) (K : Nat) (hK : 500 < K) : impl_ChildrenOf.f K l x = some (kids_ l x) := by
  unfold impl_ChildrenOf.f kids_
  rw [obs, isNode_eq l x hl K (by omega), obs]
  by_cases h : isn_ l x = true
  · obtain ⟨t, g0, g1⟩ := isn_tree h
    obtain ⟨t0, t1⟩ := tree_len t
    have hlen := ixs_len l (fun n => decide (n.f0 = x)) l.length 0
    have hw := ikid0_eq l x t1 l.length K 0 [] (by omega) (by omega) (by simp; omega)
    simp only [List.nil_append, Int.natCast_zero] at hw
    rw [if_pos h, if_pos h]
    refine Eq.trans hw ?_
    unfold slices_SortFunc_int_int_impl_ChildrenOf_1.f
    have hroot := tree_root t
    have hall : (ixs_ l (fun n => decide (n.f0 = x)) l.length 0).all (fun y => decide (0 ≤ y ∧ y < (l.length : Int) ∧ 0 ≤ slices_SortFunc_int_int_impl_ChildrenOf_1.key l y ∧ slices_SortFunc_int_int_impl_ChildrenOf_1.key l y ≤ 3)) = true := by
      rw [List.all_eq_true]
      intro y hy
      obtain ⟨y0, y1, y2⟩ := ixs_mem _ _ _ _ _ hy
      obtain ⟨j, rfl⟩ : ∃ j : Nat, y = (j : Int) := ⟨y.toNat, by omega⟩
      simp only [decide_eq_true_eq] at y2
      have hj : 0 < j := by
        rcases Nat.eq_zero_or_pos j with rfl | hj
        · rw [show ((0 : Nat) : Int) = 0 by rfl, hroot] at y2; omega
        · exact hj
      have hr := tree_row t j hj (by omega)
      simp only [row_, Bool.and_eq_true, decide_eq_true_eq] at hr
      simp only [slices_SortFunc_int_int_impl_ChildrenOf_1.key]
      exact decide_eq_true ⟨by omega, by omega, hr.2.2.1.1, hr.2.2.1.2⟩
    rw [if_pos (by
      rw [hall, decide_eq_true (all_nodup l t x g0 l.length 0 (by omega)), decide_eq_true (show (ixs_ l (fun n => decide (n.f0 = x)) l.length 0).length ≤ 12 by omega)]; rfl)]
    have hf : ∀ c : Int, (ixs_ l (fun n => decide (n.f0 = x)) l.length 0).filter (fun y => decide (slices_SortFunc_int_int_impl_ChildrenOf_1.key l y = c)) = kidsAt_ l x c := fun c => by
      have e := ixs_filter l (fun n => decide (n.f0 = x)) (fun n => decide (n.f1 = c)) l.length 0
      refine e.trans ?_
      obtain ⟨m, hm⟩ : ∃ m, l.length = m + 1 := ⟨l.length - 1, by omega⟩
      unfold kidsAt_
      rw [hm, ixs_succ, if_neg (by simp [hroot]; omega)]
      rfl
    rw [hf, hf, hf, hf]
  · rw [if_neg h, if_neg h]

theorem eqIntS_eq (k : Nat) (a b : List Int) (hl : a.length ≤ 1048576) (hk : a.length < k) : laws_eqIntS.f k a b = some (decide (a = b)) := by
  unfold laws_eqIntS.f
  by_cases e : b.length = a.length
  · rw [if_pos (by omega)]
    have h := eq_loop laws_eqIntS.l0 a b hl e (fun k i h hx => by
        simp only [laws_eqIntS.l0]
        rw [if_pos (by omega), if_pos (by omega), if_pos (by omega), rd_nat _ _ h, rd_nat _ _ (by omega), if_neg hx]) (fun k i h hx => by
        simp only [laws_eqIntS.l0]
        rw [if_pos (by omega), if_pos (by omega), if_pos (by omega), rd_nat _ _ h, rd_nat _ _ (by omega), if_pos hx, wr _ (by omega) (by omega)]
        rfl) (fun k => by
        simp only [laws_eqIntS.l0]
        rw [if_neg (by omega)]) a.length k 0 (by omega) hk
    simpa using h
  · rw [if_neg (by omega)]
    congr 1
    symm
    rw [decide_eq_false_iff_not]
    rintro rfl
    exact e rfl

theorem markIntS_eq (k : Nat) (l : List Int) (m : Int) (hl : l.length ≤ 1048576) (hk : l.length < k) (h0 : 0 ≤ m) (h1 : m ≤ 4194304) : laws_markIntS.f k l m = some (m + l.length, marks m l.length) := by
  have h := mark_loop laws_markIntS.l0 l.length m (fun k x0 i h3 h => by
      simp only [laws_markIntS.l0]
      rw [if_pos (by omega), if_pos (by omega), wr (m + i + 1) (by omega) (by omega), wr ((i : Int) + 1) (by omega) (by omega), show m + (i : Int) + 1 = m + ((i + 1 : Nat) : Int) by omega]
      rfl) (fun k x0 h3 => by
      simp only [laws_markIntS.l0]
      rw [if_neg (by omega)]) l.length k l 0 rfl (by omega) hk (fun j hj => by omega)
  unfold laws_markIntS.f
  simpa using h

theorem heldIntS_eq (k n : Nat) (m : Int) (hl : n ≤ 1048576) (hk : n < k) (h0 : 0 ≤ m) (h1 : m ≤ 4194304) : laws_heldIntS.f k (marks m n) m = some (m + n) := by
  have h := held_loop laws_heldIntS.l0 n m (fun k i h => by
      have hg : rd (marks m n) (i : Int) = m + i := by
        rw [rd_nat _ _ (by rw [marks_length]; exact h)]
        have := marks_get m n i h
        rw [List.getElem?_eq_getElem (by rw [marks_length]; exact h)] at this
        injection this
      simp only [laws_heldIntS.l0, marks_length]
      rw [if_pos (by omega), if_pos (by omega), hg, if_pos rfl, wr (m + i + 1) (by omega) (by omega), wr ((i : Int) + 1) (by omega) (by omega), show m + (i : Int) + 1 = m + ((i + 1 : Nat) : Int) by omega]
      rfl) (fun k => by
      simp only [laws_heldIntS.l0, marks_length]
      rw [if_neg (by omega)]) n k 0 (by omega) hk
  unfold laws_heldIntS.f
  simpa using h

theorem markNodeS_eq (k : Nat) (l : List S50) (hl : l.length ≤ 1048576) (hk : l.length < k) : ∃ l', laws_markNodeS.f k l 1 = some (1 + 3 * (l.length : Int), l') := by
  have h : ∀ (d K i : Nat) (x0 : List S50), x0.length = l.length → i + d = l.length → d < K → ∃ l', laws_markNodeS.l0 K x0 (1 + 3 * (i : Int)) (i : Int) = some (1 + 3 * (l.length : Int), l') := by
    intro d
    induction d with
    | zero =>
      intro K i x0 h0 hi hK
      obtain ⟨K, rfl⟩ : ∃ m, K = m + 1 := ⟨K - 1, by omega⟩
      refine ⟨x0, ?_⟩
      simp only [laws_markNodeS.l0]
      rw [if_neg (by omega), show (i : Int) = (l.length : Int) by omega]
    | succ d ih =>
      intro K i x0 h0 hi hK
      obtain ⟨K, rfl⟩ : ∃ m, K = m + 1 := ⟨K - 1, by omega⟩
      simp only [laws_markNodeS.l0]
      rw [if_pos (by omega), if_pos (by omega), obs, obs, wr (1 + 3 * (i : Int) + 1) (by omega) (by omega), wr (1 + 3 * (i : Int) + 1 + 1) (by omega) (by omega), wr (1 + 3 * (i : Int) + 1 + 1 + 1) (by omega) (by omega), wr ((i : Int) + 1) (by omega) (by omega),
        show 1 + 3 * (i : Int) + 1 + 1 + 1 = 1 + 3 * ((i + 1 : Nat) : Int) by omega]
      exact ih K (i + 1) _ (by simp [h0]) (by omega) (by omega)
  obtain ⟨l', e⟩ := h l.length k 0 l rfl (by omega) hk
  exact ⟨l', by unfold laws_markNodeS.f; simpa using e⟩

theorem FnExactChildrenOf (l0 : List (S83)) (a1 : Int)
    (h0 : l0.length ≤ 9223372036854775807) (h1 : (∀ y ∈ l0, ((Lit.int .i64 y.f0).wf = true) ∧ ((Lit.int .i64 y.f1).wf = true) ∧ ((Lit.int .i64 y.f2).wf = true))) (h2 : (Lit.int .i64 a1).wf = true) :
    ∃ k, laws_FnExactChildrenOf.f k l0 a1 = some true := by
  obtain ⟨k, hk⟩ : ∃ k : Nat, 1048576 < k := ⟨1048577, by omega⟩
  refine ⟨k + 1, ?_⟩
  unfold laws_FnExactChildrenOf.f
  rw [szNodeS_eq l0 1048576 h0 (by omega) (by omega)]
  by_cases hb : (1048576 : Int) < (l0.length : Int)
  · simp [hb]
  · have hl : l0.length ≤ 1048576 := by omega
    have hm : (l0.map toNd).length ≤ 1048576 := by simpa using hl
    have hp := kids_len (l0.map toNd) a1
    have hx : (kids_ (l0.map toNd) a1).length ≤ 1048576 := by omega
    simp only [if_neg hb, obs]
    rw [if_neg (by omega)]
    obtain ⟨l', hmk⟩ := markNodeS_eq (k + 1) (l0.map toNd) hm (by omega)
    simp only [toNodeS_eq (k + 1) l0 hl (by omega), obs, skids_eq _ a1 (by omega : (l0.map toNd).length ≤ 9223372036854775807) (k + 1) (by omega), ikids_eq _ a1 (by omega : (l0.map toNd).length ≤ 9223372036854775807) (k + 1) (by omega), eqNodeS_eq (k + 1) _ _ hm (by omega), eqIntS_eq (k + 1) _ _ hx (by omega), hmk, decide_true, if_true]
    rw [if_neg (by omega)]
    simp only [laws_FnExactChildrenOf.j0, Bool.not_true, Bool.false_eq_true, if_false]
    simp only [toNodeS_eq k l0 hl (by omega), obs, ikids_eq _ a1 (by omega : (l0.map toNd).length ≤ 9223372036854775807) k (by omega), eqIntS_eq k _ _ hx (by omega), markIntS_eq k _ 1 hx (by omega) (by omega) (by omega), heldIntS_eq k _ 1 hx (by omega) (by omega) (by omega), decide_true, if_true]
    rw [if_neg (by omega)]
    simp
    omega

end Go.Proofs.Ytbbppknnkghkjaa.Pure
