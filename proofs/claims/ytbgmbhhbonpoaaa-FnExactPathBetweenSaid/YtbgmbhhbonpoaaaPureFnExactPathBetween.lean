/- Of every list of nodes and any two numbers: the program's PathBetween and the reference's are one function; what it answers is a list of its own. -/
import Derived.Test.YtbgmbhhbonpoaaaPFnExactPathBetweenx8
import Derived.Test.YtbgmbhhbonpoaaaCom
namespace Go.Proofs.Ytbgmbhhbonpoaaa.Pure
open Go.RowKit Go.Proofs.Ytbgmbhhbonpoaaa.PFnExactPathBetween Go.Proofs.YtbgmbhhbonpoaaaW.PrintWords Go.Proofs.YtbgmbhhbonpoaaaW.PrintLast Go.Proofs.YtbgmbhhbonpoaaaW.PrintMore Go.Proofs.Ytbgmbhhbonpoaaa.Com
set_option linter.unusedVariables false
set_option linter.unusedSimpArgs false

theorem szNodeS_eq (l : List S58) (a : Int) (h0 : l.length ≤ 9223372036854775807) (h1 : 0 ≤ a) (h2 : a ≤ 1048576) :
    laws_szNodeS.f l a = some (if a < (l.length : Int) then -1 else a - (l.length : Int)) := by
  unfold laws_szNodeS.f
  rw [wr (a - (l.length : Int)) (by omega) (by omega)]
  by_cases h : a < (l.length : Int)
  · rw [if_pos (by omega), if_pos h]
  · rw [if_neg (by omega), if_neg h]

/-- As Option.bind_some, but not by rfl: rewriting with it below an 'if' with a great number keeps the kernel from unfolding that number. -/
theorem obs {α β : Type} (a : α) (f : α → Option β) : (some a).bind f = f a := by rw [Option.bind_some]

theorem l01In_eq (a b c : Int) : spec_l01In.f a b c = some (decide (b ≤ a ∧ a ≤ c)) := by
  unfold spec_l01In.f; by_cases h : a ≥ b <;> simp [h]

def toNd (x : S58) : S38 := ⟨x.f0, x.f1, x.f2⟩
theorem rd_lnode (xs : List S58) (i : Nat) (h : i < xs.length) : rd_T58 xs (i : Int) = xs[i] := getD_nat _ _ _ h
theorem rd_inode (xs : List S38) (i : Nat) (h : i < xs.length) : rd_T38 xs (i : Int) = xs[i] := getD_nat _ _ _ h
theorem toNodeS_eq (k : Nat) (l : List S58) (hl : l.length ≤ 1048576) (hk : l.length < k) : laws_toNodeS.f k l = some (l.map toNd) := by
  unfold laws_toNodeS.f
  rw [if_pos (by omega), if_pos (by omega)]
  have h := copy_loop laws_toNodeS.l0 toNd l hl (fun k x3 i h h3 => by
      simp only [laws_toNodeS.l0]
      rw [if_pos (by omega), if_pos (by omega), rd_lnode _ _ h]
      simp only [laws_toNode.f, Option.bind_some]
      rw [if_pos (by omega), wr _ (by omega) (by omega)]
      rfl) (fun k x3 h3 => by
      simp only [laws_toNodeS.l0]
      rw [if_neg (by omega)]) l.length k (List.replicate ((l.length : Int)).toNat z38) 0 (by omega) hk (by simp) (fun j hj => by omega)
  exact h
theorem node_ext (a b : S38) (h0 : a.f0 = b.f0) (h1 : a.f1 = b.f1) (h2 : a.f2 = b.f2) : a = b := by cases a; cases b; simp_all
instance : DecidableEq S38 := fun a b => decidable_of_iff (a.f0 = b.f0 ∧ a.f1 = b.f1 ∧ a.f2 = b.f2) ⟨fun h => node_ext a b h.1 h.2.1 h.2.2, fun h => by rw [h]; exact ⟨rfl, rfl, rfl⟩⟩
theorem eqNode_eq (a b : S38) : laws_eqNode.f a.f0 a.f1 a.f2 b.f0 b.f1 b.f2 = some (decide (a = b)) := by
  unfold laws_eqNode.f
  by_cases h0 : a.f0 = b.f0
  · by_cases h1 : a.f1 = b.f1
    · by_cases h2 : a.f2 = b.f2
      · rw [if_pos h0, if_pos h1, if_pos h2]; simp [node_ext a b h0 h1 h2]
      · rw [if_pos h0, if_pos h1, if_neg h2]; simp only [Option.some.injEq]; symm; rw [decide_eq_false_iff_not]; rintro rfl; exact h2 rfl
    · rw [if_pos h0, if_neg h1]; simp only [Option.some.injEq]; symm; rw [decide_eq_false_iff_not]; rintro rfl; exact h1 rfl
  · rw [if_neg h0]; simp only [Option.some.injEq]; symm; rw [decide_eq_false_iff_not]; rintro rfl; exact h0 rfl
theorem eqNodeS_eq (k : Nat) (a b : List S38) (hl : a.length ≤ 1048576) (hk : a.length < k) : laws_eqNodeS.f k a b = some (decide (a = b)) := by
  unfold laws_eqNodeS.f
  by_cases e : b.length = a.length
  · rw [if_pos (by omega)]
    have h := eq_loop laws_eqNodeS.l0 a b hl e (fun k i h hx => by
        simp only [laws_eqNodeS.l0]
        rw [if_pos (by omega), if_pos (by omega), if_pos (by omega), rd_inode _ _ h, rd_inode _ _ (by omega), eqNode_eq]
        simp [hx]) (fun k i h hx => by
        simp only [laws_eqNodeS.l0]
        rw [if_pos (by omega), if_pos (by omega), if_pos (by omega), rd_inode _ _ h, rd_inode _ _ (by omega), eqNode_eq, wr _ (by omega) (by omega)]
        simp only [hx, decide_true, Option.bind_some, if_true]
        rfl) (fun k => by
        simp only [laws_eqNodeS.l0]
        rw [if_neg (by omega)]) a.length k 0 (by omega) hk
    simpa using h
  · rw [if_neg (by omega)]
    congr 1
    symm
    rw [decide_eq_false_iff_not]
    rintro rfl
    exact e rfl

abbrev ND := S38
/-- A sibling in the same place. -/
def sib_ (p d : Int) (x : ND) : Bool := decide (x.f0 = p) && decide (x.f1 = d)
/-- Is the node n well at place k of the tree? -/
def row_ (l : List ND) (k : Nat) (n : ND) : Bool :=
  decide (0 ≤ n.f0 ∧ n.f0 < (k : Int)) && (decide ((rd_T38 l n.f0).f2 = 0) && (decide (0 ≤ n.f1 ∧ n.f1 ≤ 3) && (decide (0 ≤ n.f2 ∧ n.f2 ≤ 4) && !(l.take k).any (sib_ n.f0 n.f1))))
def rows_ (l : List ND) : Nat → Nat → Bool
  | 0, _ => true
  | d + 1, k => row_ l k (rd_T38 l (k : Int)) && rows_ l d (k + 1)
def root_ (l : List ND) : Bool := (rd_T38 l 0).f0 == (-1) && ((rd_T38 l 0).f1 == 0 && (rd_T38 l 0).f2 == 0)
def tree_ (l : List ND) : Bool := decide (1 ≤ (l.length : Int) ∧ (l.length : Int) ≤ 12) && (root_ l && rows_ l (l.length - 1) 1)
theorem tree_len {l : List ND} (h : tree_ l = true) : 1 ≤ l.length ∧ l.length ≤ 12 := by
  simp only [tree_, Bool.and_eq_true, decide_eq_true_eq] at h; omega
theorem tree_root {l : List ND} (h : tree_ l = true) : (rd_T38 l 0).f0 = -1 := by
  simp only [tree_, root_, Bool.and_eq_true, decide_eq_true_eq, beq_iff_eq] at h; exact h.2.1.1
theorem rows_row (l : List ND) : ∀ d k j, rows_ l d k = true → k ≤ j → j < k + d → row_ l j (rd_T38 l (j : Int)) = true := by
  intro d
  induction d with
  | zero => intro k j _ _ _; omega
  | succ d ih =>
    intro k j h h1 h2
    simp only [rows_, Bool.and_eq_true] at h
    by_cases e : j = k
    · subst e; exact h.1
    · exact ih (k + 1) j h.2 (by omega) (by omega)
theorem tree_row {l : List ND} (h : tree_ l = true) (j : Nat) (h0 : 0 < j) (h1 : j < l.length) : row_ l j (rd_T38 l (j : Int)) = true := by
  simp only [tree_, Bool.and_eq_true] at h
  exact rows_row l _ 1 j h.2.2 (by omega) (by omega)
theorem tree_parent {l : List ND} (h : tree_ l = true) (j : Nat) (h0 : 0 < j) (h1 : j < l.length) : 0 ≤ (rd_T38 l (j : Int)).f0 ∧ (rd_T38 l (j : Int)).f0 < (j : Int) := by
  have := tree_row h j h0 h1
  simp only [row_, Bool.and_eq_true, decide_eq_true_eq] at this
  exact this.1

theorem sib_root {l : List ND} (hl : 0 < l.length) (hr : (rd_T38 l 0).f0 = -1) (p d : Int) (hp : 0 ≤ p) (k : Nat) (hk : 1 ≤ k) : (l.take k).any (sib_ p d) = ((l.take k).drop 1).any (sib_ p d) := by
  cases l with
  | nil => simp at hl
  | cons x xs =>
    obtain ⟨k, rfl⟩ : ∃ m, k = m + 1 := ⟨k - 1, by omega⟩
    have hx : x.f0 = -1 := hr
    have : sib_ p d x = false := by unfold sib_; rw [hx]; rw [decide_eq_false (show ¬ (-1 : Int) = p by omega)]; rfl
    simp [this]
theorem sl1_eq (l : List ND) (k : Nat) (hk : k < l.length) (hl : l.length ≤ 12) (p d f : Int) (R : Bool) (B : Nat) (hR : ∀ K, B < K → spec_TreeOk.l0 K l ((k + 1 : Nat) : Int) = some R) :
    ∀ e K i, i + e = k → B + e + 1 < K → spec_TreeOk.l1 K l (k : Int) (i : Int) p d f = some (if ((l.take k).drop i).any (sib_ p d) then false else R) := by
  intro e
  induction e with
  | zero =>
    intro K i hi hK
    obtain ⟨K, rfl⟩ : ∃ m, K = m + 1 := ⟨K - 1, by omega⟩
    obtain rfl : i = k := by omega
    simp only [spec_TreeOk.l1]
    rw [if_neg (by omega), wr ((i : Int) + 1) (by omega) (by omega), List.drop_of_length_le (by simp; omega)]
    simpa using hR K (by omega)
  | succ e ih =>
    intro K i hi hK
    obtain ⟨K, rfl⟩ : ∃ m, K = m + 1 := ⟨K - 1, by omega⟩
    have hlt : i < (l.take k).length := by simp; omega
    have hg : (l.take k)[i] = l[i]'(by omega) := by simp
    have e1 : ((i : Int) + 1) = ((i + 1 : Nat) : Int) := by omega
    simp only [spec_TreeOk.l1]
    rw [if_pos (by omega), if_pos (by omega), if_pos (by omega), rd_inode _ _ (by omega), wr ((i : Int) + 1) (by omega) (by omega), List.drop_eq_getElem_cons hlt, hg, e1, ih K (i + 1) (by omega) (by omega)]
    rw [List.any_cons]
    by_cases h0 : (l[i]'(by omega)).f0 = p
    · by_cases h1 : (l[i]'(by omega)).f1 = d
      · rw [if_pos h0, if_pos h1]; simp [sib_, h0, h1]
      · rw [if_pos h0, if_neg h1]; simp [sib_, h0, h1]
    · rw [if_neg h0]; simp [sib_, h0]
theorem sl0_eq (l : List ND) (h1 : 1 ≤ l.length) (hl : l.length ≤ 12) (hr : (rd_T38 l 0).f0 = -1) :
    ∀ d K k, 1 ≤ k → k + d = l.length → 16 * d < K → spec_TreeOk.l0 K l (k : Int) = some (rows_ l d k) := by
  intro d
  induction d with
  | zero =>
    intro K k hk hd hK
    obtain ⟨K, rfl⟩ : ∃ m, K = m + 1 := ⟨K - 1, by omega⟩
    simp only [spec_TreeOk.l0]
    rw [if_neg (by omega)]; rfl
  | succ d ih =>
    intro K k hk hd hK
    obtain ⟨K, rfl⟩ : ∃ m, K = m + 2 := ⟨K - 2, by omega⟩
    have hx : ∀ b p d' f, spec_TreeOk.j2 (K + 1) l (k : Int) b p d' f = if b = true then some false else spec_TreeOk.l1 K l (k : Int) 1 p d' f := fun b p d' f => by simp only [spec_TreeOk.j2]
    have hin : ∀ p d' f, 0 ≤ p → spec_TreeOk.l1 K l (k : Int) 1 p d' f = some (if (l.take k).any (sib_ p d') then false else rows_ l d (k + 1)) := fun p d' f hp => by
      have h := sl1_eq l k (by omega) hl p d' f (rows_ l d (k + 1)) (16 * d) (fun K' hK' => ih K' (k + 1) (by omega) (by omega) hK') (k - 1) K 1 (by omega) (by omega)
      rw [sib_root (by omega) hr p d' hp k hk]
      exact h
    simp only [spec_TreeOk.l0]
    rw [if_pos (by omega), if_pos (by omega), wr ((k : Int) - 1) (by omega) (by omega)]
    unfold rows_ row_
    generalize rd_T38 l (k : Int) = n
    simp only [l01In_eq, Option.bind_some, hx]
    by_cases c0 : 0 ≤ n.f0 ∧ n.f0 < (k : Int)
    · rw [if_pos (by simp; omega), if_pos c0.1, if_pos (by omega), decide_eq_true c0, Bool.true_and]
      by_cases c1 : (rd_T38 l n.f0).f2 = 0
      · rw [if_pos c1, decide_eq_true c1, Bool.true_and]
        by_cases c2 : 0 ≤ n.f1 ∧ n.f1 ≤ 3
        · rw [decide_eq_true c2, if_pos rfl, Bool.true_and]
          by_cases c3 : 0 ≤ n.f2 ∧ n.f2 ≤ 4
          · rw [decide_eq_true c3, if_neg (by simp), Bool.true_and, hin _ _ _ c0.1]
            cases (l.take k).any (sib_ n.f0 n.f1) <;> simp
          · rw [decide_eq_false c3]; simp
        · rw [decide_eq_false c2]; simp
      · rw [if_neg c1, decide_eq_false c1]; simp
    · rw [if_neg (by simp; omega), decide_eq_false c0]; simp
theorem stree_eq (l : List ND) (hl : l.length ≤ 9223372036854775807) (K : Nat) (hK : 200 < K) : spec_TreeOk.f K l = some (tree_ l) := by
  obtain ⟨K, rfl⟩ : ∃ m, K = m + 1 := ⟨K - 1, by omega⟩
  unfold spec_TreeOk.f tree_
  simp only [l01In_eq, Option.bind_some, spec_TreeOk.j0]
  by_cases c : 1 ≤ (l.length : Int) ∧ (l.length : Int) ≤ 12
  · rw [decide_eq_true c, if_pos rfl, if_pos (by omega), Bool.true_and]
    by_cases hr : root_ l = true
    · have hr0 : (rd_T38 l 0).f0 = -1 := by
        simp only [root_, Bool.and_eq_true, beq_iff_eq] at hr; exact hr.1
      have h := sl0_eq l (by omega) (by omega) hr0 (l.length - 1) K 1 (by omega) (by omega) (by omega)
      have hr2 := hr
      simp only [root_, Bool.and_eq_true, beq_iff_eq] at hr2
      rw [hr, Bool.true_and, if_neg (by simp [hr2])]
      exact h
    · rw [Bool.not_eq_true] at hr
      rw [hr, if_pos, Bool.false_and]
      unfold root_ at hr
      revert hr
      cases (rd_T38 l 0).f0 == -1 <;> cases (rd_T38 l 0).f1 == 0 <;> cases (rd_T38 l 0).f2 == 0 <;> simp
  · rw [decide_eq_false c, if_neg (by simp), Bool.false_and]; simp


/-- The nodes from x up to the root. -/
def up_ (l : List ND) : Nat → Int → List Int
  | 0, _ => []
  | d + 1, x => if 0 ≤ x then x :: up_ l d (rd_T38 l x).f0 else []
def isn_ (l : List ND) (x : Int) : Bool := tree_ l && decide (0 ≤ x ∧ x < (l.length : Int))
def path_ (l : List ND) (x : Int) : List Int := if isn_ l x = true then (up_ l 13 x).reverse else []
theorem up_len (l : List ND) : ∀ d x, (up_ l d x).length ≤ d := by
  intro d
  induction d with
  | zero => intro x; simp [up_]
  | succ d ih =>
    intro x
    unfold up_
    split
    · have := ih (rd_T38 l x).f0; simp; omega
    · simp
theorem path_len (l : List ND) (x : Int) : (path_ l x).length ≤ 13 := by
  unfold path_
  split
  · rw [List.length_reverse]; exact up_len l 13 x
  · simp
theorem parent_lt {l : List ND} (h : tree_ l = true) (x : Int) (h0 : 0 ≤ x) (h1 : x < (l.length : Int)) : -1 ≤ (rd_T38 l x).f0 ∧ (rd_T38 l x).f0 < x := by
  obtain ⟨j, rfl⟩ : ∃ j : Nat, x = (j : Int) := ⟨x.toNat, by omega⟩
  by_cases hj : j = 0
  · subst hj; have := tree_root h; have e : (((0 : Nat) : Int)) = 0 := rfl; rw [e, this]; omega
  · have := tree_parent h j (by omega) (by omega); omega
theorem isn_tree {l : List ND} {x : Int} (h : isn_ l x = true) : tree_ l = true ∧ 0 ≤ x ∧ x < (l.length : Int) := by
  simpa only [isn_, Bool.and_eq_true, decide_eq_true_eq] using h

theorem l19Ok_eq (l : List ND) (x : Int) (hl : l.length ≤ 9223372036854775807) (K : Nat) (hK : 200 < K) : spec_l19Ok.f K l x = some (isn_ l x) := by
  unfold spec_l19Ok.f isn_
  rw [stree_eq l hl K hK, obs]
  cases h : tree_ l
  · simp
  · have := tree_len h
    rw [if_pos rfl, l01In_eq, obs, wr ((l.length : Int) - 1) (by omega) (by omega), Bool.true_and]
    congr 1
    rw [Bool.eq_iff_iff, decide_eq_true_eq, decide_eq_true_eq]; omega
theorem spl_eq (l : List ND) (h : tree_ l = true) : ∀ (d K : Nat) (x : Int) (out : List Int), -1 ≤ x → x < (d : Int) → x < (l.length : Int) → d < K → out.length + d ≤ 1000 → spec_PathTo.l0 K l x out = some ((up_ l d x).reverse ++ out) := by
  intro d
  induction d with
  | zero =>
    intro K x out h0 h1 h2 hK ho
    obtain ⟨K, rfl⟩ : ∃ m, K = m + 1 := ⟨K - 1, by omega⟩
    simp only [spec_PathTo.l0]
    rw [if_neg (by omega)]; simp [up_]
  | succ d ih =>
    intro K x out h0 h1 h2 hK ho
    obtain ⟨K, rfl⟩ : ∃ m, K = m + 1 := ⟨K - 1, by omega⟩
    simp only [spec_PathTo.l0]
    unfold up_
    by_cases hx : 0 ≤ x
    · have hp := parent_lt h x hx h2
      rw [if_pos hx, if_pos hx, obs, if_pos (by simp; omega), if_pos h2, ih K _ _ hp.1 (by omega) (by omega) (by omega) (by simp; omega)]
      simp [hx]
    · rw [if_neg hx, if_neg hx]; simp
theorem spath_eq (l : List ND) (x : Int) (hl : l.length ≤ 9223372036854775807) (K : Nat) (hK : 200 < K) : spec_PathTo.f K l x = some (path_ l x) := by
  unfold spec_PathTo.f path_
  rw [obs, l19Ok_eq l x hl K hK, obs]
  by_cases h : isn_ l x = true
  · obtain ⟨h1, h2, h3⟩ := isn_tree h
    have := tree_len h1
    rw [if_pos h, if_pos h, spl_eq l h1 13 K x [] (by omega) (by omega) h3 (by omega) (by simp)]
    simp
  · rw [if_neg h, if_neg h]


theorem within_eq (a b c : Int) : impl_within.f a b c = some (decide (b ≤ a ∧ a ≤ c)) := by
  unfold impl_within.f; by_cases h : a ≥ b <;> simp [h]



theorem il0_eq (l : List ND) (h1 : 1 ≤ l.length) (hl : l.length ≤ 12) :
    ∀ d K (j : Nat), j + 1 + d = l.length → 2 * d < K → impl_TreeOk.l0 K l (l.drop 1) ((l.drop 1).length : Int) (j : Int) = some (rows_ l d (j + 1)) := by
  intro d
  have hd1 : (l.drop 1).length = l.length - 1 := by simp
  induction d with
  | zero =>
    intro K j hd hK
    obtain ⟨K, rfl⟩ : ∃ m, K = m + 1 := ⟨K - 1, by omega⟩
    simp only [impl_TreeOk.l0]
    rw [if_neg (by omega)]; rfl
  | succ d ih =>
    intro K j hd hK
    obtain ⟨K, rfl⟩ : ∃ m, K = m + 2 := ⟨K - 2, by omega⟩
    have e1 : ((j : Int) + 1) = ((j + 1 : Nat) : Int) := by omega
    have hrd : rd_T38 (l.drop 1) (j : Int) = rd_T38 l ((j + 1 : Nat) : Int) := by
      rw [rd_inode _ _ (by omega), rd_inode _ _ (by omega)]
      simp [Nat.add_comm]
    have hrt : ∀ p : Int, 0 ≤ p → p < ((j + 1 : Nat) : Int) → rd_T38 (l.take (j + 1)) p = rd_T38 l p := by
      intro p hp0 hp1
      obtain ⟨q, rfl⟩ : ∃ q : Nat, p = (q : Int) := ⟨p.toNat, by omega⟩
      rw [rd_inode _ _ (by simp; omega), rd_inode _ _ (by omega)]
      simp
    have hx : ∀ b p d' f, impl_TreeOk.j2 (K + 1) l (l.take (j + 1)) (l.drop 1) ((l.drop 1).length : Int) (j : Int) b p d' f = if b = true then some false else some (if (l.take (j + 1)).any (sib_ p d') then false else rows_ l d (j + 1 + 1)) := fun b p d' f => by
      simp only [impl_TreeOk.j2, impl_Node_impl_TreeOk_1.f, Option.bind_some]
      rw [wr ((j : Int) + 1) (by omega) (by omega), e1, ih K (j + 1) (by omega) (by omega)]
      unfold sib_
      cases b <;> cases (l.take (j + 1)).any (fun x => decide (x.f0 = p) && decide (x.f1 = d')) <;> simp
    simp only [impl_TreeOk.l0]
    rw [if_pos (by omega), if_pos (by omega), if_pos (by omega), wr ((j : Int) + 1) (by omega) (by omega), if_pos (by omega), if_pos (by omega), e1]
    rw [hrd, Int.toNat_natCast]
    unfold rows_ row_
    generalize hn : rd_T38 l ((j + 1 : Nat) : Int) = n
    simp only [within_eq, Option.bind_some, hx]
    have ht : ((l.take (j + 1)).length : Int) = ((j + 1 : Nat) : Int) := by simp; omega
    by_cases c0 : 0 ≤ n.f0 ∧ n.f0 < ((j + 1 : Nat) : Int)
    · rw [if_pos (by simp; omega), if_pos c0.1, if_pos (by rw [ht]; omega), decide_eq_true c0, Bool.true_and, hrt _ c0.1 c0.2]
      by_cases c1 : (rd_T38 l n.f0).f2 = 0
      · rw [if_pos c1, decide_eq_true c1, Bool.true_and]
        by_cases c2 : 0 ≤ n.f1 ∧ n.f1 ≤ 3
        · rw [decide_eq_true c2, if_pos rfl, Bool.true_and]
          by_cases c3 : 0 ≤ n.f2 ∧ n.f2 ≤ 4
          · rw [decide_eq_true c3, if_neg (by simp), Bool.true_and]
            cases (l.take (j + 1)).any (sib_ n.f0 n.f1) <;> simp
          · rw [decide_eq_false c3]; simp
        · rw [decide_eq_false c2]; simp
      · rw [if_neg c1, decide_eq_false c1]; simp
    · rw [if_neg (by simp; omega), decide_eq_false c0]; simp
theorem itree_eq (l : List ND) (hl : l.length ≤ 9223372036854775807) (K : Nat) (hK : 200 < K) : impl_TreeOk.f K l = some (tree_ l) := by
  obtain ⟨K, rfl⟩ : ∃ m, K = m + 1 := ⟨K - 1, by omega⟩
  unfold impl_TreeOk.f tree_
  simp only [within_eq, Option.bind_some, impl_TreeOk.j0]
  by_cases c : 1 ≤ (l.length : Int) ∧ (l.length : Int) ≤ 12
  · rw [decide_eq_true c, if_pos rfl, if_pos (by omega), Bool.true_and, if_pos (show (1 : Int) ≤ (l.length : Int) from c.1)]
    have h := il0_eq l (by omega) (by omega) (l.length - 1) K 0 (by omega) (by omega)
    by_cases hr : root_ l = true
    · have hr2 := hr
      simp only [root_, Bool.and_eq_true, beq_iff_eq] at hr2
      rw [hr, Bool.true_and, if_neg (by simp [hr2])]
      exact h
    · rw [Bool.not_eq_true] at hr
      rw [hr, if_pos, Bool.false_and]
      unfold root_ at hr
      revert hr
      cases (rd_T38 l 0).f0 == -1 <;> cases (rd_T38 l 0).f1 == 0 <;> cases (rd_T38 l 0).f2 == 0 <;> simp
  · rw [decide_eq_false c, if_neg (by simp), Bool.false_and]; simp


theorem rev_at (a : List Int) (y : Int) (b : List Int) : rd (a ++ y :: b) (a.length : Int) = y := by
  rw [rd_nat _ _ (by simp)]; simp
theorem rev_loop : ∀ (n K : Nat) (a m b : List Int), m.length ≤ n → n < K → a.length + m.length + b.length ≤ 1048576 →
    slices_Reverse_int_int.l0 K (a ++ (m ++ b)) (a.length : Int) ((a.length : Int) + (m.length : Int) - 1) = some (a ++ (m.reverse ++ b)) := by
  intro n
  induction n with
  | zero =>
    intro K a m b hm hK hl
    obtain ⟨K, rfl⟩ : ∃ q, K = q + 1 := ⟨K - 1, by omega⟩
    have : m = [] := List.eq_nil_of_length_eq_zero (by omega)
    subst this
    simp only [slices_Reverse_int_int.l0]
    rw [if_neg (by simp; omega)]; simp
  | succ n ih =>
    intro K a m b hm hK hl
    obtain ⟨K, rfl⟩ : ∃ q, K = q + 1 := ⟨K - 1, by omega⟩
    by_cases h2 : m.length < 2
    · simp only [slices_Reverse_int_int.l0]
      rw [if_neg (by omega)]
      have : m.reverse = m := by
        cases m with
        | nil => rfl
        | cons x xs =>
          have : xs = [] := List.eq_nil_of_length_eq_zero (by simp at h2; omega)
          subst this; rfl
      rw [this]
    · obtain ⟨y, m', rfl⟩ : ∃ y m', m = y :: m' := by
        cases m with
        | nil => simp at h2
        | cons y m' => exact ⟨y, m', rfl⟩
      obtain ⟨m2, z, rfl⟩ : ∃ m2 z, m' = m2 ++ [z] := by
        refine ⟨m'.dropLast, m'.getLast (fun e => by subst e; simp at h2), ?_⟩
        rw [List.dropLast_concat_getLast]
      simp only [List.length_cons, List.length_append, List.length_nil] at hm hl h2 ⊢
      have hj : ((a.length : Int) + ((m2.length + (0 + 1) + 1 : Nat) : Int) - 1) = ((a ++ y :: m2).length : Int) := by simp; omega
      rw [hj]
      have e0 : a ++ (y :: (m2 ++ [z]) ++ b) = a ++ y :: (m2 ++ z :: b) := by simp
      have e1 : a ++ (y :: (m2 ++ [z]) ++ b) = (a ++ y :: m2) ++ z :: b := by simp
      have r0 : rd (a ++ (y :: (m2 ++ [z]) ++ b)) (a.length : Int) = y := by rw [e0]; exact rev_at _ _ _
      have r1 : rd (a ++ (y :: (m2 ++ [z]) ++ b)) ((a ++ y :: m2).length : Int) = z := by rw [e1]; exact rev_at _ _ _
      have hlen : ((a ++ (y :: (m2 ++ [z]) ++ b)).length : Int) = (a.length : Int) + m2.length + 2 + b.length := by simp; omega
      have hjl : ((a ++ y :: m2).length : Int) = (a.length : Int) + m2.length + 1 := by simp; omega
      simp only [slices_Reverse_int_int.l0]
      rw [if_pos (by omega), if_pos (by omega), if_pos (by omega), if_pos (by omega), if_pos (by omega), r0, r1]
      have hs : ((a ++ (y :: (m2 ++ [z]) ++ b)).set (a.length : Int).toNat z).set ((a ++ y :: m2).length : Int).toNat y = (a ++ [z]) ++ (m2 ++ (y :: b)) := by
        rw [e0, Int.toNat_natCast, Int.toNat_natCast]
        have : (a ++ y :: (m2 ++ z :: b)).set a.length z = (a ++ z :: m2) ++ z :: b := by simp
        rw [this]
        have hl2 : (a ++ y :: m2).length = (a ++ z :: m2).length := by simp
        rw [hl2, List.set_append_right _ _ (Nat.le_refl _)]
        simp
      rw [hs, wr ((a.length : Int) + 1) (by omega) (by omega), wr (((a ++ y :: m2).length : Int) - 1) (by omega) (by omega)]
      have h := ih K (a ++ [z]) m2 (y :: b) (by omega) (by omega) (by simp; omega)
      have ea : (((a ++ [z]).length : Nat) : Int) = (a.length : Int) + 1 := by simp
      rw [ea] at h
      have ej : ((a ++ y :: m2).length : Int) - 1 = (a.length : Int) + 1 + (m2.length : Int) - 1 := by omega
      rw [ej, h]
      simp
theorem rev_eq (K : Nat) (l : List Int) (hl : l.length ≤ 1048576) (hK : l.length < K) : slices_Reverse_int_int.f K l = some l.reverse := by
  unfold slices_Reverse_int_int.f
  have h := rev_loop l.length K [] l [] (Nat.le_refl _) hK (by simp; omega)
  simp only [List.nil_append, List.append_nil, List.length_nil] at h
  rw [wr _ (by omega) (by omega)]
  have e : ((0 : Nat) : Int) + (l.length : Int) - 1 = (l.length : Int) - 1 := by omega
  rw [e] at h
  exact h

theorem isNode_eq (l : List ND) (x : Int) (hl : l.length ≤ 9223372036854775807) (K : Nat) (hK : 200 < K) : impl_isNode.f K l x = some (isn_ l x) := by
  unfold impl_isNode.f isn_
  rw [itree_eq l hl K hK, obs]
  cases h : tree_ l
  · simp
  · have := tree_len h
    rw [if_pos rfl, within_eq, obs, wr ((l.length : Int) - 1) (by omega) (by omega), Bool.true_and]
    congr 1
    rw [Bool.eq_iff_iff, decide_eq_true_eq, decide_eq_true_eq]; omega
theorem ipl_eq (l : List ND) (h : tree_ l = true) : ∀ (d K : Nat) (x : Int) (out : List Int), -1 ≤ x → x < (d : Int) → x < (l.length : Int) → d + 1001 < K → out.length + d ≤ 1000 → impl_PathTo.l0 K l x out = some ((out ++ up_ l d x).reverse) := by
  intro d
  induction d with
  | zero =>
    intro K x out h0 h1 h2 hK ho
    obtain ⟨K, rfl⟩ : ∃ m, K = m + 1 := ⟨K - 1, by omega⟩
    simp only [impl_PathTo.l0]
    rw [if_neg (by omega), rev_eq K out (by omega) (by omega)]; simp [up_]
  | succ d ih =>
    intro K x out h0 h1 h2 hK ho
    obtain ⟨K, rfl⟩ : ∃ m, K = m + 1 := ⟨K - 1, by omega⟩
    simp only [impl_PathTo.l0]
    unfold up_
    by_cases hx : 0 ≤ x
    · have hp := parent_lt h x hx h2
      rw [if_pos hx, if_pos hx, if_pos (by omega), if_pos h2, ih K _ _ hp.1 (by omega) (by omega) (by omega) (by simp; omega)]
      simp [hx]
    · rw [if_neg hx, if_neg hx, rev_eq K out (by omega) (by omega)]; simp
theorem ipath_eq (l : List ND) (x : Int) (hl : l.length ≤ 9223372036854775807) (K : Nat) (hK : 2000 < K) : impl_PathTo.f K l x = some (path_ l x) := by
  unfold impl_PathTo.f path_
  rw [obs, isNode_eq l x hl K (by omega), obs]
  by_cases h : isn_ l x = true
  · obtain ⟨h1, h2, h3⟩ := isn_tree h
    have := tree_len h1
    rw [if_pos h, if_pos h, ipl_eq l h1 13 K x [] (by omega) (by omega) h3 (by omega) (by simp)]
    simp
  · rw [if_neg h, if_neg h]

/-- How long two lists agree from their start. -/
def cp_ : List Int → List Int → Nat
  | x :: xs, y :: ys => if x = y then cp_ xs ys + 1 else 0
  | _, _ => 0
theorem cp_le (a b : List Int) : cp_ a b ≤ a.length ∧ cp_ a b ≤ b.length := by
  induction a generalizing b with
  | nil => simp [cp_]
  | cons x xs ih =>
    cases b with
    | nil => simp [cp_]
    | cons y ys =>
      unfold cp_
      have := ih ys
      split <;> simp <;> omega
/-- From the end of up to the last node that both have, then down. -/
def btw_ (x y : List Int) : List Int := if x.length = 0 ∨ y.length = 0 then [] else (x.drop (cp_ x y - 1)).reverse ++ y.drop (cp_ x y)
theorem up_head (l : List ND) (h : tree_ l = true) : ∀ (d : Nat) (x : Int), 0 ≤ x → x < (d : Int) → x < (l.length : Int) → ∃ r, (up_ l d x).reverse = 0 :: r := by
  intro d
  induction d with
  | zero => intro x h0 h1; omega
  | succ d ih =>
    intro x h0 h1 h2
    unfold up_
    rw [if_pos h0]
    have hp := parent_lt h x h0 h2
    by_cases hz : 0 ≤ (rd_T38 l x).f0
    · obtain ⟨r, e⟩ := ih _ hz (by omega) (by omega)
      exact ⟨r ++ [x], by rw [List.reverse_cons, e]; rfl⟩
    · have hx : x = 0 := by
        apply Classical.byContradiction
        intro hn
        obtain ⟨j, rfl⟩ : ∃ j : Nat, x = (j : Int) := ⟨x.toNat, by omega⟩
        have := tree_parent h j (by omega) (by omega)
        omega
      subst hx
      have : up_ l d (rd_T38 l 0).f0 = [] := by
        cases d with
        | zero => rfl
        | succ d => unfold up_; rw [if_neg hz]
      rw [this]; exact ⟨[], rfl⟩
theorem path_head (l : List ND) (x : Int) (h : isn_ l x = true) : ∃ r, path_ l x = 0 :: r := by
  obtain ⟨h1, h2, h3⟩ := isn_tree h
  have := tree_len h1
  unfold path_
  rw [if_pos h]
  exact up_head l h1 13 x h2 (by omega) h3
theorem path_none (l : List ND) (x : Int) (h : ¬ isn_ l x = true) : path_ l x = [] := by unfold path_; rw [if_neg h]
theorem path_isn (l : List ND) (x : Int) : (path_ l x).length = 0 ↔ ¬ isn_ l x = true := by
  constructor
  · intro e h; obtain ⟨r, hr⟩ := path_head l x h; rw [hr] at e; simp at e
  · intro h; rw [path_none l x h]; rfl

theorem sbt1_eq (x y : List Int) (n : Nat) (hx : x.length ≤ 100) (hy : y.length ≤ 100) (hn : n ≤ y.length) (h1 : 1 ≤ n) :
    ∀ (d K : Nat) (out : List Int), d ≤ x.length → n - 1 ≤ d → d - (n - 1) < K → out.length + d ≤ 1000 →
      spec_PathBetween.l1 K x y out (n : Int) ((d : Int) - 1) = some (out ++ ((x.take d).drop (n - 1)).reverse ++ y.drop n) := by
  intro d
  induction d with
  | zero =>
    intro K out hd h2 hK ho
    obtain ⟨K, rfl⟩ : ∃ m, K = m + 1 := ⟨K - 1, by omega⟩
    simp only [spec_PathBetween.l1]
    rw [wr ((n : Int) - 1) (by omega) (by omega), if_neg (by omega), if_pos (by omega), if_pos (by omega), obs, if_pos (by simp; omega)]
    simp
  | succ d ih =>
    intro K out hd h2 hK ho
    by_cases he : n - 1 = d + 1
    · obtain ⟨K, rfl⟩ : ∃ m, K = m + 1 := ⟨K - 1, by omega⟩
      have hz : (x.take (d + 1)).drop (n - 1) = [] := List.drop_of_length_le (by simp; omega)
      simp only [spec_PathBetween.l1]
      rw [wr ((n : Int) - 1) (by omega) (by omega), if_neg (by omega), if_pos (by omega), if_pos (by omega), obs, if_pos (by simp; omega), hz]
      simp
    · obtain ⟨K, rfl⟩ : ∃ m, K = m + 1 := ⟨K - 1, by omega⟩
      have e1 : (((d + 1 : Nat) : Int) - 1) = (d : Int) := by omega
      rw [e1]
      simp only [spec_PathBetween.l1]
      rw [wr ((n : Int) - 1) (by omega) (by omega), if_pos (by omega), if_pos (by omega), if_pos (by omega), if_pos (by omega), wr ((d : Int) - 1) (by omega) (by omega), ih K _ (by omega) (by omega) (by omega) (by simp; omega), rd_nat _ _ (by omega)]
      have : (x.take (d + 1)).drop (n - 1) = (x.take d).drop (n - 1) ++ [x[d]'(by omega)] := by
        rw [List.take_succ_eq_append_getElem (by omega), List.drop_append_of_le_length (by simp; omega)]
      rw [this]
      simp
theorem sbt0_eq (x y : List Int) (hx : x.length ≤ 100) (hy : y.length ≤ 100) (R : Option (List Int)) (c : Nat) :
    ∀ (d K i : Nat), i + d = x.length → d + 1 < K → i + cp_ (x.drop i) (y.drop i) = c → (∀ K', K ≤ K' + d + 1 → spec_PathBetween.j2 K' x y [] (c : Int) = R) → spec_PathBetween.l0 K x y [] (i : Int) = R := by
  intro d
  induction d with
  | zero =>
    intro K i hi hK hc hR
    obtain ⟨K, rfl⟩ : ∃ m, K = m + 1 := ⟨K - 1, by omega⟩
    rw [List.drop_of_length_le (by omega : x.length ≤ i)] at hc
    simp only [cp_] at hc
    simp only [spec_PathBetween.l0]
    rw [if_neg (by omega)]
    have := hR K (by omega)
    rw [← hc] at this
    simpa using this
  | succ d ih =>
    intro K i hi hK hc hR
    obtain ⟨K, rfl⟩ : ∃ m, K = m + 1 := ⟨K - 1, by omega⟩
    simp only [spec_PathBetween.l0]
    rw [if_pos (by omega)]
    rw [List.drop_eq_getElem_cons (by omega : i < x.length)] at hc
    by_cases hyi : i < y.length
    · rw [List.drop_eq_getElem_cons hyi] at hc
      rw [if_pos (by omega), if_pos (by omega), rd_nat _ _ (by omega), rd_nat _ _ hyi]
      unfold cp_ at hc
      by_cases he : x[i]'(by omega) = y[i]
      · rw [if_pos he] at hc
        rw [if_pos he, wr ((i : Int) + 1) (by omega) (by omega)]
        exact ih K (i + 1) (by omega) (by omega) (by omega) (fun K' hK' => hR K' (by omega))
      · rw [if_neg he] at hc
        rw [if_neg he]
        have := hR K (by omega)
        rw [← hc] at this
        simpa using this
    · rw [List.drop_of_length_le (by omega : y.length ≤ i)] at hc
      unfold cp_ at hc
      rw [if_neg (by omega)]
      have := hR K (by omega)
      rw [← hc] at this
      simpa using this
theorem sbetween_eq (l : List ND) (a b : Int) (hl : l.length ≤ 9223372036854775807) (K : Nat) (hK : 2000 < K) : spec_PathBetween.f K l a b = some (btw_ (path_ l a) (path_ l b)) := by
  obtain ⟨K, rfl⟩ : ∃ m, K = m + 1 := ⟨K - 1, by omega⟩
  unfold spec_PathBetween.f
  rw [spath_eq l a hl _ (by omega), obs, spath_eq l b hl _ (by omega), obs, obs]
  simp only [spec_PathBetween.j0]
  have hx := path_len l a
  have hy := path_len l b
  by_cases h0 : isn_ l a = true
  · by_cases h1 : isn_ l b = true
    · obtain ⟨r, e⟩ := path_head l a h0
      obtain ⟨s, f⟩ := path_head l b h1
      have hc : 1 ≤ cp_ (path_ l a) (path_ l b) := by rw [e, f]; simp [cp_]
      have hcl := cp_le (path_ l a) (path_ l b)
      have hn0 : ¬ ((path_ l a).length : Int) = 0 := by rw [e]; simp; omega
      have hn1 : ¬ ((path_ l b).length : Int) = 0 := by rw [f]; simp; omega
      rw [if_neg hn0, if_neg (by simp; rw [f]; simp)]
      unfold btw_
      rw [if_neg (by omega)]
      generalize path_ l a = x at *
      generalize path_ l b = y at *
      refine sbt0_eq x y (by omega) (by omega) _ (cp_ x y) x.length K 0 (by omega) (by omega) (by simp) (fun K' hK' => ?_)
      obtain ⟨K', rfl⟩ : ∃ m, K' = m + 1 := ⟨K' - 1, by omega⟩
      simp only [spec_PathBetween.j2]
      rw [wr ((x.length : Int) - 1) (by omega) (by omega), sbt1_eq x y (cp_ x y) (by omega) (by omega) (by omega) hc x.length K' [] (Nat.le_refl _) (by omega) (by omega) (by simp; omega)]
      simp
    · rw [path_none l b h1]
      simp [btw_]
  · rw [path_none l a h0]
    simp [btw_]


theorem clone0 (l : List Int) (h : l.length ≤ 17592186044416) : slices_Clone_int_int.f l = some l := by unfold slices_Clone_int_int.f; rw [if_pos h]

theorem ibtend (K : Nat) (x y : List Int) (hx : x.length ≤ 100) (hy : y.length ≤ 100) (n : Nat) (h1 : 1 ≤ n) (hn : n ≤ x.length) (hn2 : n ≤ y.length) (hK : 1000 < K) :
    (if 0 ≤ (wrap64 ((n : Int) - 1)) then (if (wrap64 ((n : Int) - 1)) ≤ (x.length : Int) then ((slices_Clone_int_int.f (x.drop ((wrap64 ((n : Int) - 1)) : Int).toNat)).bind fun t249 => ((slices_Reverse_int_int.f K t249).bind fun t252 => (if 0 ≤ (n : Int) then (if (n : Int) ≤ (y.length : Int) then ((some (y.drop (n : Int).toNat : List Int)).bind fun y253 => (if t252.length + y253.length < 17592186044416 then (some (t252 ++ y253)) else (none))) else (none)) else (none)))) else (none)) else (none)) = some ((x.drop (n - 1)).reverse ++ y.drop n) := by
  rw [wr ((n : Int) - 1) (by omega) (by omega), if_pos (by omega), if_pos (by omega), clone0 _ (by simp; omega), obs, rev_eq K _ (by simp; omega) (by simp; omega), obs, if_pos (by omega), if_pos (by omega), obs, if_pos (by simp; omega)]
  simp [show ((n : Int) - 1).toNat = n - 1 by omega]
theorem ibt_eq (x y : List Int) (hx : x.length ≤ 100) (hy : y.length ≤ 100) (c : Nat) (hc1 : 1 ≤ c) (hcx : c ≤ x.length) (hcy : c ≤ y.length) :
    ∀ (d K i : Nat), i + d = x.length → d + 1001 < K → i + cp_ (x.drop i) (y.drop i) = c → impl_PathBetween.l0 K x y (i : Int) = some ((x.drop (c - 1)).reverse ++ y.drop c) := by
  intro d
  induction d with
  | zero =>
    intro K i hi hK hc
    obtain ⟨K, rfl⟩ : ∃ m, K = m + 1 := ⟨K - 1, by omega⟩
    rw [List.drop_of_length_le (by omega : x.length ≤ i)] at hc
    simp only [cp_] at hc
    simp only [impl_PathBetween.l0]
    rw [if_neg (by unfold mn; split <;> omega)]
    obtain rfl : i = c := by omega
    exact ibtend K x y hx hy i hc1 hcx hcy (by omega)
  | succ d ih =>
    intro K i hi hK hc
    obtain ⟨K, rfl⟩ : ∃ m, K = m + 1 := ⟨K - 1, by omega⟩
    simp only [impl_PathBetween.l0]
    rw [List.drop_eq_getElem_cons (by omega : i < x.length)] at hc
    by_cases hyi : i < y.length
    · rw [List.drop_eq_getElem_cons hyi] at hc
      rw [if_pos (by unfold mn; split <;> omega), if_pos (by omega), if_pos (by omega), if_pos (by omega), rd_nat _ _ (by omega), rd_nat _ _ hyi]
      unfold cp_ at hc
      by_cases he : x[i]'(by omega) = y[i]
      · rw [if_pos he] at hc
        rw [if_pos he, wr ((i : Int) + 1) (by omega) (by omega)]
        exact ih K (i + 1) (by omega) (by omega) (by omega)
      · rw [if_neg he] at hc
        rw [if_neg he]
        obtain rfl : i = c := by omega
        have h := ibtend K x y hx hy i hc1 hcx hcy (by omega)
        simp only [show (0 : Int) ≤ (i : Int) from by omega, if_true] at h
        exact h
    · rw [List.drop_of_length_le (by omega : y.length ≤ i)] at hc
      unfold cp_ at hc
      rw [if_neg (by unfold mn; split <;> omega)]
      obtain rfl : i = c := by omega
      exact ibtend K x y hx hy i hc1 hcx hcy (by omega)
theorem ibetween_eq (l : List ND) (a b : Int) (hl : l.length ≤ 9223372036854775807) (K : Nat) (hK : 3000 < K) : impl_PathBetween.f K l a b = some (btw_ (path_ l a) (path_ l b)) := by
  obtain ⟨K, rfl⟩ : ∃ m, K = m + 1 := ⟨K - 1, by omega⟩
  unfold impl_PathBetween.f
  rw [isNode_eq l a hl _ (by omega), obs]
  simp only [isNode_eq l b hl (K + 1) (by omega), obs, impl_PathBetween.j0]
  have hx := path_len l a
  have hy := path_len l b
  by_cases h0 : isn_ l a = true
  · by_cases h1 : isn_ l b = true
    · obtain ⟨r, e⟩ := path_head l a h0
      obtain ⟨s, f⟩ := path_head l b h1
      have hc : 1 ≤ cp_ (path_ l a) (path_ l b) := by rw [e, f]; simp [cp_]
      have hcl := cp_le (path_ l a) (path_ l b)
      rw [if_pos h0, h1, if_neg (by simp), ipath_eq l a hl K (by omega), obs, ipath_eq l b hl K (by omega), obs]
      unfold btw_
      rw [if_neg (by omega)]
      exact ibt_eq _ _ (by omega) (by omega) _ hc (by omega) (by omega) (path_ l a).length K 0 (by omega) (by omega) (by simp)
    · rw [if_pos h0, path_none l b h1]
      rw [Bool.not_eq_true] at h1
      rw [h1]
      simp [btw_]
  · rw [if_neg h0, path_none l a h0]
    simp [btw_]

theorem eqIntS_eq (k : Nat) (a b : List Int) (hl : a.length ≤ 1048576) (hk : a.length < k) : laws_eqIntS.f k a b = some (decide (a = b)) := by
  unfold laws_eqIntS.f
  by_cases e : b.length = a.length
  · rw [if_pos (by omega)]
    have h := eq_loop laws_eqIntS.l0 a b hl e (fun k i h hx => by
        simp only [laws_eqIntS.l0]
        rw [if_pos (by omega), if_pos (by omega), if_pos (by omega), rd_nat _ _ h, rd_nat _ _ (by omega), if_neg hx]) (fun k i h hx => by
        simp only [laws_eqIntS.l0]
        rw [if_pos (by omega), if_pos (by omega), if_pos (by omega), rd_nat _ _ h, rd_nat _ _ (by omega), if_pos hx, wr _ (by omega) (by omega)]
        rfl) (fun k => by
        simp only [laws_eqIntS.l0]
        rw [if_neg (by omega)]) a.length k 0 (by omega) hk
    simpa using h
  · rw [if_neg (by omega)]
    congr 1
    symm
    rw [decide_eq_false_iff_not]
    rintro rfl
    exact e rfl

theorem markIntS_eq (k : Nat) (l : List Int) (m : Int) (hl : l.length ≤ 1048576) (hk : l.length < k) (h0 : 0 ≤ m) (h1 : m ≤ 4194304) : laws_markIntS.f k l m = some (m + l.length, marks m l.length) := by
  have h := mark_loop laws_markIntS.l0 l.length m (fun k x0 i h3 h => by
      simp only [laws_markIntS.l0]
      rw [if_pos (by omega), if_pos (by omega), wr (m + i + 1) (by omega) (by omega), wr ((i : Int) + 1) (by omega) (by omega), show m + (i : Int) + 1 = m + ((i + 1 : Nat) : Int) by omega]
      rfl) (fun k x0 h3 => by
      simp only [laws_markIntS.l0]
      rw [if_neg (by omega)]) l.length k l 0 rfl (by omega) hk (fun j hj => by omega)
  unfold laws_markIntS.f
  simpa using h

theorem heldIntS_eq (k n : Nat) (m : Int) (hl : n ≤ 1048576) (hk : n < k) (h0 : 0 ≤ m) (h1 : m ≤ 4194304) : laws_heldIntS.f k (marks m n) m = some (m + n) := by
  have h := held_loop laws_heldIntS.l0 n m (fun k i h => by
      have hg : rd (marks m n) (i : Int) = m + i := by
        rw [rd_nat _ _ (by rw [marks_length]; exact h)]
        have := marks_get m n i h
        rw [List.getElem?_eq_getElem (by rw [marks_length]; exact h)] at this
        injection this
      simp only [laws_heldIntS.l0, marks_length]
      rw [if_pos (by omega), if_pos (by omega), hg, if_pos rfl, wr (m + i + 1) (by omega) (by omega), wr ((i : Int) + 1) (by omega) (by omega), show m + (i : Int) + 1 = m + ((i + 1 : Nat) : Int) by omega]
      rfl) (fun k => by
      simp only [laws_heldIntS.l0, marks_length]
      rw [if_neg (by omega)]) n k 0 (by omega) hk
  unfold laws_heldIntS.f
  simpa using h

theorem markNodeS_eq (k : Nat) (l : List S38) (hl : l.length ≤ 1048576) (hk : l.length < k) : ∃ l', laws_markNodeS.f k l 1 = some (1 + 3 * (l.length : Int), l') := by
  have h : ∀ (d K i : Nat) (x0 : List S38), x0.length = l.length → i + d = l.length → d < K → ∃ l', laws_markNodeS.l0 K x0 (1 + 3 * (i : Int)) (i : Int) = some (1 + 3 * (l.length : Int), l') := by
    intro d
    induction d with
    | zero =>
      intro K i x0 h0 hi hK
      obtain ⟨K, rfl⟩ : ∃ m, K = m + 1 := ⟨K - 1, by omega⟩
      refine ⟨x0, ?_⟩
      simp only [laws_markNodeS.l0]
      rw [if_neg (by omega), show (i : Int) = (l.length : Int) by omega]
    | succ d ih =>
      intro K i x0 h0 hi hK
      obtain ⟨K, rfl⟩ : ∃ m, K = m + 1 := ⟨K - 1, by omega⟩
      simp only [laws_markNodeS.l0]
      rw [if_pos (by omega), if_pos (by omega), obs, obs, wr (1 + 3 * (i : Int) + 1) (by omega) (by omega), wr (1 + 3 * (i : Int) + 1 + 1) (by omega) (by omega), wr (1 + 3 * (i : Int) + 1 + 1 + 1) (by omega) (by omega), wr ((i : Int) + 1) (by omega) (by omega),
        show 1 + 3 * (i : Int) + 1 + 1 + 1 = 1 + 3 * ((i + 1 : Nat) : Int) by omega]
      exact ih K (i + 1) _ (by simp [h0]) (by omega) (by omega)
  obtain ⟨l', e⟩ := h l.length k 0 l rfl (by omega) hk
  exact ⟨l', by unfold laws_markNodeS.f; simpa using e⟩

theorem FnExactPathBetween (l0 : List (S58)) (a1 : Int) (a2 : Int)
    (h0 : l0.length ≤ 9223372036854775807) (h1 : (∀ y ∈ l0, ((Lit.int .i64 y.f0).wf = true) ∧ ((Lit.int .i64 y.f1).wf = true) ∧ ((Lit.int .i64 y.f2).wf = true))) (h2 : (Lit.int .i64 a1).wf = true) (h3 : (Lit.int .i64 a2).wf = true) :
    ∃ k, laws_FnExactPathBetween.f k l0 a1 a2 = some true := by
  obtain ⟨k, hk⟩ : ∃ k : Nat, 1048576 < k := ⟨1048577, by omega⟩
  refine ⟨k + 1, ?_⟩
  unfold laws_FnExactPathBetween.f
  rw [szNodeS_eq l0 1048576 h0 (by omega) (by omega)]
  by_cases hb : (1048576 : Int) < (l0.length : Int)
  · simp [hb]
  · have hl : l0.length ≤ 1048576 := by omega
    have hm : (l0.map toNd).length ≤ 1048576 := by simpa using hl
    have hp := path_len (l0.map toNd) a1
    have hp2 := path_len (l0.map toNd) a2
    have hx : (btw_ (path_ (l0.map toNd) a1) (path_ (l0.map toNd) a2)).length ≤ 1048576 := by
      unfold btw_
      split
      · simp
      · simp; omega
    simp only [if_neg hb, obs]
    rw [if_neg (by omega)]
    obtain ⟨l', hmk⟩ := markNodeS_eq (k + 1) (l0.map toNd) hm (by omega)
    simp only [toNodeS_eq (k + 1) l0 hl (by omega), obs, sbetween_eq _ a1 a2 (by omega : (l0.map toNd).length ≤ 9223372036854775807) (k + 1) (by omega), ibetween_eq _ a1 a2 (by omega : (l0.map toNd).length ≤ 9223372036854775807) (k + 1) (by omega), eqNodeS_eq (k + 1) _ _ hm (by omega), eqIntS_eq (k + 1) _ _ hx (by omega), hmk, decide_true, if_true]
    rw [if_neg (by omega)]
    simp only [laws_FnExactPathBetween.j0, Bool.not_true, Bool.false_eq_true, if_false]
    simp only [toNodeS_eq k l0 hl (by omega), obs, ibetween_eq _ a1 a2 (by omega : (l0.map toNd).length ≤ 9223372036854775807) k (by omega), eqIntS_eq k _ _ hx (by omega), markIntS_eq k _ 1 hx (by omega) (by omega) (by omega), heldIntS_eq k _ 1 hx (by omega) (by omega) (by omega), decide_true, if_true]
    rw [if_neg (by omega)]
    simp
    omega

end Go.Proofs.Ytbgmbhhbonpoaaa.Pure
