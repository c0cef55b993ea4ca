/- Of every list of windows and list of nodes: the program's IsNested and the reference's answer alike. -/
import Derived.Test.YtbgmbhhbonpoaaaPFnExactIsNestedx9
import Derived.Test.YtbgmbhhbonpoaaaCom
namespace Go.Proofs.Ytbgmbhhbonpoaaa.Pure
open Go.RowKit Go.Proofs.Ytbgmbhhbonpoaaa.PFnExactIsNested Go.Proofs.YtbgmbhhbonpoaaaW.PrintWords Go.Proofs.YtbgmbhhbonpoaaaW.PrintLast Go.Proofs.YtbgmbhhbonpoaaaW.PrintMore Go.Proofs.Ytbgmbhhbonpoaaa.Com
set_option linter.unusedVariables false
set_option linter.unusedSimpArgs false

theorem szNodeS_eq (l : List S58) (a : Int) (h0 : l.length ≤ 9223372036854775807) (h1 : 0 ≤ a) (h2 : a ≤ 1048576) :
    laws_szNodeS.f l a = some (if a < (l.length : Int) then -1 else a - (l.length : Int)) := by
  unfold laws_szNodeS.f
  rw [wr (a - (l.length : Int)) (by omega) (by omega)]
  by_cases h : a < (l.length : Int)
  · rw [if_pos (by omega), if_pos h]
  · rw [if_neg (by omega), if_neg h]

theorem szBarS_eq (l : List S73) (a : Int) (h0 : l.length ≤ 9223372036854775807) (h1 : 0 ≤ a) (h2 : a ≤ 1048576) :
    laws_szBarS.f l a = some (if a < (l.length : Int) then -1 else a - (l.length : Int)) := by
  unfold laws_szBarS.f
  rw [wr (a - (l.length : Int)) (by omega) (by omega)]
  by_cases h : a < (l.length : Int)
  · rw [if_pos (by omega), if_pos h]
  · rw [if_neg (by omega), if_neg h]

/-- As Option.bind_some, but not by rfl: rewriting with it below an 'if' with a great number keeps the kernel from unfolding that number. -/
theorem obs {α β : Type} (a : α) (f : α → Option β) : (some a).bind f = f a := by rw [Option.bind_some]

theorem l01In_eq (a b c : Int) : spec_l01In.f a b c = some (decide (b ≤ a ∧ a ≤ c)) := by
  unfold spec_l01In.f; by_cases h : a ≥ b <;> simp [h]

def toNd (x : S58) : S38 := ⟨x.f0, x.f1, x.f2⟩
theorem rd_lnode (xs : List S58) (i : Nat) (h : i < xs.length) : rd_T58 xs (i : Int) = xs[i] := getD_nat _ _ _ h
theorem rd_inode (xs : List S38) (i : Nat) (h : i < xs.length) : rd_T38 xs (i : Int) = xs[i] := getD_nat _ _ _ h
theorem toNodeS_eq (k : Nat) (l : List S58) (hl : l.length ≤ 1048576) (hk : l.length < k) : laws_toNodeS.f k l = some (l.map toNd) := by
  unfold laws_toNodeS.f
  rw [if_pos (by omega), if_pos (by omega)]
  have h := copy_loop laws_toNodeS.l0 toNd l hl (fun k x3 i h h3 => by
      simp only [laws_toNodeS.l0]
      rw [if_pos (by omega), if_pos (by omega), rd_lnode _ _ h]
      simp only [laws_toNode.f, Option.bind_some]
      rw [if_pos (by omega), wr _ (by omega) (by omega)]
      rfl) (fun k x3 h3 => by
      simp only [laws_toNodeS.l0]
      rw [if_neg (by omega)]) l.length k (List.replicate ((l.length : Int)).toNat z38) 0 (by omega) hk (by simp) (fun j hj => by omega)
  exact h
theorem node_ext (a b : S38) (h0 : a.f0 = b.f0) (h1 : a.f1 = b.f1) (h2 : a.f2 = b.f2) : a = b := by cases a; cases b; simp_all
instance : DecidableEq S38 := fun a b => decidable_of_iff (a.f0 = b.f0 ∧ a.f1 = b.f1 ∧ a.f2 = b.f2) ⟨fun h => node_ext a b h.1 h.2.1 h.2.2, fun h => by rw [h]; exact ⟨rfl, rfl, rfl⟩⟩
theorem eqNode_eq (a b : S38) : laws_eqNode.f a.f0 a.f1 a.f2 b.f0 b.f1 b.f2 = some (decide (a = b)) := by
  unfold laws_eqNode.f
  by_cases h0 : a.f0 = b.f0
  · by_cases h1 : a.f1 = b.f1
    · by_cases h2 : a.f2 = b.f2
      · rw [if_pos h0, if_pos h1, if_pos h2]; simp [node_ext a b h0 h1 h2]
      · rw [if_pos h0, if_pos h1, if_neg h2]; simp only [Option.some.injEq]; symm; rw [decide_eq_false_iff_not]; rintro rfl; exact h2 rfl
    · rw [if_pos h0, if_neg h1]; simp only [Option.some.injEq]; symm; rw [decide_eq_false_iff_not]; rintro rfl; exact h1 rfl
  · rw [if_neg h0]; simp only [Option.some.injEq]; symm; rw [decide_eq_false_iff_not]; rintro rfl; exact h0 rfl
theorem eqNodeS_eq (k : Nat) (a b : List S38) (hl : a.length ≤ 1048576) (hk : a.length < k) : laws_eqNodeS.f k a b = some (decide (a = b)) := by
  unfold laws_eqNodeS.f
  by_cases e : b.length = a.length
  · rw [if_pos (by omega)]
    have h := eq_loop laws_eqNodeS.l0 a b hl e (fun k i h hx => by
        simp only [laws_eqNodeS.l0]
        rw [if_pos (by omega), if_pos (by omega), if_pos (by omega), rd_inode _ _ h, rd_inode _ _ (by omega), eqNode_eq]
        simp [hx]) (fun k i h hx => by
        simp only [laws_eqNodeS.l0]
        rw [if_pos (by omega), if_pos (by omega), if_pos (by omega), rd_inode _ _ h, rd_inode _ _ (by omega), eqNode_eq, wr _ (by omega) (by omega)]
        simp only [hx, decide_true, Option.bind_some, if_true]
        rfl) (fun k => by
        simp only [laws_eqNodeS.l0]
        rw [if_neg (by omega)]) a.length k 0 (by omega) hk
    simpa using h
  · rw [if_neg (by omega)]
    congr 1
    symm
    rw [decide_eq_false_iff_not]
    rintro rfl
    exact e rfl

abbrev ND := S38
/-- A sibling in the same place. -/
def sib_ (p d : Int) (x : ND) : Bool := decide (x.f0 = p) && decide (x.f1 = d)
/-- Is the node n well at place k of the tree? -/
def row_ (l : List ND) (k : Nat) (n : ND) : Bool :=
  decide (0 ≤ n.f0 ∧ n.f0 < (k : Int)) && (decide ((rd_T38 l n.f0).f2 = 0) && (decide (0 ≤ n.f1 ∧ n.f1 ≤ 3) && (decide (0 ≤ n.f2 ∧ n.f2 ≤ 4) && !(l.take k).any (sib_ n.f0 n.f1))))
def rows_ (l : List ND) : Nat → Nat → Bool
  | 0, _ => true
  | d + 1, k => row_ l k (rd_T38 l (k : Int)) && rows_ l d (k + 1)
def root_ (l : List ND) : Bool := (rd_T38 l 0).f0 == (-1) && ((rd_T38 l 0).f1 == 0 && (rd_T38 l 0).f2 == 0)
def tree_ (l : List ND) : Bool := decide (1 ≤ (l.length : Int) ∧ (l.length : Int) ≤ 12) && (root_ l && rows_ l (l.length - 1) 1)
theorem tree_len {l : List ND} (h : tree_ l = true) : 1 ≤ l.length ∧ l.length ≤ 12 := by
  simp only [tree_, Bool.and_eq_true, decide_eq_true_eq] at h; omega
theorem tree_root {l : List ND} (h : tree_ l = true) : (rd_T38 l 0).f0 = -1 := by
  simp only [tree_, root_, Bool.and_eq_true, decide_eq_true_eq, beq_iff_eq] at h; exact h.2.1.1
theorem rows_row (l : List ND) : ∀ d k j, rows_ l d k = true → k ≤ j → j < k + d → row_ l j (rd_T38 l (j : Int)) = true := by
  intro d
  induction d with
  | zero => intro k j _ _ _; omega
  | succ d ih =>
    intro k j h h1 h2
    simp only [rows_, Bool.and_eq_true] at h
    by_cases e : j = k
    · subst e; exact h.1
    · exact ih (k + 1) j h.2 (by omega) (by omega)
theorem tree_row {l : List ND} (h : tree_ l = true) (j : Nat) (h0 : 0 < j) (h1 : j < l.length) : row_ l j (rd_T38 l (j : Int)) = true := by
  simp only [tree_, Bool.and_eq_true] at h
  exact rows_row l _ 1 j h.2.2 (by omega) (by omega)
theorem tree_parent {l : List ND} (h : tree_ l = true) (j : Nat) (h0 : 0 < j) (h1 : j < l.length) : 0 ≤ (rd_T38 l (j : Int)).f0 ∧ (rd_T38 l (j : Int)).f0 < (j : Int) := by
  have := tree_row h j h0 h1
  simp only [row_, Bool.and_eq_true, decide_eq_true_eq] at this
  exact this.1

theorem sib_root {l : List ND} (hl : 0 < l.length) (hr : (rd_T38 l 0).f0 = -1) (p d : Int) (hp : 0 ≤ p) (k : Nat) (hk : 1 ≤ k) : (l.take k).any (sib_ p d) = ((l.take k).drop 1).any (sib_ p d) := by
  cases l with
  | nil => simp at hl
  | cons x xs =>
    obtain ⟨k, rfl⟩ : ∃ m, k = m + 1 := ⟨k - 1, by omega⟩
    have hx : x.f0 = -1 := hr
    have : sib_ p d x = false := by unfold sib_; rw [hx]; rw [decide_eq_false (show ¬ (-1 : Int) = p by omega)]; rfl
    simp [this]
theorem sl1_eq (l : List ND) (k : Nat) (hk : k < l.length) (hl : l.length ≤ 12) (p d f : Int) (R : Bool) (B : Nat) (hR : ∀ K, B < K → spec_TreeOk.l0 K l ((k + 1 : Nat) : Int) = some R) :
    ∀ e K i, i + e = k → B + e + 1 < K → spec_TreeOk.l1 K l (k : Int) (i : Int) p d f = some (if ((l.take k).drop i).any (sib_ p d) then false else R) := by
  intro e
  induction e with
  | zero =>
    intro K i hi hK
    obtain ⟨K, rfl⟩ : ∃ m, K = m + 1 := ⟨K - 1, by omega⟩
    obtain rfl : i = k := by omega
    simp only [spec_TreeOk.l1]
    rw [if_neg (by omega), wr ((i : Int) + 1) (by omega) (by omega), List.drop_of_length_le (by simp; omega)]
    simpa using hR K (by omega)
  | succ e ih =>
    intro K i hi hK
    obtain ⟨K, rfl⟩ : ∃ m, K = m + 1 := ⟨K - 1, by omega⟩
    have hlt : i < (l.take k).length := by simp; omega
    have hg : (l.take k)[i] = l[i]'(by omega) := by simp
    have e1 : ((i : Int) + 1) = ((i + 1 : Nat) : Int) := by omega
    simp only [spec_TreeOk.l1]
    rw [if_pos (by omega), if_pos (by omega), if_pos (by omega), rd_inode _ _ (by omega), wr ((i : Int) + 1) (by omega) (by omega), List.drop_eq_getElem_cons hlt, hg, e1, ih K (i + 1) (by omega) (by omega)]
    rw [List.any_cons]
    by_cases h0 : (l[i]'(by omega)).f0 = p
    · by_cases h1 : (l[i]'(by omega)).f1 = d
      · rw [if_pos h0, if_pos h1]; simp [sib_, h0, h1]
      · rw [if_pos h0, if_neg h1]; simp [sib_, h0, h1]
    · rw [if_neg h0]; simp [sib_, h0]
theorem sl0_eq (l : List ND) (h1 : 1 ≤ l.length) (hl : l.length ≤ 12) (hr : (rd_T38 l 0).f0 = -1) :
    ∀ d K k, 1 ≤ k → k + d = l.length → 16 * d < K → spec_TreeOk.l0 K l (k : Int) = some (rows_ l d k) := by
  intro d
  induction d with
  | zero =>
    intro K k hk hd hK
    obtain ⟨K, rfl⟩ : ∃ m, K = m + 1 := ⟨K - 1, by omega⟩
    simp only [spec_TreeOk.l0]
    rw [if_neg (by omega)]; rfl
  | succ d ih =>
    intro K k hk hd hK
    obtain ⟨K, rfl⟩ : ∃ m, K = m + 2 := ⟨K - 2, by omega⟩
    have hx : ∀ b p d' f, spec_TreeOk.j2 (K + 1) l (k : Int) b p d' f = if b = true then some false else spec_TreeOk.l1 K l (k : Int) 1 p d' f := fun b p d' f => by simp only [spec_TreeOk.j2]
    have hin : ∀ p d' f, 0 ≤ p → spec_TreeOk.l1 K l (k : Int) 1 p d' f = some (if (l.take k).any (sib_ p d') then false else rows_ l d (k + 1)) := fun p d' f hp => by
      have h := sl1_eq l k (by omega) hl p d' f (rows_ l d (k + 1)) (16 * d) (fun K' hK' => ih K' (k + 1) (by omega) (by omega) hK') (k - 1) K 1 (by omega) (by omega)
      rw [sib_root (by omega) hr p d' hp k hk]
      exact h
    simp only [spec_TreeOk.l0]
    rw [if_pos (by omega), if_pos (by omega), wr ((k : Int) - 1) (by omega) (by omega)]
    unfold rows_ row_
    generalize rd_T38 l (k : Int) = n
    simp only [l01In_eq, Option.bind_some, hx]
    by_cases c0 : 0 ≤ n.f0 ∧ n.f0 < (k : Int)
    · rw [if_pos (by simp; omega), if_pos c0.1, if_pos (by omega), decide_eq_true c0, Bool.true_and]
      by_cases c1 : (rd_T38 l n.f0).f2 = 0
      · rw [if_pos c1, decide_eq_true c1, Bool.true_and]
        by_cases c2 : 0 ≤ n.f1 ∧ n.f1 ≤ 3
        · rw [decide_eq_true c2, if_pos rfl, Bool.true_and]
          by_cases c3 : 0 ≤ n.f2 ∧ n.f2 ≤ 4
          · rw [decide_eq_true c3, if_neg (by simp), Bool.true_and, hin _ _ _ c0.1]
            cases (l.take k).any (sib_ n.f0 n.f1) <;> simp
          · rw [decide_eq_false c3]; simp
        · rw [decide_eq_false c2]; simp
      · rw [if_neg c1, decide_eq_false c1]; simp
    · rw [if_neg (by simp; omega), decide_eq_false c0]; simp
theorem stree_eq (l : List ND) (hl : l.length ≤ 9223372036854775807) (K : Nat) (hK : 200 < K) : spec_TreeOk.f K l = some (tree_ l) := by
  obtain ⟨K, rfl⟩ : ∃ m, K = m + 1 := ⟨K - 1, by omega⟩
  unfold spec_TreeOk.f tree_
  simp only [l01In_eq, Option.bind_some, spec_TreeOk.j0]
  by_cases c : 1 ≤ (l.length : Int) ∧ (l.length : Int) ≤ 12
  · rw [decide_eq_true c, if_pos rfl, if_pos (by omega), Bool.true_and]
    by_cases hr : root_ l = true
    · have hr0 : (rd_T38 l 0).f0 = -1 := by
        simp only [root_, Bool.and_eq_true, beq_iff_eq] at hr; exact hr.1
      have h := sl0_eq l (by omega) (by omega) hr0 (l.length - 1) K 1 (by omega) (by omega) (by omega)
      have hr2 := hr
      simp only [root_, Bool.and_eq_true, beq_iff_eq] at hr2
      rw [hr, Bool.true_and, if_neg (by simp [hr2])]
      exact h
    · rw [Bool.not_eq_true] at hr
      rw [hr, if_pos, Bool.false_and]
      unfold root_ at hr
      revert hr
      cases (rd_T38 l 0).f0 == -1 <;> cases (rd_T38 l 0).f1 == 0 <;> cases (rd_T38 l 0).f2 == 0 <;> simp
  · rw [decide_eq_false c, if_neg (by simp), Bool.false_and]; simp

theorem within_eq (a b c : Int) : impl_within.f a b c = some (decide (b ≤ a ∧ a ≤ c)) := by
  unfold impl_within.f; by_cases h : a ≥ b <;> simp [h]



theorem il0_eq (l : List ND) (h1 : 1 ≤ l.length) (hl : l.length ≤ 12) :
    ∀ d K (j : Nat), j + 1 + d = l.length → 2 * d < K → impl_TreeOk.l0 K l (l.drop 1) ((l.drop 1).length : Int) (j : Int) = some (rows_ l d (j + 1)) := by
  intro d
  have hd1 : (l.drop 1).length = l.length - 1 := by simp
  induction d with
  | zero =>
    intro K j hd hK
    obtain ⟨K, rfl⟩ : ∃ m, K = m + 1 := ⟨K - 1, by omega⟩
    simp only [impl_TreeOk.l0]
    rw [if_neg (by omega)]; rfl
  | succ d ih =>
    intro K j hd hK
    obtain ⟨K, rfl⟩ : ∃ m, K = m + 2 := ⟨K - 2, by omega⟩
    have e1 : ((j : Int) + 1) = ((j + 1 : Nat) : Int) := by omega
    have hrd : rd_T38 (l.drop 1) (j : Int) = rd_T38 l ((j + 1 : Nat) : Int) := by
      rw [rd_inode _ _ (by omega), rd_inode _ _ (by omega)]
      simp [Nat.add_comm]
    have hrt : ∀ p : Int, 0 ≤ p → p < ((j + 1 : Nat) : Int) → rd_T38 (l.take (j + 1)) p = rd_T38 l p := by
      intro p hp0 hp1
      obtain ⟨q, rfl⟩ : ∃ q : Nat, p = (q : Int) := ⟨p.toNat, by omega⟩
      rw [rd_inode _ _ (by simp; omega), rd_inode _ _ (by omega)]
      simp
    have hx : ∀ b p d' f, impl_TreeOk.j2 (K + 1) l (l.take (j + 1)) (l.drop 1) ((l.drop 1).length : Int) (j : Int) b p d' f = if b = true then some false else some (if (l.take (j + 1)).any (sib_ p d') then false else rows_ l d (j + 1 + 1)) := fun b p d' f => by
      simp only [impl_TreeOk.j2, impl_Node_impl_TreeOk_1.f, Option.bind_some]
      rw [wr ((j : Int) + 1) (by omega) (by omega), e1, ih K (j + 1) (by omega) (by omega)]
      unfold sib_
      cases b <;> cases (l.take (j + 1)).any (fun x => decide (x.f0 = p) && decide (x.f1 = d')) <;> simp
    simp only [impl_TreeOk.l0]
    rw [if_pos (by omega), if_pos (by omega), if_pos (by omega), wr ((j : Int) + 1) (by omega) (by omega), if_pos (by omega), if_pos (by omega), e1]
    rw [hrd, Int.toNat_natCast]
    unfold rows_ row_
    generalize hn : rd_T38 l ((j + 1 : Nat) : Int) = n
    simp only [within_eq, Option.bind_some, hx]
    have ht : ((l.take (j + 1)).length : Int) = ((j + 1 : Nat) : Int) := by simp; omega
    by_cases c0 : 0 ≤ n.f0 ∧ n.f0 < ((j + 1 : Nat) : Int)
    · rw [if_pos (by simp; omega), if_pos c0.1, if_pos (by rw [ht]; omega), decide_eq_true c0, Bool.true_and, hrt _ c0.1 c0.2]
      by_cases c1 : (rd_T38 l n.f0).f2 = 0
      · rw [if_pos c1, decide_eq_true c1, Bool.true_and]
        by_cases c2 : 0 ≤ n.f1 ∧ n.f1 ≤ 3
        · rw [decide_eq_true c2, if_pos rfl, Bool.true_and]
          by_cases c3 : 0 ≤ n.f2 ∧ n.f2 ≤ 4
          · rw [decide_eq_true c3, if_neg (by simp), Bool.true_and]
            cases (l.take (j + 1)).any (sib_ n.f0 n.f1) <;> simp
          · rw [decide_eq_false c3]; simp
        · rw [decide_eq_false c2]; simp
      · rw [if_neg c1, decide_eq_false c1]; simp
    · rw [if_neg (by simp; omega), decide_eq_false c0]; simp
theorem itree_eq (l : List ND) (hl : l.length ≤ 9223372036854775807) (K : Nat) (hK : 200 < K) : impl_TreeOk.f K l = some (tree_ l) := by
  obtain ⟨K, rfl⟩ : ∃ m, K = m + 1 := ⟨K - 1, by omega⟩
  unfold impl_TreeOk.f tree_
  simp only [within_eq, Option.bind_some, impl_TreeOk.j0]
  by_cases c : 1 ≤ (l.length : Int) ∧ (l.length : Int) ≤ 12
  · rw [decide_eq_true c, if_pos rfl, if_pos (by omega), Bool.true_and, if_pos (show (1 : Int) ≤ (l.length : Int) from c.1)]
    have h := il0_eq l (by omega) (by omega) (l.length - 1) K 0 (by omega) (by omega)
    by_cases hr : root_ l = true
    · have hr2 := hr
      simp only [root_, Bool.and_eq_true, beq_iff_eq] at hr2
      rw [hr, Bool.true_and, if_neg (by simp [hr2])]
      exact h
    · rw [Bool.not_eq_true] at hr
      rw [hr, if_pos, Bool.false_and]
      unfold root_ at hr
      revert hr
      cases (rd_T38 l 0).f0 == -1 <;> cases (rd_T38 l 0).f1 == 0 <;> cases (rd_T38 l 0).f2 == 0 <;> simp
  · rw [decide_eq_false c, if_neg (by simp), Bool.false_and]; simp

theorem tree_f2 {l : List ND} (h : tree_ l = true) (j : Nat) (h1 : j < l.length) : 0 ≤ (rd_T38 l (j : Int)).f2 ∧ (rd_T38 l (j : Int)).f2 ≤ 4 := by
  by_cases hj : j = 0
  · subst hj
    simp only [tree_, root_, Bool.and_eq_true, decide_eq_true_eq, beq_iff_eq] at h
    have e : (((0 : Nat) : Int)) = 0 := rfl
    rw [e, h.2.1.2.2]; omega
  · have := tree_row h j (by omega) h1
    simp only [row_, Bool.and_eq_true, decide_eq_true_eq] at this
    exact this.2.2.2.1

def toB (x : S73) : S71 := ⟨x.f0, x.f1⟩
theorem rd_lbar (xs : List S73) (i : Nat) (h : i < xs.length) : rd_T73 xs (i : Int) = xs[i] := getD_nat _ _ _ h
theorem rd_ibar (xs : List S71) (i : Nat) (h : i < xs.length) : rd_T71 xs (i : Int) = xs[i] := getD_nat _ _ _ h
theorem toBarS_eq (k : Nat) (l : List S73) (hl : l.length ≤ 1048576) (hk : l.length < k) : laws_toBarS.f k l = some (l.map toB) := by
  unfold laws_toBarS.f
  rw [if_pos (by omega), if_pos (by omega)]
  have h := copy_loop laws_toBarS.l0 toB l hl (fun k x3 i h h3 => by
      simp only [laws_toBarS.l0]
      rw [if_pos (by omega), if_pos (by omega), rd_lbar _ _ h]
      simp only [laws_toBar.f, Option.bind_some]
      rw [if_pos (by omega), wr _ (by omega) (by omega)]
      rfl) (fun k x3 h3 => by
      simp only [laws_toBarS.l0]
      rw [if_neg (by omega)]) l.length k (List.replicate ((l.length : Int)).toNat z71) 0 (by omega) hk (by simp) (fun j hj => by omega)
  exact h
theorem bar_ext (a b : S71) (h0 : a.f0 = b.f0) (h1 : a.f1 = b.f1) : a = b := by cases a; cases b; simp_all
instance : DecidableEq S71 := fun a b => decidable_of_iff (a.f0 = b.f0 ∧ a.f1 = b.f1) ⟨fun h => bar_ext a b h.1 h.2, fun h => by rw [h]; exact ⟨rfl, rfl⟩⟩
theorem eqBar_eq (a b : S71) : laws_eqBar.f a.f0 a.f1 b.f0 b.f1 = some (decide (a = b)) := by
  unfold laws_eqBar.f
  by_cases h0 : a.f0 = b.f0
  · by_cases h1 : a.f1 = b.f1
    · rw [if_pos h0, if_pos h1]; simp [bar_ext a b h0 h1]
    · rw [if_pos h0, if_neg h1]; simp only [Option.some.injEq]; symm; rw [decide_eq_false_iff_not]; rintro rfl; exact h1 rfl
  · rw [if_neg h0]; simp only [Option.some.injEq]; symm; rw [decide_eq_false_iff_not]; rintro rfl; exact h0 rfl
theorem eqBarS_eq (k : Nat) (a b : List S71) (hl : a.length ≤ 1048576) (hk : a.length < k) : laws_eqBarS.f k a b = some (decide (a = b)) := by
  unfold laws_eqBarS.f
  by_cases e : b.length = a.length
  · rw [if_pos (by omega)]
    have h := eq_loop laws_eqBarS.l0 a b hl e (fun k i h hx => by
        simp only [laws_eqBarS.l0]
        rw [if_pos (by omega), if_pos (by omega), if_pos (by omega), rd_ibar _ _ h, rd_ibar _ _ (by omega), eqBar_eq]
        simp [hx]) (fun k i h hx => by
        simp only [laws_eqBarS.l0]
        rw [if_pos (by omega), if_pos (by omega), if_pos (by omega), rd_ibar _ _ h, rd_ibar _ _ (by omega), eqBar_eq, wr _ (by omega) (by omega)]
        simp only [hx, decide_true, Option.bind_some, if_true]
        rfl) (fun k => by
        simp only [laws_eqBarS.l0]
        rw [if_neg (by omega)]) a.length k 0 (by omega) hk
    simpa using h
  · rw [if_neg (by omega)]
    congr 1
    symm
    rw [decide_eq_false_iff_not]
    rintro rfl
    exact e rfl

abbrev BA := S71
def covB (sz base a : Int) : Bool := decide (sz > 0) && (decide (a ≥ base) && decide ((IntKind.u64.wrap ((IntKind.u64.wrap a) - (IntKind.u64.wrap base))) < (IntKind.u64.wrap sz)))
theorem icov_eq (sz base a : Int) : impl_Bar_covers.f sz base a = some (covB sz base a) := by
  unfold impl_Bar_covers.f covB
  by_cases h : sz > 0
  · by_cases h2 : a ≥ base
    · rw [if_pos h, if_pos h2, decide_eq_true h, decide_eq_true h2]; rfl
    · rw [if_pos h, if_neg h2, decide_eq_false h2]; simp
  · rw [if_neg h, decide_eq_false h]; rfl

def wfB (x : BA) : Prop := (-9223372036854775808 ≤ x.f0 ∧ x.f0 ≤ 9223372036854775807) ∧ (-9223372036854775808 ≤ x.f1 ∧ x.f1 ≤ 9223372036854775807)
def ins_ (c p : BA) : Bool := covB p.f0 p.f1 c.f1 && decide (c.f0 ≤ wrap64 (p.f0 - wrap64 (c.f1 - p.f1)))
def ov_ (a b : BA) : Bool := decide (a.f0 > 0) && (decide (b.f0 > 0) && (covB a.f0 a.f1 b.f1 || covB b.f0 b.f1 a.f1))
theorem covB_iff (x : BA) (a : Int) (h : wfB x) (ha : -9223372036854775808 ≤ a ∧ a ≤ 9223372036854775807) : covB x.f0 x.f1 a = true ↔ (x.f0 > 0 ∧ x.f1 ≤ a ∧ a - x.f1 < x.f0) := by
  obtain ⟨h1, h2⟩ := h
  unfold covB
  simp only [Bool.and_eq_true, decide_eq_true_eq, u64_eq]
  omega
theorem ov_comm (a b : BA) : ov_ a b = ov_ b a := by
  unfold ov_
  cases decide (a.f0 > 0) <;> cases decide (b.f0 > 0) <;> simp [Bool.or_comm]
theorem ins_iff (c p : BA) (hc : wfB c) (hp : wfB p) (h0 : 0 < c.f0) : ins_ c p = true ↔ (p.f1 ≤ c.f1 ∧ c.f0 ≤ p.f0 ∧ c.f1 - p.f1 ≤ p.f0 - c.f0) := by
  have h := covB_iff p c.f1 hp hc.2
  obtain ⟨h1, h2⟩ := hc
  obtain ⟨h3, h4⟩ := hp
  unfold ins_
  rw [Bool.and_eq_true, h, decide_eq_true_eq]
  constructor
  · rintro ⟨⟨g0, g1, g2⟩, g3⟩
    rw [wr (c.f1 - p.f1) (by omega) (by omega), wr _ (by omega) (by omega)] at g3
    omega
  · intro g
    rw [wr (c.f1 - p.f1) (by omega) (by omega), wr _ (by omega) (by omega)]
    omega
theorem ov_iff (a b : BA) (ha : wfB a) (hb : wfB b) : ov_ a b = true ↔ (a.f0 > 0 ∧ b.f0 > 0 ∧ ((a.f1 ≤ b.f1 ∧ b.f1 - a.f1 < a.f0) ∨ (b.f1 ≤ a.f1 ∧ a.f1 - b.f1 < b.f0))) := by
  unfold ov_
  simp only [Bool.and_eq_true, Bool.or_eq_true, decide_eq_true_eq, covB_iff a b.f1 ha hb.2, covB_iff b a.f1 hb ha.2]
  omega
def nd_ (t : List ND) (k : Nat) : ND := rd_T38 t (k : Int)
def ba_ (w : List BA) (k : Nat) : BA := rd_T71 w (k : Int)
def apS (w : List BA) (t : List ND) (i : Nat) : Nat → Nat → Bool
  | 0, _ => true
  | d + 1, j => (if (nd_ t j).f0 = (nd_ t i).f0 then !ov_ (ba_ w j) (ba_ w i) else true) && apS w t i d (j + 1)
def apI (w : List BA) (t : List ND) (i : Nat) : Nat → Nat → Bool
  | 0, _ => true
  | d + 1, j => (if j = i then true else if (nd_ t j).f0 = (nd_ t i).f0 then !ov_ (ba_ w i) (ba_ w j) else true) && apI w t i d (j + 1)
def par_ (w : List BA) (t : List ND) (k : Nat) : BA := rd_T71 w (nd_ t k).f0
def nsS (w : List BA) (t : List ND) : Nat → Nat → Bool
  | 0, _ => true
  | d + 1, k => (if (ba_ w k).f0 ≤ 0 then true else ins_ (ba_ w k) (par_ w t k) && apS w t k (k - 1) 1) && nsS w t d (k + 1)
def nsI (w : List BA) (t : List ND) : Nat → Nat → Bool
  | 0, _ => true
  | d + 1, k => (if (ba_ w k).f0 ≤ 0 then true else ins_ (ba_ w k) (par_ w t k) && apI w t k (t.length - 1) 1) && nsI w t d (k + 1)
def nested_ (w : List BA) (t : List ND) : Bool := tree_ t && (decide (w.length = t.length) && nsS w t (t.length - 1) 1)
theorem apS_iff (w : List BA) (t : List ND) (i : Nat) : ∀ d j, apS w t i d j = true ↔ ∀ x, j ≤ x → x < j + d → (nd_ t x).f0 = (nd_ t i).f0 → ov_ (ba_ w x) (ba_ w i) = false := by
  intro d
  induction d with
  | zero => intro j; exact ⟨fun _ x h1 h2 => by omega, fun _ => rfl⟩
  | succ d ih =>
    intro j
    have e : apS w t i (d + 1) j = ((if (nd_ t j).f0 = (nd_ t i).f0 then !ov_ (ba_ w j) (ba_ w i) else true) && apS w t i d (j + 1)) := rfl
    rw [e, Bool.and_eq_true, ih (j + 1)]
    constructor
    · rintro ⟨h1, h2⟩ x hx1 hx2 hx
      by_cases ex : x = j
      · subst ex; rw [if_pos hx] at h1; simpa using h1
      · exact h2 x (by omega) (by omega) hx
    · intro h
      refine ⟨?_, fun x h1 h2 h3 => h x (by omega) (by omega) h3⟩
      by_cases hx : (nd_ t j).f0 = (nd_ t i).f0
      · rw [if_pos hx, h j (Nat.le_refl _) (by omega) hx]; rfl
      · rw [if_neg hx]
theorem apI_iff (w : List BA) (t : List ND) (i : Nat) : ∀ d j, apI w t i d j = true ↔ ∀ x, j ≤ x → x < j + d → x ≠ i → (nd_ t x).f0 = (nd_ t i).f0 → ov_ (ba_ w i) (ba_ w x) = false := by
  intro d
  induction d with
  | zero => intro j; exact ⟨fun _ x h1 h2 => by omega, fun _ => rfl⟩
  | succ d ih =>
    intro j
    have e : apI w t i (d + 1) j = ((if j = i then true else if (nd_ t j).f0 = (nd_ t i).f0 then !ov_ (ba_ w i) (ba_ w j) else true) && apI w t i d (j + 1)) := rfl
    rw [e, Bool.and_eq_true, ih (j + 1)]
    constructor
    · rintro ⟨h1, h2⟩ x hx1 hx2 hn hx
      by_cases ex : x = j
      · subst ex; rw [if_neg hn, if_pos hx] at h1; simpa using h1
      · exact h2 x (by omega) (by omega) hn hx
    · intro h
      refine ⟨?_, fun x h1 h2 h3 h4 => h x (by omega) (by omega) h3 h4⟩
      by_cases hn : j = i
      · rw [if_pos hn]
      · rw [if_neg hn]
        by_cases hx : (nd_ t j).f0 = (nd_ t i).f0
        · rw [if_pos hx, h j (Nat.le_refl _) (by omega) hn hx]; rfl
        · rw [if_neg hx]
theorem nsS_iff (w : List BA) (t : List ND) : ∀ d k, nsS w t d k = true ↔ ∀ x, k ≤ x → x < k + d → 0 < (ba_ w x).f0 → (ins_ (ba_ w x) (par_ w t x) = true ∧ apS w t x (x - 1) 1 = true) := by
  intro d
  induction d with
  | zero => intro j; exact ⟨fun _ x h1 h2 => by omega, fun _ => rfl⟩
  | succ d ih =>
    intro k
    have e : nsS w t (d + 1) k = ((if (ba_ w k).f0 ≤ 0 then true else ins_ (ba_ w k) (par_ w t k) && apS w t k (k - 1) 1) && nsS w t d (k + 1)) := rfl
    rw [e, Bool.and_eq_true, ih (k + 1)]
    constructor
    · rintro ⟨h1, h2⟩ x hx1 hx2 hx
      by_cases ex : x = k
      · subst ex; rw [if_neg (by omega), Bool.and_eq_true] at h1; exact h1
      · exact h2 x (by omega) (by omega) hx
    · intro h
      refine ⟨?_, fun x h1 h2 h3 => h x (by omega) (by omega) h3⟩
      by_cases hx : (ba_ w k).f0 ≤ 0
      · rw [if_pos hx]
      · rw [if_neg hx, Bool.and_eq_true]; exact h k (Nat.le_refl _) (by omega) (by omega)
theorem nsI_iff (w : List BA) (t : List ND) : ∀ d k, nsI w t d k = true ↔ ∀ x, k ≤ x → x < k + d → 0 < (ba_ w x).f0 → (ins_ (ba_ w x) (par_ w t x) = true ∧ apI w t x (t.length - 1) 1 = true) := by
  intro d
  induction d with
  | zero => intro j; exact ⟨fun _ x h1 h2 => by omega, fun _ => rfl⟩
  | succ d ih =>
    intro k
    have e : nsI w t (d + 1) k = ((if (ba_ w k).f0 ≤ 0 then true else ins_ (ba_ w k) (par_ w t k) && apI w t k (t.length - 1) 1) && nsI w t d (k + 1)) := rfl
    rw [e, Bool.and_eq_true, ih (k + 1)]
    constructor
    · rintro ⟨h1, h2⟩ x hx1 hx2 hx
      by_cases ex : x = k
      · subst ex; rw [if_neg (by omega), Bool.and_eq_true] at h1; exact h1
      · exact h2 x (by omega) (by omega) hx
    · intro h
      refine ⟨?_, fun x h1 h2 h3 => h x (by omega) (by omega) h3⟩
      by_cases hx : (ba_ w k).f0 ≤ 0
      · rw [if_pos hx]
      · rw [if_neg hx, Bool.and_eq_true]; exact h k (Nat.le_refl _) (by omega) (by omega)
theorem ov_pos {a b : BA} (h : ¬ 0 < b.f0) : ov_ a b = false := by
  unfold ov_; rw [show decide (b.f0 > 0) = false from decide_eq_false h]; simp
theorem ns_same (w : List BA) (t : List ND) : nsS w t (t.length - 1) 1 = nsI w t (t.length - 1) 1 := by
  rw [Bool.eq_iff_iff, nsS_iff, nsI_iff]
  constructor
  · intro h x h1 h2 h0
    refine ⟨(h x h1 h2 h0).1, (apI_iff w t x _ 1).2 (fun y hy1 hy2 hn hy => ?_)⟩
    by_cases hlt : y < x
    · rw [ov_comm]; exact (apS_iff w t x _ 1).1 (h x h1 h2 h0).2 y hy1 (by omega) hy
    · by_cases hp : 0 < (ba_ w y).f0
      · exact (apS_iff w t y _ 1).1 (h y hy1 hy2 hp).2 x h1 (by omega) hy.symm
      · exact ov_pos hp
  · intro h x h1 h2 h0
    refine ⟨(h x h1 h2 h0).1, (apS_iff w t x _ 1).2 (fun y hy1 hy2 hy => ?_)⟩
    rw [ov_comm]; exact (apI_iff w t x _ 1).1 (h x h1 h2 h0).2 y hy1 (by omega) (by omega) hy

theorem bad_eq (c p : BA) (hc : wfB c) (hp : wfB p) (h0 : 0 < c.f0) (F : Bool → Option Bool) : (if c.f1 < p.f1 then F true else (if p.f0 < c.f0 then F true else ((spec_l24Far.f p.f1 c.f1).bind fun t154 => F (decide (t154 > (IntKind.u64.wrap (wrap64 (p.f0 - c.f0)))))))) = F (!ins_ c p) := by
  have h := ins_iff c p hc hp h0
  obtain ⟨h1, h2⟩ := hc
  obtain ⟨h3, h4⟩ := hp
  by_cases g1 : c.f1 < p.f1
  · rw [if_pos g1, show ins_ c p = false from Bool.eq_false_iff.2 (fun e => by have := h.1 e; omega)]; rfl
  · rw [if_neg g1]
    by_cases g2 : p.f0 < c.f0
    · rw [if_pos g2, show ins_ c p = false from Bool.eq_false_iff.2 (fun e => by have := h.1 e; omega)]; rfl
    · rw [if_neg g2]
      unfold spec_l24Far.f
      rw [obs]
      congr 1
      rw [wr (p.f0 - c.f0) (by omega) (by omega), Bool.eq_iff_iff, decide_eq_true_eq, Bool.not_eq_true', ← Bool.not_eq_true, h]
      simp only [u64_eq]
      omega
theorem sap_eq (k : Nat) (hk : 0 < k) (a b : BA) (ha : wfB a) (hb : wfB b) : spec_l24Apart.f k a.f0 a.f1 b.f0 b.f1 = some (!ov_ a b) := by
  obtain ⟨k, rfl⟩ : ∃ m, k = m + 1 := ⟨k - 1, by omega⟩
  have h := ov_iff a b ha hb
  obtain ⟨h1, h2⟩ := ha
  obtain ⟨h3, h4⟩ := hb
  unfold spec_l24Apart.f
  simp only [spec_l24Apart.j0, spec_l24Far.f, obs]
  by_cases g0 : a.f0 ≤ 0
  · rw [if_pos g0, if_pos trivial, show ov_ a b = false from Bool.eq_false_iff.2 (fun e => by have := h.1 e; omega)]; rfl
  · rw [if_neg g0]
    by_cases g1 : b.f0 ≤ 0
    · rw [if_pos (by simp [g1]), show ov_ a b = false from Bool.eq_false_iff.2 (fun e => by have := h.1 e; omega)]; rfl
    · rw [if_neg (by simp; omega)]
      by_cases g2 : a.f1 ≥ b.f1
      · rw [if_pos g2]
        congr 1
        rw [Bool.eq_iff_iff, decide_eq_true_eq, Bool.not_eq_true', ← Bool.not_eq_true, h]
        simp only [u64_eq]
        omega
      · rw [if_neg g2]
        congr 1
        rw [Bool.eq_iff_iff, decide_eq_true_eq, Bool.not_eq_true', ← Bool.not_eq_true, h]
        simp only [u64_eq]
        omega
theorem snl1_eq (w : List BA) (t : List ND) (i : Nat) (hw : ∀ x : Nat, wfB (ba_ w x)) (hi : i < t.length) (hs : w.length = t.length) (hl : t.length ≤ 12) (R : Bool) (B : Nat) (hR : ∀ K, B < K → spec_IsNested.l0 K w t ((i + 1 : Nat) : Int) = some R) :
    ∀ d K j, j + d = i → B + d + 2 < K → spec_IsNested.l1 K w t (i : Int) (j : Int) = some (apS w t i d j && R) := by
  intro d
  induction d with
  | zero =>
    intro K j hj hK
    obtain ⟨K, rfl⟩ : ∃ m, K = m + 1 := ⟨K - 1, by omega⟩
    simp only [spec_IsNested.l1]
    rw [if_neg (by omega), wr ((i : Int) + 1) (by omega) (by omega)]
    simpa [apS] using hR K (by omega)
  | succ d ih =>
    intro K j hj hK
    obtain ⟨K, rfl⟩ : ∃ m, K = m + 1 := ⟨K - 1, by omega⟩
    have e : apS w t i (d + 1) j = ((if (nd_ t j).f0 = (nd_ t i).f0 then !ov_ (ba_ w j) (ba_ w i) else true) && apS w t i d (j + 1)) := rfl
    have hap : spec_l24Apart.f K (rd_T71 w (j : Int)).f0 (rd_T71 w (j : Int)).f1 (rd_T71 w (i : Int)).f0 (rd_T71 w (i : Int)).f1 = some (!ov_ (ba_ w j) (ba_ w i)) := sap_eq K (by omega) (ba_ w j) (ba_ w i) (hw j) (hw i)
    simp only [spec_IsNested.l1]
    rw [if_pos (by omega), if_pos (by omega), if_pos (by omega), if_pos (by omega), if_pos (by omega), wr ((j : Int) + 1) (by omega) (by omega), show (j : Int) + 1 = ((j + 1 : Nat) : Int) by omega, ih K (j + 1) (by omega) (by omega), hap, e]
    by_cases h : (nd_ t j).f0 = (nd_ t i).f0
    · have h' : (rd_T38 t (j : Int)).f0 = (rd_T38 t (i : Int)).f0 := h
      rw [if_pos h', if_pos (by omega), if_pos (by omega), obs, if_pos h]
      cases ov_ (ba_ w j) (ba_ w i) <;> simp
    · have h' : ¬ (rd_T38 t (j : Int)).f0 = (rd_T38 t (i : Int)).f0 := h
      rw [if_neg h', if_neg h]; simp
theorem snl0_eq (w : List BA) (t : List ND) (ht : tree_ t = true) (hw : ∀ x : Nat, wfB (ba_ w x)) (hs : w.length = t.length) (hl : t.length ≤ 12) :
    ∀ d K k, 1 ≤ k → k + d = t.length → 16 * d < K → spec_IsNested.l0 K w t (k : Int) = some (nsS w t d k) := by
  intro d
  induction d with
  | zero =>
    intro K k h1 hk hK
    obtain ⟨K, rfl⟩ : ∃ m, K = m + 1 := ⟨K - 1, by omega⟩
    simp only [spec_IsNested.l0]
    rw [if_neg (by omega)]; rfl
  | succ d ih =>
    intro K k h1 hk hK
    obtain ⟨K, rfl⟩ : ∃ m, K = m + 1 := ⟨K - 1, by omega⟩
    have e : nsS w t (d + 1) k = ((if (ba_ w k).f0 ≤ 0 then true else ins_ (ba_ w k) (par_ w t k) && apS w t k (k - 1) 1) && nsS w t d (k + 1)) := rfl
    have hp := tree_parent ht k (by omega) (by omega)
    have hpw : wfB (par_ w t k) := by
      have := hw (rd_T38 t (k : Int)).f0.toNat
      unfold ba_ at this
      rw [show (((rd_T38 t (k : Int)).f0.toNat : Nat) : Int) = (rd_T38 t (k : Int)).f0 by omega] at this
      exact this
    have hj : ∀ b, spec_IsNested.j2 K w t (k : Int) b = if b = true then some false else some (apS w t k (k - 1) 1 && nsS w t d (k + 1)) := fun b => by
      obtain ⟨K, rfl⟩ : ∃ m, K = m + 1 := ⟨K - 1, by omega⟩
      simp only [spec_IsNested.j2]
      have := snl1_eq w t k hw (by omega) hs hl (nsS w t d (k + 1)) (16 * d) (fun K' hK' => ih K' (k + 1) (by omega) (by omega) hK') (k - 1) K 1 (by omega) (by omega)
      rw [show ((1 : Nat) : Int) = (1 : Int) from rfl] at this
      rw [this]
    simp only [spec_IsNested.l0]
    rw [if_pos (by omega), if_pos (by omega), if_pos (by omega), wr ((k : Int) + 1) (by omega) (by omega), show (k : Int) + 1 = ((k + 1 : Nat) : Int) by omega, ih K (k + 1) (by omega) (by omega) (by omega), e]
    by_cases h : (ba_ w k).f0 ≤ 0
    · have h' : (rd_T71 w (k : Int)).f0 ≤ 0 := h
      rw [if_pos h', if_pos h, Bool.true_and]
    · have h' : ¬ (rd_T71 w (k : Int)).f0 ≤ 0 := h
      rw [if_neg h', if_neg h, if_pos hp.1, if_pos (by omega)]
      have hb := bad_eq (ba_ w k) (par_ w t k) (hw k) hpw (by omega) (spec_IsNested.j2 K w t (k : Int))
      have hb2 := hb.trans (hj _)
      refine Eq.trans hb2 ?_
      cases ins_ (ba_ w k) (par_ w t k) <;> simp
theorem snested_eq (w : List BA) (t : List ND) (hw : ∀ x : Nat, wfB (ba_ w x)) (hl : t.length ≤ 9223372036854775807) (K : Nat) (hK : 200 < K) : spec_IsNested.f K w t = some (nested_ w t) := by
  obtain ⟨K, rfl⟩ : ∃ m, K = m + 1 := ⟨K - 1, by omega⟩
  unfold spec_IsNested.f nested_
  rw [stree_eq t hl _ hK, obs]
  simp only [spec_IsNested.j0]
  cases h : tree_ t
  · simp
  · have := tree_len h
    rw [if_pos rfl]
    by_cases e : w.length = t.length
    · rw [if_neg (by simp [e])]
      have h2 := snl0_eq w t h hw e (by omega) (t.length - 1) K 1 (by omega) (by omega) (by omega)
      simp only [decide_eq_true e, Bool.true_and]
      exact h2
    · rw [if_pos (by simp; omega)]; simp [e]


theorem iins_eq (c p : BA) : impl_Bar_inside.f c.f0 c.f1 p.f0 p.f1 = some (ins_ c p) := by
  unfold impl_Bar_inside.f ins_
  rw [icov_eq, obs]
  cases covB p.f0 p.f1 c.f1 <;> simp
theorem iov_eq (a b : BA) : impl_Bar_overlaps.f a.f0 a.f1 b.f0 b.f1 = some (ov_ a b) := by
  unfold impl_Bar_overlaps.f ov_
  rw [icov_eq, icov_eq, obs, obs]
  by_cases h0 : a.f0 > 0
  · by_cases h1 : b.f0 > 0
    · rw [if_pos h0, if_pos h1, decide_eq_true h0, decide_eq_true h1]
      cases covB a.f0 a.f1 b.f1 <;> simp
    · rw [if_pos h0, if_neg h1, decide_eq_false h1]; simp
  · rw [if_neg h0, decide_eq_false h0]; simp
theorem inl1_eq (w : List BA) (t : List ND) (i : Nat) (hi : i < t.length) (hs : w.length = t.length) (hl : t.length ≤ 12) (R : Bool) (B : Nat) (hR : ∀ K, B < K → impl_IsNested.l0 K w t ((i + 1 : Nat) : Int) = some R) :
    ∀ d K j, j + d = t.length → B + d + 2 < K → impl_IsNested.l1 K w t (i : Int) (j : Int) = some (apI w t i d j && R) := by
  intro d
  induction d with
  | zero =>
    intro K j hj hK
    obtain ⟨K, rfl⟩ : ∃ m, K = m + 1 := ⟨K - 1, by omega⟩
    simp only [impl_IsNested.l1]
    rw [if_neg (by omega), wr ((i : Int) + 1) (by omega) (by omega)]
    simpa [apI] using hR K (by omega)
  | succ d ih =>
    intro K j hj hK
    obtain ⟨K, rfl⟩ : ∃ m, K = m + 1 := ⟨K - 1, by omega⟩
    have e : apI w t i (d + 1) j = ((if j = i then true else if (nd_ t j).f0 = (nd_ t i).f0 then !ov_ (ba_ w i) (ba_ w j) else true) && apI w t i d (j + 1)) := rfl
    have hov : impl_Bar_overlaps.f (rd_T71 w (i : Int)).f0 (rd_T71 w (i : Int)).f1 (rd_T71 w (j : Int)).f0 (rd_T71 w (j : Int)).f1 = some (ov_ (ba_ w i) (ba_ w j)) := iov_eq (ba_ w i) (ba_ w j)
    simp only [impl_IsNested.l1]
    rw [if_pos (by omega), wr ((j : Int) + 1) (by omega) (by omega), show (j : Int) + 1 = ((j + 1 : Nat) : Int) by omega, ih K (j + 1) (by omega) (by omega), hov, e]
    by_cases hn : j = i
    · rw [if_pos (by omega), if_pos hn]; simp
    · rw [if_neg (by omega), if_neg hn, if_pos (by omega), if_pos (by omega), if_pos (by omega)]
      by_cases h : (nd_ t j).f0 = (nd_ t i).f0
      · have h' : (rd_T38 t (j : Int)).f0 = (rd_T38 t (i : Int)).f0 := h
        rw [if_pos h', if_pos (by omega), if_pos (by omega), obs, if_pos h]
        cases ov_ (ba_ w i) (ba_ w j) <;> simp
      · have h' : ¬ (rd_T38 t (j : Int)).f0 = (rd_T38 t (i : Int)).f0 := h
        rw [if_neg h', if_neg h]; simp
theorem inl0_eq (w : List BA) (t : List ND) (ht : tree_ t = true) (hs : w.length = t.length) (hl : t.length ≤ 12) :
    ∀ d K k, 1 ≤ k → k + d = t.length → 16 * d < K → impl_IsNested.l0 K w t (k : Int) = some (nsI w t d k) := by
  intro d
  induction d with
  | zero =>
    intro K k h1 hk hK
    obtain ⟨K, rfl⟩ : ∃ m, K = m + 1 := ⟨K - 1, by omega⟩
    simp only [impl_IsNested.l0]
    rw [if_neg (by omega)]; rfl
  | succ d ih =>
    intro K k h1 hk hK
    obtain ⟨K, rfl⟩ : ∃ m, K = m + 1 := ⟨K - 1, by omega⟩
    have e : nsI w t (d + 1) k = ((if (ba_ w k).f0 ≤ 0 then true else ins_ (ba_ w k) (par_ w t k) && apI w t k (t.length - 1) 1) && nsI w t d (k + 1)) := rfl
    have hp := tree_parent ht k (by omega) (by omega)
    have h1' := inl1_eq w t k (by omega) hs hl (nsI w t d (k + 1)) (16 * d) (fun K' hK' => ih K' (k + 1) (by omega) (by omega) hK') (t.length - 1) K 1 (by omega) (by omega)
    rw [show ((1 : Nat) : Int) = (1 : Int) from rfl] at h1'
    have hin : impl_Bar_inside.f (rd_T71 w (k : Int)).f0 (rd_T71 w (k : Int)).f1 (rd_T71 w (rd_T38 t (k : Int)).f0).f0 (rd_T71 w (rd_T38 t (k : Int)).f0).f1 = some (ins_ (ba_ w k) (par_ w t k)) := iins_eq (ba_ w k) (par_ w t k)
    simp only [impl_IsNested.l0]
    rw [if_pos (by omega), if_pos (by omega), if_pos (by omega), wr ((k : Int) + 1) (by omega) (by omega), show (k : Int) + 1 = ((k + 1 : Nat) : Int) by omega, ih K (k + 1) (by omega) (by omega) (by omega), e, hin, h1']
    by_cases h : (ba_ w k).f0 ≤ 0
    · have h' : (rd_T71 w (k : Int)).f0 ≤ 0 := h
      rw [if_pos h', if_pos h, Bool.true_and]
    · have h' : ¬ (rd_T71 w (k : Int)).f0 ≤ 0 := h
      rw [if_neg h', if_neg h, if_pos hp.1, if_pos (by omega), obs]
      cases ins_ (ba_ w k) (par_ w t k) <;> simp
theorem inested_eq (w : List BA) (t : List ND) (hl : t.length ≤ 9223372036854775807) (K : Nat) (hK : 200 < K) : impl_IsNested.f K w t = some (nested_ w t) := by
  obtain ⟨K, rfl⟩ : ∃ m, K = m + 1 := ⟨K - 1, by omega⟩
  unfold impl_IsNested.f nested_
  rw [itree_eq t hl _ hK, obs, ns_same]
  simp only [impl_IsNested.j0]
  cases h : tree_ t
  · simp
  · have := tree_len h
    rw [if_pos rfl]
    by_cases e : w.length = t.length
    · rw [if_neg (by simp [e])]
      have h2 := inl0_eq w t h e (by omega) (t.length - 1) K 1 (by omega) (by omega) (by omega)
      simp only [decide_eq_true e, Bool.true_and]
      exact h2
    · rw [if_pos (by simp; omega)]; simp [e]

theorem FnExactIsNested (l0 : List (S73)) (l1 : List (S58))
    (h0 : l0.length ≤ 9223372036854775807) (h1 : (∀ y ∈ l0, ((Lit.int .i64 y.f0).wf = true) ∧ ((Lit.int .i64 y.f1).wf = true))) (h2 : l1.length ≤ 9223372036854775807) (h3 : (∀ y ∈ l1, ((Lit.int .i64 y.f0).wf = true) ∧ ((Lit.int .i64 y.f1).wf = true) ∧ ((Lit.int .i64 y.f2).wf = true))) :
    ∃ k, laws_FnExactIsNested.f k l0 l1 = some true := by
  obtain ⟨k, hk⟩ : ∃ k : Nat, 1048576 < k := ⟨1048577, by omega⟩
  refine ⟨k, ?_⟩
  unfold laws_FnExactIsNested.f
  rw [szBarS_eq l0 1048576 h0 (by omega) (by omega)]
  by_cases hb : (1048576 : Int) < (l0.length : Int)
  · simp [hb]
  · have hl : l0.length ≤ 1048576 := by omega
    have hm : (l0.map toB).length ≤ 1048576 := by simpa using hl
    have hw : ∀ x : Nat, wfB (ba_ (l0.map toB) x) := by
      intro x
      unfold ba_ rd_T71 wfB
      by_cases hx : x < l0.length
      · have hy := h1 l0[x] (List.getElem_mem _)
        have y0 := wf_i64 hy.1
        have y1 := wf_i64 hy.2
        have : (l0.map toB).getD (x : Int).toNat z71 = toB l0[x] := by simp [List.getD_eq_getElem?_getD, hx]
        rw [this]
        exact ⟨y0, y1⟩
      · have : (l0.map toB).getD (x : Int).toNat z71 = z71 := by
          rw [List.getD_eq_getElem?_getD, Int.toNat_natCast, List.getElem?_eq_none (by simp; omega)]; rfl
        rw [this]
        exact ⟨by decide, by decide⟩
    simp only [if_neg hb, obs]
    rw [if_neg (by omega), szNodeS_eq l1 (1048576 - (l0.length : Int)) h2 (by omega) (by omega)]
    by_cases hb1 : (1048576 - (l0.length : Int)) < (l1.length : Int)
    · simp [hb1]
    · have hl1 : l1.length ≤ 1048576 := by omega
      have hm1 : (l1.map toNd).length ≤ 1048576 := by simpa using hl1
      simp only [if_neg hb1, obs]
      rw [if_neg (by omega)]
      simp only [toNodeS_eq k l1 hl1 (by omega), toBarS_eq k l0 hl (by omega), obs, snested_eq (l0.map toB) (l1.map toNd) hw (by omega) k (by omega), inested_eq (l0.map toB) (l1.map toNd) (by omega) k (by omega), eqNodeS_eq k _ _ hm1 (by omega), eqBarS_eq k _ _ hm (by omega)]
      simp

end Go.Proofs.Ytbgmbhhbonpoaaa.Pure
