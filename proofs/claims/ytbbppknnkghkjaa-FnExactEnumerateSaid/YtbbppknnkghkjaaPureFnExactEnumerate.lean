/- Of every list of nodes: the program's Enumerate and the reference's are one function; what it answers are lists of their own. -/
import Derived.Test.YtbbppknnkghkjaaPFnExactEnumeratex10
import Derived.Test.YtbbppknnkghkjaaCom
namespace Go.Proofs.Ytbbppknnkghkjaa.Pure
open Go.RowKit Go.Proofs.Ytbbppknnkghkjaa.PFnExactEnumerate Go.Proofs.YtbbppknnkghkjaaW.PrintWords Go.Proofs.YtbbppknnkghkjaaW.PrintLast Go.Proofs.YtbbppknnkghkjaaW.PrintMore Go.Proofs.Ytbbppknnkghkjaa.Com
set_option linter.unusedVariables false
set_option linter.unusedSimpArgs false

theorem rd_inode (xs : List S50) (i : Nat) (h : i < xs.length) : rd_T50 xs (i : Int) = xs[i] := getD_nat _ _ _ h

def toNd (x : S83) : S50 := ⟨x.f0, x.f1, x.f2⟩
theorem rd_lnode (xs : List S83) (i : Nat) (h : i < xs.length) : rd_T83 xs (i : Int) = xs[i] := getD_nat _ _ _ h
theorem toNodeS_eq (k : Nat) (l : List S83) (hl : l.length ≤ 1048576) (hk : l.length < k) : laws_toNodeS.f k l = some (l.map toNd) := by
  unfold laws_toNodeS.f
  rw [if_pos (by omega), if_pos (by omega)]
  have h := copy_loop laws_toNodeS.l0 toNd l hl (fun k x3 i h h3 => by
      simp only [laws_toNodeS.l0]
      rw [if_pos (by omega), if_pos (by omega), rd_lnode _ _ h]
      simp only [laws_toNode.f, Option.bind_some]
      rw [if_pos (by omega), wr _ (by omega) (by omega)]
      rfl) (fun k x3 h3 => by
      simp only [laws_toNodeS.l0]
      rw [if_neg (by omega)]) l.length k (List.replicate ((l.length : Int)).toNat z50) 0 (by omega) hk (by simp) (fun j hj => by omega)
  exact h
theorem node_ext (a b : S50) (h0 : a.f0 = b.f0) (h1 : a.f1 = b.f1) (h2 : a.f2 = b.f2) : a = b := by cases a; cases b; simp_all
instance : DecidableEq S50 := fun a b => decidable_of_iff (a.f0 = b.f0 ∧ a.f1 = b.f1 ∧ a.f2 = b.f2) ⟨fun h => node_ext a b h.1 h.2.1 h.2.2, fun h => by rw [h]; exact ⟨rfl, rfl, rfl⟩⟩
theorem eqNode_eq (a b : S50) : laws_eqNode.f a.f0 a.f1 a.f2 b.f0 b.f1 b.f2 = some (decide (a = b)) := by
  unfold laws_eqNode.f
  by_cases h0 : a.f0 = b.f0
  · by_cases h1 : a.f1 = b.f1
    · by_cases h2 : a.f2 = b.f2
      · rw [if_pos h0, if_pos h1, if_pos h2]; simp [node_ext a b h0 h1 h2]
      · rw [if_pos h0, if_pos h1, if_neg h2]; simp only [Option.some.injEq]; symm; rw [decide_eq_false_iff_not]; rintro rfl; exact h2 rfl
    · rw [if_pos h0, if_neg h1]; simp only [Option.some.injEq]; symm; rw [decide_eq_false_iff_not]; rintro rfl; exact h1 rfl
  · rw [if_neg h0]; simp only [Option.some.injEq]; symm; rw [decide_eq_false_iff_not]; rintro rfl; exact h0 rfl
theorem eqNodeS_eq (k : Nat) (a b : List S50) (hl : a.length ≤ 1048576) (hk : a.length < k) : laws_eqNodeS.f k a b = some (decide (a = b)) := by
  unfold laws_eqNodeS.f
  by_cases e : b.length = a.length
  · rw [if_pos (by omega)]
    have h := eq_loop laws_eqNodeS.l0 a b hl e (fun k i h hx => by
        simp only [laws_eqNodeS.l0]
        rw [if_pos (by omega), if_pos (by omega), if_pos (by omega), rd_inode _ _ h, rd_inode _ _ (by omega), eqNode_eq]
        simp [hx]) (fun k i h hx => by
        simp only [laws_eqNodeS.l0]
        rw [if_pos (by omega), if_pos (by omega), if_pos (by omega), rd_inode _ _ h, rd_inode _ _ (by omega), eqNode_eq, wr _ (by omega) (by omega)]
        simp only [hx, decide_true, Option.bind_some, if_true]
        rfl) (fun k => by
        simp only [laws_eqNodeS.l0]
        rw [if_neg (by omega)]) a.length k 0 (by omega) hk
    simpa using h
  · rw [if_neg (by omega)]
    congr 1
    symm
    rw [decide_eq_false_iff_not]
    rintro rfl
    exact e rfl

theorem szNodeS_eq (l : List S83) (a : Int) (h0 : l.length ≤ 9223372036854775807) (h1 : 0 ≤ a) (h2 : a ≤ 1048576) :
    laws_szNodeS.f l a = some (if a < (l.length : Int) then -1 else a - (l.length : Int)) := by
  unfold laws_szNodeS.f
  rw [wr (a - (l.length : Int)) (by omega) (by omega)]
  by_cases h : a < (l.length : Int)
  · rw [if_pos (by omega), if_pos h]
  · rw [if_neg (by omega), if_neg h]

/-- As Option.bind_some, but not by rfl: rewriting with it below an 'if' with a great number keeps the kernel from unfolding that number. -/
theorem obs {α β : Type} (a : α) (f : α → Option β) : (some a).bind f = f a := by rw [Option.bind_some]

theorem l01In_eq (a b c : Int) : spec_l01In.f a b c = some (decide (b ≤ a ∧ a ≤ c)) := by
  unfold spec_l01In.f; by_cases h : a ≥ b <;> simp [h]


abbrev ND := S50
/-- A sibling in the same place. -/
def sib_ (p d : Int) (x : ND) : Bool := decide (x.f0 = p) && decide (x.f1 = d)
/-- Is the node n well at place k of the tree? -/
def row_ (l : List ND) (k : Nat) (n : ND) : Bool :=
  decide (0 ≤ n.f0 ∧ n.f0 < (k : Int)) && (decide ((rd_T50 l n.f0).f2 = 0) && (decide (0 ≤ n.f1 ∧ n.f1 ≤ 3) && (decide (0 ≤ n.f2 ∧ n.f2 ≤ 4) && !(l.take k).any (sib_ n.f0 n.f1))))
def rows_ (l : List ND) : Nat → Nat → Bool
  | 0, _ => true
  | d + 1, k => row_ l k (rd_T50 l (k : Int)) && rows_ l d (k + 1)
def root_ (l : List ND) : Bool := (rd_T50 l 0).f0 == (-1) && ((rd_T50 l 0).f1 == 0 && (rd_T50 l 0).f2 == 0)
def tree_ (l : List ND) : Bool := decide (1 ≤ (l.length : Int) ∧ (l.length : Int) ≤ 12) && (root_ l && rows_ l (l.length - 1) 1)
theorem tree_len {l : List ND} (h : tree_ l = true) : 1 ≤ l.length ∧ l.length ≤ 12 := by
  simp only [tree_, Bool.and_eq_true, decide_eq_true_eq] at h; omega
theorem tree_root {l : List ND} (h : tree_ l = true) : (rd_T50 l 0).f0 = -1 := by
  simp only [tree_, root_, Bool.and_eq_true, decide_eq_true_eq, beq_iff_eq] at h; exact h.2.1.1
theorem rows_row (l : List ND) : ∀ d k j, rows_ l d k = true → k ≤ j → j < k + d → row_ l j (rd_T50 l (j : Int)) = true := by
  intro d
  induction d with
  | zero => intro k j _ _ _; omega
  | succ d ih =>
    intro k j h h1 h2
    simp only [rows_, Bool.and_eq_true] at h
    by_cases e : j = k
    · subst e; exact h.1
    · exact ih (k + 1) j h.2 (by omega) (by omega)
theorem tree_row {l : List ND} (h : tree_ l = true) (j : Nat) (h0 : 0 < j) (h1 : j < l.length) : row_ l j (rd_T50 l (j : Int)) = true := by
  simp only [tree_, Bool.and_eq_true] at h
  exact rows_row l _ 1 j h.2.2 (by omega) (by omega)
theorem tree_parent {l : List ND} (h : tree_ l = true) (j : Nat) (h0 : 0 < j) (h1 : j < l.length) : 0 ≤ (rd_T50 l (j : Int)).f0 ∧ (rd_T50 l (j : Int)).f0 < (j : Int) := by
  have := tree_row h j h0 h1
  simp only [row_, Bool.and_eq_true, decide_eq_true_eq] at this
  exact this.1

theorem sib_root {l : List ND} (hl : 0 < l.length) (hr : (rd_T50 l 0).f0 = -1) (p d : Int) (hp : 0 ≤ p) (k : Nat) (hk : 1 ≤ k) : (l.take k).any (sib_ p d) = ((l.take k).drop 1).any (sib_ p d) := by
  cases l with
  | nil => simp at hl
  | cons x xs =>
    obtain ⟨k, rfl⟩ : ∃ m, k = m + 1 := ⟨k - 1, by omega⟩
    have hx : x.f0 = -1 := hr
    have : sib_ p d x = false := by unfold sib_; rw [hx]; rw [decide_eq_false (show ¬ (-1 : Int) = p by omega)]; rfl
    simp [this]
theorem sl1_eq (l : List ND) (k : Nat) (hk : k < l.length) (hl : l.length ≤ 12) (p d f : Int) (R : Bool) (B : Nat) (hR : ∀ K, B < K → spec_TreeOk.l0 K l ((k + 1 : Nat) : Int) = some R) :
    ∀ e K i, i + e = k → B + e + 1 < K → spec_TreeOk.l1 K l (k : Int) (i : Int) p d f = some (if ((l.take k).drop i).any (sib_ p d) then false else R) := by
  intro e
  induction e with
  | zero =>
    intro K i hi hK
    obtain ⟨K, rfl⟩ : ∃ m, K = m + 1 := ⟨K - 1, by omega⟩
    obtain rfl : i = k := by omega
    simp only [spec_TreeOk.l1]
    rw [if_neg (by omega), wr ((i : Int) + 1) (by omega) (by omega), List.drop_of_length_le (by simp; omega)]
    simpa using hR K (by omega)
  | succ e ih =>
    intro K i hi hK
    obtain ⟨K, rfl⟩ : ∃ m, K = m + 1 := ⟨K - 1, by omega⟩
    have hlt : i < (l.take k).length := by simp; omega
    have hg : (l.take k)[i] = l[i]'(by omega) := by simp
    have e1 : ((i : Int) + 1) = ((i + 1 : Nat) : Int) := by omega
    simp only [spec_TreeOk.l1]
    rw [if_pos (by omega), if_pos (by omega), if_pos (by omega), rd_inode _ _ (by omega), wr ((i : Int) + 1) (by omega) (by omega), List.drop_eq_getElem_cons hlt, hg, e1, ih K (i + 1) (by omega) (by omega)]
    rw [List.any_cons]
    by_cases h0 : (l[i]'(by omega)).f0 = p
    · by_cases h1 : (l[i]'(by omega)).f1 = d
      · rw [if_pos h0, if_pos h1]; simp [sib_, h0, h1]
      · rw [if_pos h0, if_neg h1]; simp [sib_, h0, h1]
    · rw [if_neg h0]; simp [sib_, h0]
theorem sl0_eq (l : List ND) (h1 : 1 ≤ l.length) (hl : l.length ≤ 12) (hr : (rd_T50 l 0).f0 = -1) :
    ∀ d K k, 1 ≤ k → k + d = l.length → 16 * d < K → spec_TreeOk.l0 K l (k : Int) = some (rows_ l d k) := by
  intro d
  induction d with
  | zero =>
    intro K k hk hd hK
    obtain ⟨K, rfl⟩ : ∃ m, K = m + 1 := ⟨K - 1, by omega⟩
    simp only [spec_TreeOk.l0]
    rw [if_neg (by omega)]; rfl
  | succ d ih =>
    intro K k hk hd hK
    obtain ⟨K, rfl⟩ : ∃ m, K = m + 2 := ⟨K - 2, by omega⟩
    have hx : ∀ b p d' f, spec_TreeOk.j2 (K + 1) l (k : Int) b p d' f = if b = true then some false else spec_TreeOk.l1 K l (k : Int) 1 p d' f := fun b p d' f => by simp only [spec_TreeOk.j2]
    have hin : ∀ p d' f, 0 ≤ p → spec_TreeOk.l1 K l (k : Int) 1 p d' f = some (if (l.take k).any (sib_ p d') then false else rows_ l d (k + 1)) := fun p d' f hp => by
      have h := sl1_eq l k (by omega) hl p d' f (rows_ l d (k + 1)) (16 * d) (fun K' hK' => ih K' (k + 1) (by omega) (by omega) hK') (k - 1) K 1 (by omega) (by omega)
      rw [sib_root (by omega) hr p d' hp k hk]
      exact h
    simp only [spec_TreeOk.l0]
    rw [if_pos (by omega), if_pos (by omega), wr ((k : Int) - 1) (by omega) (by omega)]
    unfold rows_ row_
    generalize rd_T50 l (k : Int) = n
    simp only [l01In_eq, Option.bind_some, hx]
    by_cases c0 : 0 ≤ n.f0 ∧ n.f0 < (k : Int)
    · rw [if_pos (by simp; omega), if_pos c0.1, if_pos (by omega), decide_eq_true c0, Bool.true_and]
      by_cases c1 : (rd_T50 l n.f0).f2 = 0
      · rw [if_pos c1, decide_eq_true c1, Bool.true_and]
        by_cases c2 : 0 ≤ n.f1 ∧ n.f1 ≤ 3
        · rw [decide_eq_true c2, if_pos rfl, Bool.true_and]
          by_cases c3 : 0 ≤ n.f2 ∧ n.f2 ≤ 4
          · rw [decide_eq_true c3, if_neg (by simp), Bool.true_and, hin _ _ _ c0.1]
            cases (l.take k).any (sib_ n.f0 n.f1) <;> simp
          · rw [decide_eq_false c3]; simp
        · rw [decide_eq_false c2]; simp
      · rw [if_neg c1, decide_eq_false c1]; simp
    · rw [if_neg (by simp; omega), decide_eq_false c0]; simp
theorem stree_eq (l : List ND) (hl : l.length ≤ 9223372036854775807) (K : Nat) (hK : 200 < K) : spec_TreeOk.f K l = some (tree_ l) := by
  obtain ⟨K, rfl⟩ : ∃ m, K = m + 1 := ⟨K - 1, by omega⟩
  unfold spec_TreeOk.f tree_
  simp only [l01In_eq, Option.bind_some, spec_TreeOk.j0]
  by_cases c : 1 ≤ (l.length : Int) ∧ (l.length : Int) ≤ 12
  · rw [decide_eq_true c, if_pos rfl, if_pos (by omega), Bool.true_and]
    by_cases hr : root_ l = true
    · have hr0 : (rd_T50 l 0).f0 = -1 := by
        simp only [root_, Bool.and_eq_true, beq_iff_eq] at hr; exact hr.1
      have h := sl0_eq l (by omega) (by omega) hr0 (l.length - 1) K 1 (by omega) (by omega) (by omega)
      have hr2 := hr
      simp only [root_, Bool.and_eq_true, beq_iff_eq] at hr2
      rw [hr, Bool.true_and, if_neg (by simp [hr2])]
      exact h
    · rw [Bool.not_eq_true] at hr
      rw [hr, if_pos, Bool.false_and]
      unfold root_ at hr
      revert hr
      cases (rd_T50 l 0).f0 == -1 <;> cases (rd_T50 l 0).f1 == 0 <;> cases (rd_T50 l 0).f2 == 0 <;> simp
  · rw [decide_eq_false c, if_neg (by simp), Bool.false_and]; simp


/-- The nodes from x up to the root. -/
def up_ (l : List ND) : Nat → Int → List Int
  | 0, _ => []
  | d + 1, x => if 0 ≤ x then x :: up_ l d (rd_T50 l x).f0 else []
def isn_ (l : List ND) (x : Int) : Bool := tree_ l && decide (0 ≤ x ∧ x < (l.length : Int))
def path_ (l : List ND) (x : Int) : List Int := if isn_ l x = true then (up_ l 13 x).reverse else []
theorem up_len (l : List ND) : ∀ d x, (up_ l d x).length ≤ d := by
  intro d
  induction d with
  | zero => intro x; simp [up_]
  | succ d ih =>
    intro x
    unfold up_
    split
    · have := ih (rd_T50 l x).f0; simp; omega
    · simp
theorem path_len (l : List ND) (x : Int) : (path_ l x).length ≤ 13 := by
  unfold path_
  split
  · rw [List.length_reverse]; exact up_len l 13 x
  · simp
theorem parent_lt {l : List ND} (h : tree_ l = true) (x : Int) (h0 : 0 ≤ x) (h1 : x < (l.length : Int)) : -1 ≤ (rd_T50 l x).f0 ∧ (rd_T50 l x).f0 < x := by
  obtain ⟨j, rfl⟩ : ∃ j : Nat, x = (j : Int) := ⟨x.toNat, by omega⟩
  by_cases hj : j = 0
  · subst hj; have := tree_root h; have e : (((0 : Nat) : Int)) = 0 := rfl; rw [e, this]; omega
  · have := tree_parent h j (by omega) (by omega); omega
theorem isn_tree {l : List ND} {x : Int} (h : isn_ l x = true) : tree_ l = true ∧ 0 ≤ x ∧ x < (l.length : Int) := by
  simpa only [isn_, Bool.and_eq_true, decide_eq_true_eq] using h

theorem l19Ok_eq (l : List ND) (x : Int) (hl : l.length ≤ 9223372036854775807) (K : Nat) (hK : 200 < K) : spec_l19Ok.f K l x = some (isn_ l x) := by
  unfold spec_l19Ok.f isn_
  rw [stree_eq l hl K hK, obs]
  cases h : tree_ l
  · simp
  · have := tree_len h
    rw [if_pos rfl, l01In_eq, obs, wr ((l.length : Int) - 1) (by omega) (by omega), Bool.true_and]
    congr 1
    rw [Bool.eq_iff_iff, decide_eq_true_eq, decide_eq_true_eq]; omega


/-- The places from i on, d of them, whose node answers to p. -/
def ixs_ (l : List ND) (p : ND → Bool) : Nat → Nat → List Int
  | 0, _ => []
  | d + 1, i => if p (rd_T50 l (i : Int)) = true then (i : Int) :: ixs_ l p d (i + 1) else ixs_ l p d (i + 1)
def kid_ (x d : Int) (n : ND) : Bool := decide (n.f0 = x) && decide (n.f1 = d)
def kidsAt_ (l : List ND) (x d : Int) : List Int := ixs_ l (kid_ x d) (l.length - 1) 1
def kids_ (l : List ND) (x : Int) : List Int := if isn_ l x = true then kidsAt_ l x 0 ++ (kidsAt_ l x 1 ++ (kidsAt_ l x 2 ++ kidsAt_ l x 3)) else []
theorem ixs_succ (l : List ND) (p : ND → Bool) (d i : Nat) : ixs_ l p (d + 1) i = if p (rd_T50 l (i : Int)) = true then (i : Int) :: ixs_ l p d (i + 1) else ixs_ l p d (i + 1) := rfl
theorem ixs_len (l : List ND) (p : ND → Bool) : ∀ d i, (ixs_ l p d i).length ≤ d := by
  intro d
  induction d with
  | zero => intro i; simp [ixs_]
  | succ d ih => intro i; have := ih (i + 1); rw [ixs_succ]; split <;> simp <;> omega
theorem ixs_mem (l : List ND) (p : ND → Bool) : ∀ d i (y : Int), y ∈ ixs_ l p d i → (i : Int) ≤ y ∧ y < ((i + d : Nat) : Int) ∧ p (rd_T50 l y) = true := by
  intro d
  induction d with
  | zero => intro i y h; simp [ixs_] at h
  | succ d ih =>
    intro i y h
    rw [ixs_succ] at h
    split at h
    · rename_i hp
      rcases List.mem_cons.1 h with rfl | h
      · exact ⟨by omega, by omega, hp⟩
      · obtain ⟨a, b, c⟩ := ih _ _ h; exact ⟨by omega, by omega, c⟩
    · obtain ⟨a, b, c⟩ := ih _ _ h; exact ⟨by omega, by omega, c⟩
theorem ixs_filter (l : List ND) (p q : ND → Bool) : ∀ d i, (ixs_ l p d i).filter (fun y => q (rd_T50 l y)) = ixs_ l (fun n => p n && q n) d i := by
  intro d
  induction d with
  | zero => intro i; rfl
  | succ d ih =>
    intro i
    rw [ixs_succ, ixs_succ]
    cases hp : p (rd_T50 l (i : Int)) <;> cases hq : q (rd_T50 l (i : Int)) <;> simp [ih, hq]
theorem kidsAt_len (l : List ND) (x d : Int) (hl : l.length ≤ 12) : (kidsAt_ l x d).length ≤ 12 := by
  have := ixs_len l (kid_ x d) (l.length - 1) 1; unfold kidsAt_; omega
theorem kids_len (l : List ND) (x : Int) : (kids_ l x).length ≤ 48 := by
  unfold kids_
  split
  · rename_i h
    obtain ⟨t, _⟩ := isn_tree h
    have t1 := (tree_len t).2
    have z0 := kidsAt_len l x 0 t1; have z1 := kidsAt_len l x 1 t1; have z2 := kidsAt_len l x 2 t1; have z3 := kidsAt_len l x 3 t1
    simp; omega
  · simp

theorem skid1_eq (l : List ND) (x c : Int) (c0 : 0 ≤ c) (c1 : c ≤ 3) (hl : l.length ≤ 12) : ∀ (d K i : Nat) (out : List Int), i + d = l.length → out.length + d ≤ 1000 → spec_ChildrenOf.l1 (K + d + 1) l x out c (i : Int) = spec_ChildrenOf.l0 K l x (out ++ ixs_ l (kid_ x c) d i) (c + 1) := by
  intro d
  induction d with
  | zero =>
    intro K i out h ho
    simp only [spec_ChildrenOf.l1]
    rw [if_neg (by omega), wr (c + 1) (by omega) (by omega)]; simp [ixs_]
  | succ d ih =>
    intro K i out h ho
    rw [show K + (d + 1) + 1 = (K + d + 1) + 1 by omega]
    have ih' := fun o => ih K (i + 1) o (by omega)
    generalize K + d + 1 = q at ih' ⊢
    simp only [spec_ChildrenOf.l1]
    rw [if_pos (by omega), if_pos (by omega), ixs_succ, wr ((i : Int) + 1) (by omega) (by omega), show (i : Int) + 1 = ((i + 1 : Nat) : Int) by omega]
    by_cases a : (rd_T50 l (i : Int)).f0 = x
    · by_cases b : (rd_T50 l (i : Int)).f1 = c
      · rw [if_pos a, if_pos b, if_pos (by omega), ih' _ (by simp; omega), if_pos (by simp [kid_, a, b])]
        simp
      · rw [if_pos a, if_neg b, ih' _ (by omega), if_neg (by simp [kid_, b])]
    · rw [if_neg a, ih' _ (by omega), if_neg (by simp [kid_, a])]
theorem skid0_eq (l : List ND) (x c : Int) (c0 : 0 ≤ c) (c1 : c ≤ 3) (h1 : 1 ≤ l.length) (hl : l.length ≤ 12) (K K' : Nat) (hK : K' = K + l.length + 1) (out : List Int) (ho : out.length ≤ 900) : spec_ChildrenOf.l0 K' l x out c = spec_ChildrenOf.l0 K l x (out ++ kidsAt_ l x c) (c + 1) := by
  obtain ⟨m, rfl⟩ : ∃ m, K' = m + 1 := ⟨K' - 1, by omega⟩
  simp only [spec_ChildrenOf.l0]
  rw [if_pos c1]
  have := skid1_eq l x c c0 c1 hl (l.length - 1) K 1 out (by omega) (by omega)
  rw [show K + (l.length - 1) + 1 = m by omega] at this
  exact this
theorem skids_eq (l : List ND) (x : Int) (hl : l.length ≤ 9223372036854775807) (K : Nat) (hK : 500 < K) : spec_ChildrenOf.f K l x = some (kids_ l x) := by
  unfold spec_ChildrenOf.f kids_
  rw [obs, l19Ok_eq l x hl K (by omega), obs]
  by_cases h : isn_ l x = true
  · obtain ⟨t, g0, g1⟩ := isn_tree h
    obtain ⟨t0, t1⟩ := tree_len t
    have z0 := kidsAt_len l x 0 t1; have z1 := kidsAt_len l x 1 t1; have z2 := kidsAt_len l x 2 t1; have z3 := kidsAt_len l x 3 t1
    rw [if_pos h, if_pos h, skid0_eq l x 0 (by omega) (by omega) t0 t1 (K - (l.length + 1)) K (by omega) _ (by simp),
      show (0 : Int) + 1 = 1 by rfl, skid0_eq l x 1 (by omega) (by omega) t0 t1 (K - 2 * (l.length + 1)) _ (by omega) _ (by simp; omega),
      show (1 : Int) + 1 = 2 by rfl, skid0_eq l x 2 (by omega) (by omega) t0 t1 (K - 3 * (l.length + 1)) _ (by omega) _ (by simp; omega),
      show (2 : Int) + 1 = 3 by rfl, skid0_eq l x 3 (by omega) (by omega) t0 t1 (K - 4 * (l.length + 1)) _ (by omega) _ (by simp; omega)]
    obtain ⟨m, e⟩ : ∃ m, K - 4 * (l.length + 1) = m + 1 := ⟨K - 4 * (l.length + 1) - 1, by omega⟩
    rw [e]
    simp only [spec_ChildrenOf.l0]
    rw [if_neg (by omega)]
    simp
  · rw [if_neg h, if_neg h]


theorem ixs_skip (l : List ND) (p : ND → Bool) : ∀ e d i, (∀ j : Nat, i ≤ j → j < i + e → p (rd_T50 l (j : Int)) = false) → ixs_ l p (e + d) i = ixs_ l p d (i + e) := by
  intro e
  induction e with
  | zero => intro d i _; rw [Nat.zero_add]; rfl
  | succ e ih =>
    intro d i h
    rw [show e + 1 + d = (e + d) + 1 by omega, ixs_succ, if_neg (by rw [h i (by omega) (by omega)]; simp), ih d (i + 1) (fun j h1 h2 => h j (by omega) (by omega))]
    rw [show i + 1 + e = i + (e + 1) by omega]
theorem kidsAt_skip (l : List ND) (h : tree_ l = true) (x c : Int) (h0 : 0 ≤ x) (h1 : x < (l.length : Int)) : kidsAt_ l x c = ixs_ l (kid_ x c) (l.length - 1 - x.toNat) (x.toNat + 1) := by
  unfold kidsAt_
  rw [show l.length - 1 = x.toNat + (l.length - 1 - x.toNat) by omega, ixs_skip l _ x.toNat _ 1 (fun j h2 h3 => by
    have := tree_parent h j (by omega) (by omega)
    unfold kid_
    rw [decide_eq_false (by omega)]; rfl)]
  rw [show x.toNat + (l.length - 1 - x.toNat) - x.toNat = l.length - 1 - x.toNat by omega, Nat.add_comm 1]
theorem kids_mem (l : List ND) (h : tree_ l = true) (x y : Int) (h0 : 0 ≤ x) (h1 : x < (l.length : Int)) (hy : y ∈ kids_ l x) : x < y ∧ y < (l.length : Int) := by
  have hk : ∀ c, y ∈ kidsAt_ l x c → x < y ∧ y < (l.length : Int) := fun c hc => by
    rw [kidsAt_skip l h x c h0 h1] at hc
    have := ixs_mem _ _ _ _ _ hc
    omega
  unfold kids_ at hy
  split at hy
  · rcases List.mem_append.1 hy with hy | hy
    · exact hk 0 hy
    · rcases List.mem_append.1 hy with hy | hy
      · exact hk 1 hy
      · rcases List.mem_append.1 hy with hy | hy
        · exact hk 2 hy
        · exact hk 3 hy
  · simp at hy

theorem one_le_pow (m : Nat) : (1 : Int) ≤ 2 ^ m := by
  have h : (0 : Int) < 2 ^ m := Int.pow_pos (by omega)
  omega
def bd_ (y : Int) : Int := 2 ^ (11 - y.toNat) * 4096
theorem bd_half (y : Int) (h0 : 0 ≤ y) (h1 : y < 11) : bd_ y = bd_ (y + 1) * 2 := by
  unfold bd_
  rw [show 11 - y.toNat = (11 - (y + 1).toNat) + 1 by omega, Int.pow_succ]
  rw [Int.mul_assoc, Int.mul_assoc]; rfl
theorem bd_pos (y : Int) : 4096 ≤ bd_ y := by
  unfold bd_
  have h1 : (1 : Int) ≤ 2 ^ (11 - y.toNat) := one_le_pow _
  omega
theorem bd_le (y : Int) : bd_ y ≤ 8388608 := by
  unfold bd_
  have h1 : (2 : Int) ^ (11 - y.toNat) ≤ 2 ^ 11 := by exact_mod_cast Nat.pow_le_pow_right (by omega) (by omega)
  have h2 : (2 : Int) ^ 11 = 2048 := by decide
  omega
theorem bsum_le (l : List ND) (x : Int) (hl : l.length ≤ 12) : ∀ d i, i + d = l.length → ((ixs_ l (kid_ x 0) d i).map bd_).sum + ((ixs_ l (kid_ x 1) d i).map bd_).sum + ((ixs_ l (kid_ x 2) d i).map bd_).sum + ((ixs_ l (kid_ x 3) d i).map bd_).sum ≤ (if i < 12 then 2 * bd_ (i : Int) - 4096 else 0) := by
  intro d
  induction d with
  | zero => intro i h; have := bd_pos (i : Int); simp [ixs_]; split <;> omega
  | succ d ih =>
    intro i h
    have h1 := ih (i + 1) (by omega)
    have hb : (if i + 1 < 12 then 2 * bd_ ((i + 1 : Nat) : Int) - 4096 else 0) ≤ bd_ (i : Int) - 4096 := by
      split
      · have := bd_half (i : Int) (by omega) (by omega); rw [show ((i + 1 : Nat) : Int) = (i : Int) + 1 by omega]; omega
      · have := bd_pos (i : Int); omega
    have hp := bd_pos (i : Int)
    rw [if_pos (by omega), ixs_succ, ixs_succ, ixs_succ, ixs_succ]
    simp only [kid_]
    by_cases a : (rd_T50 l (i : Int)).f0 = x
    · by_cases b0 : (rd_T50 l (i : Int)).f1 = 0
      · simp [a, b0]; omega
      · by_cases b1 : (rd_T50 l (i : Int)).f1 = 1
        · simp [a, b1]; omega
        · by_cases b2 : (rd_T50 l (i : Int)).f1 = 2
          · simp [a, b2]; omega
          · by_cases b3 : (rd_T50 l (i : Int)).f1 = 3
            · simp [a, b3]; omega
            · simp [a, b0, b1, b2, b3]; omega
    · simp [a]; omega
theorem kids_bd (l : List ND) (h : tree_ l = true) (x : Int) (h0 : 0 ≤ x) (h1 : x < (l.length : Int)) : ((kids_ l x).map bd_).sum ≤ bd_ x := by
  have t := (tree_len h).2
  have hi : isn_ l x = true := by simp [isn_, h]; omega
  have hs := bsum_le l x t (l.length - 1 - x.toNat) (x.toNat + 1) (by omega)
  unfold kids_
  rw [if_pos hi, kidsAt_skip l h x 0 h0 h1, kidsAt_skip l h x 1 h0 h1, kidsAt_skip l h x 2 h0 h1, kidsAt_skip l h x 3 h0 h1]
  simp only [List.map_append, List.sum_append]
  have hp := bd_pos x
  split at hs
  · have := bd_half x h0 (by omega)
    rw [show ((x.toNat + 1 : Nat) : Int) = x + 1 by omega] at hs
    omega
  · omega
theorem sum_le (f g : Int → Int) : ∀ ks : List Int, (∀ y ∈ ks, 0 ≤ f y ∧ f y ≤ g y) → 0 ≤ (ks.map f).sum ∧ (ks.map f).sum ≤ (ks.map g).sum := by
  intro ks
  induction ks with
  | nil => intro _; simp
  | cons a t ih =>
    intro h
    have := ih (fun y hy => h y (List.mem_cons_of_mem _ hy))
    have := h a (List.mem_cons_self)
    simp only [List.map_cons, List.sum_cons]; omega
theorem drop_sum (f : Int → Int) (ks : List Int) (i : Nat) (h : i < ks.length) : ((ks.drop i).map f).sum = f ks[i] + ((ks.drop (i + 1)).map f).sum := by
  rw [List.drop_eq_getElem_cons h, List.map_cons, List.sum_cons]
theorem drop_sum_nn (f : Int → Int) (ks : List Int) (h : ∀ y ∈ ks, 0 ≤ f y) (i : Nat) : 0 ≤ ((ks.drop i).map f).sum :=
  (sum_le f f (ks.drop i) (fun y hy => ⟨h y (List.mem_of_mem_drop hy), Int.le_refl _⟩)).1
theorem kids_bd2 (l : List ND) (h : tree_ l = true) (x : Int) (h0 : 0 ≤ x) (h1 : x < (l.length : Int)) : ((kids_ l x).map bd_).sum ≤ bd_ x - 4096 := by
  have t := (tree_len h).2
  have hi : isn_ l x = true := by simp [isn_, h]; omega
  have hs := bsum_le l x t (l.length - 1 - x.toNat) (x.toNat + 1) (by omega)
  unfold kids_
  rw [if_pos hi, kidsAt_skip l h x 0 h0 h1, kidsAt_skip l h x 1 h0 h1, kidsAt_skip l h x 2 h0 h1, kidsAt_skip l h x 3 h0 h1]
  simp only [List.map_append, List.sum_append]
  have hp := bd_pos x
  split at hs
  · have := bd_half x h0 (by omega)
    rw [show ((x.toNat + 1 : Nat) : Int) = x + 1 by omega] at hs
    omega
  · omega

theorem tree_f2 {l : List ND} (h : tree_ l = true) (j : Nat) (h1 : j < l.length) : 0 ≤ (rd_T50 l (j : Int)).f2 ∧ (rd_T50 l (j : Int)).f2 ≤ 4 := by
  by_cases hj : j = 0
  · subst hj
    simp only [tree_, root_, Bool.and_eq_true, decide_eq_true_eq, beq_iff_eq] at h
    have e : (((0 : Nat) : Int)) = 0 := rfl
    rw [e, h.2.1.2.2]; omega
  · have := tree_row h j (by omega) h1
    simp only [row_, Bool.and_eq_true, decide_eq_true_eq] at this
    exact this.2.2.2.1


abbrev VT := Int × List Int × List Int × List Int
/-- One child c of a bridge whose bus is b. -/
def vstep_ (l : List ND) (b : Int) (V : Int → Int → List Int → List Int → List Int → VT) (a : VT) (c : Int) : VT :=
  if (rd_T50 l c).f2 = 0 then V c (a.1 + 1) (a.2.1.set c.toNat b) a.2.2.1 a.2.2.2 else (a.1, a.2.1.set c.toNat b, a.2.2.1, a.2.2.2)
/-- What numbering below k leads to: the greatest bus, and the three lists. -/
def vis_ (l : List ND) : Nat → Int → Int → List Int → List Int → List Int → VT
  | 0, _, b, B, S, L => (b, B, S, L)
  | n + 1, k, b, B, S, L =>
    (((kids_ l k).foldl (vstep_ l b (vis_ l n)) (b, B, S.set k.toNat b, L)).1, ((kids_ l k).foldl (vstep_ l b (vis_ l n)) (b, B, S.set k.toNat b, L)).2.1, ((kids_ l k).foldl (vstep_ l b (vis_ l n)) (b, B, S.set k.toNat b, L)).2.2.1,
      ((kids_ l k).foldl (vstep_ l b (vis_ l n)) (b, B, S.set k.toNat b, L)).2.2.2.set k.toNat ((kids_ l k).foldl (vstep_ l b (vis_ l n)) (b, B, S.set k.toNat b, L)).1)
def vend_ (k : Int) (r : VT) : VT := (r.1, r.2.1, r.2.2.1, r.2.2.2.set k.toNat r.1)
theorem vis_succ (l : List ND) (n : Nat) (k b : Int) (B S L : List Int) : vis_ l (n + 1) k b B S L = vend_ k ((kids_ l k).foldl (vstep_ l b (vis_ l n)) (b, B, S.set k.toNat b, L)) := rfl
theorem rd_set (xs : List Int) (i : Nat) (v j : Int) : rd (xs.set i v) j = if j.toNat = i ∧ i < xs.length then v else rd xs j := by
  unfold rd
  rw [List.getD_eq_getElem?_getD, List.getD_eq_getElem?_getD, List.getElem?_set]
  by_cases e : i = j.toNat
  · subst e
    by_cases h : j.toNat < xs.length
    · simp [h]
    · simp [h]
  · rw [if_neg e, if_neg (fun h => e h.1.symm)]
def vlen_ (N : Nat) (a : VT) : Prop := a.2.1.length = N ∧ a.2.2.1.length = N ∧ a.2.2.2.length = N
/-- What a numbering below k keeps. -/
def vok_ (N : Nat) (k b : Int) (S : List Int) (r : VT) : Prop := vlen_ N r ∧ b ≤ r.1 ∧ r.1 ≤ b + bd_ k - 1 ∧ ∀ j, 0 ≤ j → j < k → rd r.2.2.1 j = rd S j
theorem vfold_ok (l : List ND) (b k : Int) (N : Nat) (V : Int → Int → List Int → List Int → List Int → VT) : ∀ (ks : List Int) (a : VT), (∀ c ∈ ks, k < c ∧ ∀ b' B S L, vlen_ N (b', B, S, L) → vok_ N c b' S (V c b' B S L)) → vlen_ N a →
    vlen_ N (ks.foldl (vstep_ l b V) a) ∧ a.1 ≤ (ks.foldl (vstep_ l b V) a).1 ∧ (ks.foldl (vstep_ l b V) a).1 ≤ a.1 + (ks.map bd_).sum ∧ ∀ j, 0 ≤ j → j ≤ k → rd (ks.foldl (vstep_ l b V) a).2.2.1 j = rd a.2.2.1 j := by
  intro ks
  induction ks with
  | nil => intro a _ ha; exact ⟨ha, Int.le_refl _, by simp, fun _ _ _ => rfl⟩
  | cons c t ih =>
    intro a hV ha
    have hc := hV c List.mem_cons_self
    have hp := bd_pos c
    have hlen : vlen_ N (a.1 + 1, a.2.1.set c.toNat b, a.2.2.1, a.2.2.2) := ⟨by simp only [List.length_set]; exact ha.1, ha.2.1, ha.2.2⟩
    simp only [List.foldl_cons, List.map_cons, List.sum_cons]
    by_cases g : (rd_T50 l c).f2 = 0
    · have e : vstep_ l b V a c = V c (a.1 + 1) (a.2.1.set c.toNat b) a.2.2.1 a.2.2.2 := by unfold vstep_; rw [if_pos g]
      rw [e]
      obtain ⟨h1, h2, h3, h4⟩ := hc.2 (a.1 + 1) (a.2.1.set c.toNat b) a.2.2.1 a.2.2.2 hlen
      obtain ⟨i1, i2, i3, i4⟩ := ih (V c (a.1 + 1) (a.2.1.set c.toNat b) a.2.2.1 a.2.2.2) (fun d hd => hV d (List.mem_cons_of_mem _ hd)) h1
      exact ⟨i1, by omega, by omega, fun j j0 j1 => (i4 j j0 j1).trans (h4 j j0 (by omega))⟩
    · have e : vstep_ l b V a c = (a.1, a.2.1.set c.toNat b, a.2.2.1, a.2.2.2) := by unfold vstep_; rw [if_neg g]
      rw [e]
      obtain ⟨i1, i2, i3, i4⟩ := ih (a.1, a.2.1.set c.toNat b, a.2.2.1, a.2.2.2) (fun d hd => hV d (List.mem_cons_of_mem _ hd)) ⟨hlen.1, hlen.2.1, hlen.2.2⟩
      exact ⟨i1, i2, by omega, i4⟩
theorem vis_ok (l : List ND) (h : tree_ l = true) (N : Nat) : ∀ (n : Nat) (k b : Int) (B S L : List Int), 0 ≤ k → k < (l.length : Int) → vlen_ N (b, B, S, L) → vok_ N k b S (vis_ l n k b B S L) := by
  intro n
  induction n with
  | zero => intro k b B S L _ _ hl; have := bd_pos k; exact ⟨hl, by show b ≤ b; omega, by show b ≤ b + bd_ k - 1; omega, fun _ _ _ => rfl⟩
  | succ n ih =>
    intro k b B S L h0 h1 hl
    have hs := kids_bd2 l h k h0 h1
    obtain ⟨i1, i2, i3, i4⟩ := vfold_ok l b k N (vis_ l n) (kids_ l k) (b, B, S.set k.toNat b, L) (fun c hc => by
      have := kids_mem l h k c h0 h1 hc
      exact ⟨this.1, fun b' B S L hl => ih c b' B S L (by omega) this.2 hl⟩) ⟨hl.1, by simp only [List.length_set]; exact hl.2.1, hl.2.2⟩
    rw [vis_succ]
    unfold vend_
    refine ⟨⟨i1.1, i1.2.1, by simp only [List.length_set]; exact i1.2.2⟩, i2, by simp only at i3 ⊢; omega, fun j j0 j1 => ?_⟩
    rw [i4 j j0 (by omega)]
    show rd (S.set k.toNat b) j = rd S j
    rw [rd_set, if_neg (by omega)]
/-- The nodes that a numbering below k comes to. -/
def cov_ (l : List ND) : Nat → Int → List Int
  | 0, _ => []
  | n + 1, k => (kids_ l k).flatMap fun c => c :: (if (rd_T50 l c).f2 = 0 then cov_ l n c else [])
theorem cov_succ (l : List ND) (n : Nat) (k : Int) : cov_ l (n + 1) k = (kids_ l k).flatMap fun c => c :: (if (rd_T50 l c).f2 = 0 then cov_ l n c else []) := rfl
theorem cov_iff (l : List ND) (n : Nat) (k x : Int) : x ∈ cov_ l (n + 1) k ↔ ∃ c ∈ kids_ l k, x = c ∨ (rd_T50 l c).f2 = 0 ∧ x ∈ cov_ l n c := by
  rw [cov_succ, List.mem_flatMap]
  constructor
  · rintro ⟨c, hc, hx⟩
    refine ⟨c, hc, ?_⟩
    rcases List.mem_cons.1 hx with rfl | hx
    · exact .inl rfl
    · split at hx
      · exact .inr ⟨by assumption, hx⟩
      · simp at hx
  · rintro ⟨c, hc, rfl | ⟨g, hx⟩⟩
    · exact ⟨x, hc, List.mem_cons_self⟩
    · exact ⟨c, hc, List.mem_cons_of_mem _ (by rw [if_pos g]; exact hx)⟩
theorem cov_mono (l : List ND) : ∀ (n : Nat) (k x : Int), x ∈ cov_ l n k → x ∈ cov_ l (n + 1) k := by
  intro n
  induction n with
  | zero => intro k x h; simp [cov_] at h
  | succ n ih =>
    intro k x h
    obtain ⟨c, hc, e⟩ := (cov_iff l n k x).1 h
    exact (cov_iff l (n + 1) k x).2 ⟨c, hc, e.imp id (fun e => ⟨e.1, ih c x e.2⟩)⟩
theorem cov_le (l : List ND) (n m : Nat) (h : n ≤ m) (k x : Int) (hx : x ∈ cov_ l n k) : x ∈ cov_ l m k := by
  induction h with
  | refl => exact hx
  | step _ ih => exact cov_mono l _ k x ih
theorem cov_kid (l : List ND) : ∀ (n : Nat) (k x y : Int), x ∈ cov_ l n k → (rd_T50 l x).f2 = 0 → y ∈ kids_ l x → y ∈ cov_ l (n + 1) k := by
  intro n
  induction n with
  | zero => intro k x y h; simp [cov_] at h
  | succ n ih =>
    intro k x y h g hy
    obtain ⟨c, hc, e⟩ := (cov_iff l n k x).1 h
    refine (cov_iff l (n + 1) k y).2 ⟨c, hc, ?_⟩
    rcases e with rfl | ⟨g2, e⟩
    · exact .inr ⟨g, (cov_iff l n x y).2 ⟨y, hy, .inl rfl⟩⟩
    · exact .inr ⟨g2, ih c x y e g hy⟩

theorem isn_of {l : List ND} {x : Int} (h : tree_ l = true) (h0 : 0 ≤ x) (h1 : x < (l.length : Int)) : isn_ l x = true := by
  unfold isn_; rw [h, Bool.true_and, decide_eq_true_eq]; exact ⟨h0, h1⟩
theorem ixs_of (l : List ND) (p : ND → Bool) : ∀ (d i j : Nat), i ≤ j → j < i + d → p (rd_T50 l (j : Int)) = true → (j : Int) ∈ ixs_ l p d i := by
  intro d
  induction d with
  | zero => intro i j _ _ _; omega
  | succ d ih =>
    intro i j h1 h2 h3
    rw [ixs_succ]
    by_cases e : j = i
    · subst e; rw [if_pos h3]; exact List.mem_cons_self
    · have := ih (i + 1) j (by omega) (by omega) h3
      split
      · exact List.mem_cons_of_mem _ this
      · exact this
theorem kids_of (l : List ND) (h : tree_ l = true) (j : Nat) (h0 : 0 < j) (h1 : j < l.length) : (j : Int) ∈ kids_ l (rd_T50 l (j : Int)).f0 := by
  have hp := tree_parent h j h0 h1
  have hr := tree_row h j h0 h1
  simp only [row_, Bool.and_eq_true, decide_eq_true_eq] at hr
  have hd := hr.2.2.1
  unfold kids_
  rw [if_pos (isn_of h hp.1 (by omega))]
  have hk : ∀ c : Int, (rd_T50 l (j : Int)).f1 = c → (j : Int) ∈ kidsAt_ l (rd_T50 l (j : Int)).f0 c := fun c hc => ixs_of l _ (l.length - 1) 1 j (by omega) (by omega) (by unfold kid_; rw [hc]; simp)
  by_cases c0 : (rd_T50 l (j : Int)).f1 = 0
  · exact List.mem_append.2 (.inl (hk 0 c0))
  · by_cases c1 : (rd_T50 l (j : Int)).f1 = 1
    · exact List.mem_append.2 (.inr (List.mem_append.2 (.inl (hk 1 c1))))
    · by_cases c2 : (rd_T50 l (j : Int)).f1 = 2
      · exact List.mem_append.2 (.inr (List.mem_append.2 (.inr (List.mem_append.2 (.inl (hk 2 c2))))))
      · exact List.mem_append.2 (.inr (List.mem_append.2 (.inr (List.mem_append.2 (.inr (hk 3 (by omega)))))))

theorem cov_all (l : List ND) (h : tree_ l = true) : ∀ (j : Nat), 0 < j → j < l.length → (j : Int) ∈ cov_ l j 0 := by
  intro j
  induction j using Nat.strongRecOn with
  | _ j ih =>
    intro h0 h1
    have hp := tree_parent h j h0 h1
    have hk := kids_of l h j h0 h1
    have hr := tree_row h j h0 h1
    simp only [row_, Bool.and_eq_true, decide_eq_true_eq] at hr
    obtain ⟨q, hq⟩ : ∃ q : Nat, (rd_T50 l (j : Int)).f0 = (q : Int) := ⟨(rd_T50 l (j : Int)).f0.toNat, by omega⟩
    rw [hq] at hk hp hr
    obtain ⟨i, rfl⟩ : ∃ i, j = i + 1 := ⟨j - 1, by omega⟩
    by_cases e : q = 0
    · subst e
      exact (cov_iff l i 0 _).2 ⟨_, hk, .inl rfl⟩
    · exact cov_le l (q + 1) (i + 1) (by omega) 0 _ (cov_kid l q 0 (q : Int) _ (ih q (by omega) (by omega) (by omega)) hr.2.1 hk)
/-- Two numberings that begin with other lists of buses. -/
theorem vis_two (l : List ND) : ∀ (n : Nat) (k b : Int) (B1 B2 S L : List Int), B1.length = B2.length → (vis_ l n k b B1 S L).1 = (vis_ l n k b B2 S L).1 ∧ (vis_ l n k b B1 S L).2.2 = (vis_ l n k b B2 S L).2.2 ∧ (vis_ l n k b B1 S L).2.1.length = (vis_ l n k b B2 S L).2.1.length ∧
    ∀ j, 0 ≤ j → (rd B1 j = rd B2 j ∨ j ∈ cov_ l n k) → (∀ x ∈ cov_ l n k, 0 ≤ x) → rd (vis_ l n k b B1 S L).2.1 j = rd (vis_ l n k b B2 S L).2.1 j := by
  intro n
  induction n with
  | zero => intro k b B1 B2 S L hl; exact ⟨rfl, rfl, hl, fun j _ h _ => h.elim id (fun h => by simp [cov_] at h)⟩
  | succ n ih =>
    intro k b B1 B2 S L hl
    have fold : ∀ (ks : List Int) (a : Int) (B1 B2 S L : List Int), B1.length = B2.length → (ks.foldl (vstep_ l b (vis_ l n)) (a, B1, S, L)).1 = (ks.foldl (vstep_ l b (vis_ l n)) (a, B2, S, L)).1 ∧ (ks.foldl (vstep_ l b (vis_ l n)) (a, B1, S, L)).2.2 = (ks.foldl (vstep_ l b (vis_ l n)) (a, B2, S, L)).2.2 ∧
        (ks.foldl (vstep_ l b (vis_ l n)) (a, B1, S, L)).2.1.length = (ks.foldl (vstep_ l b (vis_ l n)) (a, B2, S, L)).2.1.length ∧ ∀ j, 0 ≤ j → (rd B1 j = rd B2 j ∨ ∃ c ∈ ks, j = c ∨ (rd_T50 l c).f2 = 0 ∧ j ∈ cov_ l n c) → (∀ c ∈ ks, 0 ≤ c ∧ ((rd_T50 l c).f2 = 0 → ∀ x ∈ cov_ l n c, 0 ≤ x)) →
          rd (ks.foldl (vstep_ l b (vis_ l n)) (a, B1, S, L)).2.1 j = rd (ks.foldl (vstep_ l b (vis_ l n)) (a, B2, S, L)).2.1 j := by
      intro ks
      induction ks with
      | nil => intro a B1 B2 S L hl; exact ⟨rfl, rfl, hl, fun j _ h _ => h.elim id (fun ⟨c, hc, _⟩ => by simp at hc)⟩
      | cons c t iht =>
        intro a B1 B2 S L hl
        have hset : ∀ j, 0 ≤ j → 0 ≤ c → (rd B1 j = rd B2 j ∨ j = c) → rd (B1.set c.toNat b) j = rd (B2.set c.toNat b) j := fun j j0 c0 hj => by
          rw [rd_set, rd_set, hl]
          by_cases e : j.toNat = c.toNat ∧ c.toNat < B2.length
          · rw [if_pos e, if_pos e]
          · rw [if_neg e, if_neg e]
            rcases hj with hj | hj
            · exact hj
            · subst hj
              have : ¬ j.toNat < B2.length := fun h => e ⟨rfl, h⟩
              unfold rd
              rw [List.getD_eq_getElem?_getD, List.getD_eq_getElem?_getD, List.getElem?_eq_none (by omega), List.getElem?_eq_none (by omega)]
        have hl' : (B1.set c.toNat b).length = (B2.set c.toNat b).length := by simp [hl]
        simp only [List.foldl_cons]
        by_cases g : (rd_T50 l c).f2 = 0
        · have e1 : vstep_ l b (vis_ l n) (a, B1, S, L) c = vis_ l n c (a + 1) (B1.set c.toNat b) S L := by unfold vstep_; rw [if_pos g]
          have e2 : vstep_ l b (vis_ l n) (a, B2, S, L) c = vis_ l n c (a + 1) (B2.set c.toNat b) S L := by unfold vstep_; rw [if_pos g]
          obtain ⟨h1, h2, h3, h4⟩ := ih c (a + 1) (B1.set c.toNat b) (B2.set c.toNat b) S L hl'
          rw [e1, e2]
          generalize vis_ l n c (a + 1) (B1.set c.toNat b) S L = r1 at h1 h2 h3 h4 ⊢
          generalize vis_ l n c (a + 1) (B2.set c.toNat b) S L = r2 at h1 h2 h3 h4 ⊢
          obtain ⟨a1, b1, s1, l1⟩ := r1
          obtain ⟨a2, b2, s2, l2⟩ := r2
          simp only [Prod.mk.injEq] at h1 h2 h3 h4
          obtain ⟨rfl, rfl⟩ := h2
          subst h1
          obtain ⟨i1, i2, i3, i4⟩ := iht a1 b1 b2 s1 l1 h3
          refine ⟨i1, i2, i3, fun j j0 hj hc => i4 j j0 ?_ (fun d hd => hc d (List.mem_cons_of_mem _ hd))⟩
          have hcc := hc c List.mem_cons_self
          rcases hj with hj | ⟨d, hd, hj⟩
          · exact .inl (h4 j j0 (.inl (hset j j0 hcc.1 (.inl hj))) (hcc.2 g))
          · rcases List.mem_cons.1 hd with rfl | hd
            · rcases hj with hj | ⟨_, hj⟩
              · exact .inl (h4 j j0 (.inl (hset j j0 hcc.1 (.inr hj))) (hcc.2 g))
              · exact .inl (h4 j j0 (.inr hj) (hcc.2 g))
            · exact .inr ⟨d, hd, hj⟩
        · have e1 : vstep_ l b (vis_ l n) (a, B1, S, L) c = (a, B1.set c.toNat b, S, L) := by unfold vstep_; rw [if_neg g]
          have e2 : vstep_ l b (vis_ l n) (a, B2, S, L) c = (a, B2.set c.toNat b, S, L) := by unfold vstep_; rw [if_neg g]
          rw [e1, e2]
          obtain ⟨i1, i2, i3, i4⟩ := iht a (B1.set c.toNat b) (B2.set c.toNat b) S L hl'
          refine ⟨i1, i2, i3, fun j j0 hj hc => i4 j j0 ?_ (fun d hd => hc d (List.mem_cons_of_mem _ hd))⟩
          have hcc := hc c List.mem_cons_self
          rcases hj with hj | ⟨d, hd, hj⟩
          · exact .inl (hset j j0 hcc.1 (.inl hj))
          · rcases List.mem_cons.1 hd with rfl | hd
            · rcases hj with hj | ⟨g2, _⟩
              · exact .inl (hset j j0 hcc.1 (.inr hj))
              · exact absurd g2 g
            · exact .inr ⟨d, hd, hj⟩
    obtain ⟨i1, i2, i3, i4⟩ := fold (kids_ l k) b B1 B2 (S.set k.toNat b) L hl
    rw [vis_succ, vis_succ]
    unfold vend_
    refine ⟨i1, ?_, i3, fun j j0 hj hx => i4 j j0 (hj.imp id (fun hj => (cov_iff l n k j).1 hj)) (fun c hc => ⟨hx c ((cov_iff l n k c).2 ⟨c, hc, .inl rfl⟩), fun g x hx' => hx x ((cov_iff l n k x).2 ⟨c, hc, .inr ⟨g, hx'⟩⟩)⟩)⟩
    simp only [i1, i2]
theorem cov_pos (l : List ND) (h : tree_ l = true) : ∀ (n : Nat) (k : Int), 0 ≤ k → k < (l.length : Int) → ∀ x ∈ cov_ l n k, 0 ≤ x := by
  intro n
  induction n with
  | zero => intro k _ _ x hx; simp [cov_] at hx
  | succ n ih =>
    intro k h0 h1 x hx
    obtain ⟨c, hc, e⟩ := (cov_iff l n k x).1 hx
    have := kids_mem l h k c h0 h1 hc
    rcases e with rfl | ⟨_, e⟩
    · omega
    · exact ih c (by omega) this.2 x e

theorem sv_loop (l : List ND) (hlen : l.length ≤ 12) (k b : Int) (k0 : 0 ≤ k) (k1 : k < (l.length : Int)) (N : Nat) (hN : N = l.length) (ks : List Int) (hn : ks.length ≤ 48) (V : Int → Int → List Int → List Int → List Int → VT) (R : Nat)
    (hk : ∀ c ∈ ks, k < c ∧ c < (l.length : Int)) (hok : ∀ c ∈ ks, ∀ b' B S L, vlen_ N (b', B, S, L) → vok_ N c b' S (V c b' B S L))
    (hV : ∀ c ∈ ks, ∀ K b' B S L, R ≤ K → vlen_ N (b', B, S, L) → 0 ≤ b' → b' + bd_ c ≤ 16777217 → spec_l20Visit.f K l B (S.set c.toNat b') L c b' = some ((V c b' B S L).1, (V c b' B S L).2.1, (V c b' B S L).2.2.1, (V c b' B S L).2.2.2)) :
    ∀ (d K i : Nat) (a : VT), i + d = ks.length → R + d < K → vlen_ N a → 0 ≤ a.1 → a.1 + ((ks.drop i).map bd_).sum ≤ 16777216 → rd a.2.2.1 k = b →
      spec_l20Visit.l0 K l k a.1 ks (i : Int) a.2.1 a.2.2.1 a.2.2.2 = some (vend_ k ((ks.drop i).foldl (vstep_ l b V) a)) := by
  intro d
  induction d with
  | zero =>
    intro K i a hi hK ha h0 hb hr
    obtain ⟨K, rfl⟩ : ∃ m, K = m + 1 := ⟨K - 1, by omega⟩
    simp only [spec_l20Visit.l0]
    rw [if_neg (by omega), if_pos k0, if_pos (by rw [ha.2.2]; omega), List.drop_of_length_le (by omega)]
    rfl
  | succ d ih =>
    intro K i a hi hK ha h0 hb hr
    obtain ⟨K, rfl⟩ : ∃ m, K = m + 1 := ⟨K - 1, by omega⟩
    have hi' : i < ks.length := by omega
    have hc := hk ks[i] (List.getElem_mem hi')
    have hds := drop_sum bd_ ks i hi'
    have hnn := drop_sum_nn bd_ ks (fun y _ => by have := bd_pos y; omega) (i + 1)
    have hp := bd_pos ks[i]
    have hset : vlen_ N (a.1 + 1, a.2.1.set (ks[i]).toNat b, a.2.2.1, a.2.2.2) := ⟨by simp only [List.length_set]; exact ha.1, ha.2.1, ha.2.2⟩
    rw [List.drop_eq_getElem_cons hi', List.foldl_cons]
    simp only [spec_l20Visit.l0]
    rw [if_pos (by omega), if_pos (by omega), if_pos k0, if_pos (by rw [ha.2.1]; omega), rd_nat ks i hi', if_pos (by omega), if_pos (by rw [ha.1]; omega), hr, obs, if_pos hc.2, wr ((i : Int) + 1) (by omega) (by omega), show (i : Int) + 1 = ((i + 1 : Nat) : Int) by omega]
    by_cases g : (rd_T50 l ks[i]).f2 = 0
    · have e : vstep_ l b V a ks[i] = V ks[i] (a.1 + 1) (a.2.1.set (ks[i]).toNat b) a.2.2.1 a.2.2.2 := by unfold vstep_; rw [if_pos g]
      obtain ⟨q1, q2, q3, q4⟩ := hok ks[i] (List.getElem_mem hi') (a.1 + 1) (a.2.1.set (ks[i]).toNat b) a.2.2.1 a.2.2.2 hset
      rw [if_pos g, if_pos (by rw [ha.2.1]; omega), wr (a.1 + 1) (by omega) (by omega), hV ks[i] (List.getElem_mem hi') K (a.1 + 1) _ _ _ (by omega) hset (by omega) (by omega), obs, e]
      exact ih K (i + 1) _ (by omega) (by omega) q1 (by omega) (by omega) ((q4 k k0 hc.1).trans hr)
    · have e : vstep_ l b V a ks[i] = (a.1, a.2.1.set (ks[i]).toNat b, a.2.2.1, a.2.2.2) := by unfold vstep_; rw [if_neg g]
      rw [if_neg g, e]
      exact ih K (i + 1) (a.1, a.2.1.set (ks[i]).toNat b, a.2.2.1, a.2.2.2) (by omega) (by omega) ⟨hset.1, hset.2.1, hset.2.2⟩ h0 (by simp only; omega) hr
theorem svis_eq (l : List ND) (h : tree_ l = true) : ∀ (n : Nat) (K : Nat) (k b : Int) (B S L : List Int), 0 ≤ k → k < (l.length : Int) → (l.length : Int) - k ≤ (n : Int) → 700 + 100 * n < K → vlen_ l.length (b, B, S, L) → 0 ≤ b → b + bd_ k ≤ 16777216 + 4096 →
    spec_l20Visit.f K l B (S.set k.toNat b) L k b = some ((vis_ l n k b B S L).1, (vis_ l n k b B S L).2.1, (vis_ l n k b B S L).2.2.1, (vis_ l n k b B S L).2.2.2) := by
  intro n
  induction n with
  | zero => intro K k b B S L h0 h1 h2; omega
  | succ n ih =>
    intro K k b B S L h0 h1 h2 hK hl hb0 hb1
    obtain ⟨K, rfl⟩ : ∃ m, K = m + 1 := ⟨K - 1, by omega⟩
    have t := tree_len h
    have hs := kids_bd2 l h k h0 h1
    have hkl := kids_len l k
    simp only [spec_l20Visit.f]
    rw [skids_eq l k (by omega) K (by omega), obs, vis_succ]
    have e := sv_loop l t.2 k b h0 h1 l.length rfl (kids_ l k) hkl (vis_ l n) (701 + 100 * n) (fun c hc => kids_mem l h k c h0 h1 hc) (fun c hc b' B S L hl => by
        have := kids_mem l h k c h0 h1 hc
        exact vis_ok l h l.length n c b' B S L (by omega) this.2 hl) (fun c hc K' b' B S L hK' hl g0 g1 => by
        have := kids_mem l h k c h0 h1 hc
        exact ih K' c b' B S L (by omega) this.2 (by omega) (by omega) hl g0 (by omega)) (kids_ l k).length K 0 (b, B, S.set k.toNat b, L) (by omega) (by omega) ⟨hl.1, by simp only [List.length_set]; exact hl.2.1, hl.2.2⟩ hb0 (by simp only [List.drop_zero]; omega) (by simp only; rw [rd_set, if_pos ⟨rfl, by rw [hl.2.1]; omega⟩])
    rw [List.drop_zero] at e
    exact e


theorem within_eq (a b c : Int) : impl_within.f a b c = some (decide (b ≤ a ∧ a ≤ c)) := by
  unfold impl_within.f; by_cases h : a ≥ b <;> simp [h]



theorem il0_eq (l : List ND) (h1 : 1 ≤ l.length) (hl : l.length ≤ 12) :
    ∀ d K (j : Nat), j + 1 + d = l.length → 2 * d < K → impl_TreeOk.l0 K l (l.drop 1) ((l.drop 1).length : Int) (j : Int) = some (rows_ l d (j + 1)) := by
  intro d
  have hd1 : (l.drop 1).length = l.length - 1 := by simp
  induction d with
  | zero =>
    intro K j hd hK
    obtain ⟨K, rfl⟩ : ∃ m, K = m + 1 := ⟨K - 1, by omega⟩
    simp only [impl_TreeOk.l0]
    rw [if_neg (by omega)]; rfl
  | succ d ih =>
    intro K j hd hK
    obtain ⟨K, rfl⟩ : ∃ m, K = m + 2 := ⟨K - 2, by omega⟩
    have e1 : ((j : Int) + 1) = ((j + 1 : Nat) : Int) := by omega
    have hrd : rd_T50 (l.drop 1) (j : Int) = rd_T50 l ((j + 1 : Nat) : Int) := by
      rw [rd_inode _ _ (by omega), rd_inode _ _ (by omega)]
      simp [Nat.add_comm]
    have hrt : ∀ p : Int, 0 ≤ p → p < ((j + 1 : Nat) : Int) → rd_T50 (l.take (j + 1)) p = rd_T50 l p := by
      intro p hp0 hp1
      obtain ⟨q, rfl⟩ : ∃ q : Nat, p = (q : Int) := ⟨p.toNat, by omega⟩
      rw [rd_inode _ _ (by simp; omega), rd_inode _ _ (by omega)]
      simp
    have hx : ∀ b p d' f, impl_TreeOk.j2 (K + 1) l (l.take (j + 1)) (l.drop 1) ((l.drop 1).length : Int) (j : Int) b p d' f = if b = true then some false else some (if (l.take (j + 1)).any (sib_ p d') then false else rows_ l d (j + 1 + 1)) := fun b p d' f => by
      simp only [impl_TreeOk.j2, impl_Node_impl_TreeOk_1.f, Option.bind_some]
      rw [wr ((j : Int) + 1) (by omega) (by omega), e1, ih K (j + 1) (by omega) (by omega)]
      unfold sib_
      cases b <;> cases (l.take (j + 1)).any (fun x => decide (x.f0 = p) && decide (x.f1 = d')) <;> simp
    simp only [impl_TreeOk.l0]
    rw [if_pos (by omega), if_pos (by omega), if_pos (by omega), wr ((j : Int) + 1) (by omega) (by omega), if_pos (by omega), if_pos (by omega), e1]
    rw [hrd, Int.toNat_natCast]
    unfold rows_ row_
    generalize hn : rd_T50 l ((j + 1 : Nat) : Int) = n
    simp only [within_eq, Option.bind_some, hx]
    have ht : ((l.take (j + 1)).length : Int) = ((j + 1 : Nat) : Int) := by simp; omega
    by_cases c0 : 0 ≤ n.f0 ∧ n.f0 < ((j + 1 : Nat) : Int)
    · rw [if_pos (by simp; omega), if_pos c0.1, if_pos (by rw [ht]; omega), decide_eq_true c0, Bool.true_and, hrt _ c0.1 c0.2]
      by_cases c1 : (rd_T50 l n.f0).f2 = 0
      · rw [if_pos c1, decide_eq_true c1, Bool.true_and]
        by_cases c2 : 0 ≤ n.f1 ∧ n.f1 ≤ 3
        · rw [decide_eq_true c2, if_pos rfl, Bool.true_and]
          by_cases c3 : 0 ≤ n.f2 ∧ n.f2 ≤ 4
          · rw [decide_eq_true c3, if_neg (by simp), Bool.true_and]
            cases (l.take (j + 1)).any (sib_ n.f0 n.f1) <;> simp
          · rw [decide_eq_false c3]; simp
        · rw [decide_eq_false c2]; simp
      · rw [if_neg c1, decide_eq_false c1]; simp
    · rw [if_neg (by simp; omega), decide_eq_false c0]; simp
theorem itree_eq (l : List ND) (hl : l.length ≤ 9223372036854775807) (K : Nat) (hK : 200 < K) : impl_TreeOk.f K l = some (tree_ l) := by
  obtain ⟨K, rfl⟩ : ∃ m, K = m + 1 := ⟨K - 1, by omega⟩
  unfold impl_TreeOk.f tree_
  simp only [within_eq, Option.bind_some, impl_TreeOk.j0]
  by_cases c : 1 ≤ (l.length : Int) ∧ (l.length : Int) ≤ 12
  · rw [decide_eq_true c, if_pos rfl, if_pos (by omega), Bool.true_and, if_pos (show (1 : Int) ≤ (l.length : Int) from c.1)]
    have h := il0_eq l (by omega) (by omega) (l.length - 1) K 0 (by omega) (by omega)
    by_cases hr : root_ l = true
    · have hr2 := hr
      simp only [root_, Bool.and_eq_true, beq_iff_eq] at hr2
      rw [hr, Bool.true_and, if_neg (by simp [hr2])]
      exact h
    · rw [Bool.not_eq_true] at hr
      rw [hr, if_pos, Bool.false_and]
      unfold root_ at hr
      revert hr
      cases (rd_T50 l 0).f0 == -1 <;> cases (rd_T50 l 0).f1 == 0 <;> cases (rd_T50 l 0).f2 == 0 <;> simp
  · rw [decide_eq_false c, if_neg (by simp), Bool.false_and]; simp


theorem isNode_eq (l : List ND) (x : Int) (hl : l.length ≤ 9223372036854775807) (K : Nat) (hK : 200 < K) : impl_isNode.f K l x = some (isn_ l x) := by
  unfold impl_isNode.f isn_
  rw [itree_eq l hl K hK, obs]
  cases h : tree_ l
  · simp
  · have := tree_len h
    rw [if_pos rfl, within_eq, obs, wr ((l.length : Int) - 1) (by omega) (by omega), Bool.true_and]
    congr 1
    rw [Bool.eq_iff_iff, decide_eq_true_eq, decide_eq_true_eq]; omega


/-- The children in the order of their places. -/
def all_ (l : List ND) (x : Int) : List Int := ixs_ l (fun n => decide (n.f0 = x)) l.length 0
theorem ikid0_eq (l : List ND) (x : Int) (hl : l.length ≤ 12) : ∀ (d K i : Nat) (out : List Int), i + d = l.length → d < K → out.length + d ≤ 1000 → impl_ChildrenOf.l0 K x out l (l.length : Int) (i : Int) l = slices_SortFunc_int_int_impl_ChildrenOf_1.f (out ++ ixs_ l (fun n => decide (n.f0 = x)) d i) l := by
  intro d
  induction d with
  | zero =>
    intro K i out h hK ho
    obtain ⟨K, rfl⟩ : ∃ m, K = m + 1 := ⟨K - 1, by omega⟩
    simp only [impl_ChildrenOf.l0]
    rw [if_neg (by omega)]; simp [ixs_]
  | succ d ih =>
    intro K i out h hK ho
    obtain ⟨K, rfl⟩ : ∃ m, K = m + 1 := ⟨K - 1, by omega⟩
    simp only [impl_ChildrenOf.l0]
    rw [if_pos (by omega), if_pos (by omega), if_pos (by omega), ixs_succ, wr ((i : Int) + 1) (by omega) (by omega), show (i : Int) + 1 = ((i + 1 : Nat) : Int) by omega]
    by_cases a : (rd_T50 l (i : Int)).f0 = x
    · rw [if_pos a, if_pos (by omega), ih K (i + 1) _ (by omega) (by omega) (by simp; omega), if_pos (by simp [a])]
      simp
    · rw [if_neg a, ih K (i + 1) _ (by omega) (by omega) (by omega), if_neg (by simp [a])]
theorem any_take (l : List ND) (p : ND → Bool) (j i : Nat) (hi : i < j) (hj : j ≤ l.length) (h : (l.take j).any p = false) : p (rd_T50 l (i : Int)) = false := by
  rw [List.any_eq_false] at h
  have := h (rd_T50 l (i : Int)) (by rw [rd_inode l i (by omega)]; exact List.mem_take_iff_getElem.2 ⟨i, by omega, rfl⟩)
  simpa using this
theorem all_nodup (l : List ND) (h : tree_ l = true) (x : Int) (hx : 0 ≤ x) : ∀ d i, i + d = l.length → ((ixs_ l (fun n => decide (n.f0 = x)) d i).map (slices_SortFunc_int_int_impl_ChildrenOf_1.key l)).Nodup := by
  intro d
  induction d with
  | zero => intro i _; simp [ixs_]
  | succ d ih =>
    intro i hi
    rw [ixs_succ]
    split
    · rename_i hp
      rw [List.map_cons, List.nodup_cons]
      refine ⟨?_, ih (i + 1) (by omega)⟩
      intro hm
      obtain ⟨y, hy, e⟩ := List.mem_map.1 hm
      obtain ⟨y0, y1, y2⟩ := ixs_mem _ _ _ _ _ hy
      obtain ⟨j, rfl⟩ : ∃ j : Nat, y = (j : Int) := ⟨y.toNat, by omega⟩
      have hr := tree_row h j (by omega) (by omega)
      simp only [row_, Bool.and_eq_true, Bool.not_eq_true'] at hr
      have := any_take l _ j i (by omega) (by omega) hr.2.2.2.2
      simp only [sib_, slices_SortFunc_int_int_impl_ChildrenOf_1.key] at this e hp y2
      simp only [decide_eq_true_eq] at hp y2
      rw [y2, hp, e] at this
      simp at this
    · exact ih (i + 1) (by omega)
theorem ikids_eq (l : List ND) (x : Int) (hl : l.length ≤ 9223372036854775807) (K : Nat) (hK : 500 < K) : impl_ChildrenOf.f K l x = some (kids_ l x) := by
  unfold impl_ChildrenOf.f kids_
  rw [obs, isNode_eq l x hl K (by omega), obs]
  by_cases h : isn_ l x = true
  · obtain ⟨t, g0, g1⟩ := isn_tree h
    obtain ⟨t0, t1⟩ := tree_len t
    have hlen := ixs_len l (fun n => decide (n.f0 = x)) l.length 0
    have hw := ikid0_eq l x t1 l.length K 0 [] (by omega) (by omega) (by simp; omega)
    simp only [List.nil_append, Int.natCast_zero] at hw
    rw [if_pos h, if_pos h]
    refine Eq.trans hw ?_
    unfold slices_SortFunc_int_int_impl_ChildrenOf_1.f
    have hroot := tree_root t
    have hall : (ixs_ l (fun n => decide (n.f0 = x)) l.length 0).all (fun y => decide (0 ≤ y ∧ y < (l.length : Int) ∧ 0 ≤ slices_SortFunc_int_int_impl_ChildrenOf_1.key l y ∧ slices_SortFunc_int_int_impl_ChildrenOf_1.key l y ≤ 3)) = true := by
      rw [List.all_eq_true]
      intro y hy
      obtain ⟨y0, y1, y2⟩ := ixs_mem _ _ _ _ _ hy
      obtain ⟨j, rfl⟩ : ∃ j : Nat, y = (j : Int) := ⟨y.toNat, by omega⟩
      simp only [decide_eq_true_eq] at y2
      have hj : 0 < j := by
        rcases Nat.eq_zero_or_pos j with rfl | hj
        · rw [show ((0 : Nat) : Int) = 0 by rfl, hroot] at y2; omega
        · exact hj
      have hr := tree_row t j hj (by omega)
      simp only [row_, Bool.and_eq_true, decide_eq_true_eq] at hr
      simp only [slices_SortFunc_int_int_impl_ChildrenOf_1.key]
      exact decide_eq_true ⟨by omega, by omega, hr.2.2.1.1, hr.2.2.1.2⟩
    rw [if_pos (by
      rw [hall, decide_eq_true (all_nodup l t x g0 l.length 0 (by omega)), decide_eq_true (show (ixs_ l (fun n => decide (n.f0 = x)) l.length 0).length ≤ 12 by omega)]; rfl)]
    have hf : ∀ c : Int, (ixs_ l (fun n => decide (n.f0 = x)) l.length 0).filter (fun y => decide (slices_SortFunc_int_int_impl_ChildrenOf_1.key l y = c)) = kidsAt_ l x c := fun c => by
      have e := ixs_filter l (fun n => decide (n.f0 = x)) (fun n => decide (n.f1 = c)) l.length 0
      refine e.trans ?_
      obtain ⟨m, hm⟩ : ∃ m, l.length = m + 1 := ⟨l.length - 1, by omega⟩
      unfold kidsAt_
      rw [hm, ixs_succ, if_neg (by simp [hroot]; omega)]
      rfl
    rw [hf, hf, hf, hf]
  · rw [if_neg h, if_neg h]


theorem iv_loop (l : List ND) (hlen : l.length ≤ 12) (k b : Int) (k0 : 0 ≤ k) (k1 : k < (l.length : Int)) (N : Nat) (hN : N = l.length) (ks : List Int) (hn : ks.length ≤ 48) (V : Int → Int → List Int → List Int → List Int → VT) (R : Nat)
    (hk : ∀ c ∈ ks, k < c ∧ c < (l.length : Int)) (hok : ∀ c ∈ ks, ∀ b' B S L, vlen_ N (b', B, S, L) → vok_ N c b' S (V c b' B S L))
    (hV : ∀ c ∈ ks, ∀ K b' B S L, R ≤ K → vlen_ N (b', B, S, L) → 0 ≤ b' → b' + bd_ c ≤ 16777217 → impl_numberer_visit.f K l B S L b' c b' = some ((V c b' B S L).1, (V c b' B S L).1, (V c b' B S L).2.1, (V c b' B S L).2.2.1, (V c b' B S L).2.2.2)) :
    ∀ (d K i : Nat) (a : VT), i + d = ks.length → R + d < K → vlen_ N a → 0 ≤ a.1 → a.1 + ((ks.drop i).map bd_).sum ≤ 16777216 →
      impl_numberer_visit.l0 K k b a.1 ks (ks.length : Int) (i : Int) l a.2.1 a.2.2.1 a.2.2.2 a.1 = some (((ks.drop i).foldl (vstep_ l b V) a).1, vend_ k ((ks.drop i).foldl (vstep_ l b V) a)) := by
  have hbr : ∀ c : Int, 0 ≤ c → c < (l.length : Int) → impl_isBridge.f l c = some ((rd_T50 l c).f2 == 0) := fun c c0 c1 => by unfold impl_isBridge.f; rw [if_pos c0, if_pos c1]
  intro d
  induction d with
  | zero =>
    intro K i a hi hK ha h0 hb
    obtain ⟨K, rfl⟩ : ∃ m, K = m + 1 := ⟨K - 1, by omega⟩
    simp only [impl_numberer_visit.l0]
    rw [if_neg (by omega), if_pos k0, if_pos (by rw [ha.2.2]; omega), List.drop_of_length_le (by omega)]
    rfl
  | succ d ih =>
    intro K i a hi hK ha h0 hb
    obtain ⟨K, rfl⟩ : ∃ m, K = m + 1 := ⟨K - 1, by omega⟩
    have hi' : i < ks.length := by omega
    have hc := hk ks[i] (List.getElem_mem hi')
    have hds := drop_sum bd_ ks i hi'
    have hnn := drop_sum_nn bd_ ks (fun y _ => by have := bd_pos y; omega) (i + 1)
    have hp := bd_pos ks[i]
    have hset : vlen_ N (a.1 + 1, a.2.1.set (ks[i]).toNat b, a.2.2.1, a.2.2.2) := ⟨by simp only [List.length_set]; exact ha.1, ha.2.1, ha.2.2⟩
    rw [List.drop_eq_getElem_cons hi', List.foldl_cons]
    simp only [impl_numberer_visit.l0]
    rw [if_pos (by omega), if_pos (by omega), if_pos (by omega), rd_nat ks i hi', if_pos (by omega), if_pos (by rw [ha.1]; omega), obs, hbr ks[i] (by omega) hc.2, obs, wr ((i : Int) + 1) (by omega) (by omega), show (i : Int) + 1 = ((i + 1 : Nat) : Int) by omega]
    by_cases g : (rd_T50 l ks[i]).f2 = 0
    · have e : vstep_ l b V a ks[i] = V ks[i] (a.1 + 1) (a.2.1.set (ks[i]).toNat b) a.2.2.1 a.2.2.2 := by unfold vstep_; rw [if_pos g]
      obtain ⟨q1, q2, q3, q4⟩ := hok ks[i] (List.getElem_mem hi') (a.1 + 1) (a.2.1.set (ks[i]).toNat b) a.2.2.1 a.2.2.2 hset
      rw [if_pos (by simpa using g), wr (a.1 + 1) (by omega) (by omega), hV ks[i] (List.getElem_mem hi') K (a.1 + 1) _ _ _ (by omega) hset (by omega) (by omega), obs, e, show mx a.1 (V ks[i] (a.1 + 1) (a.2.1.set (ks[i]).toNat b) a.2.2.1 a.2.2.2).1 = (V ks[i] (a.1 + 1) (a.2.1.set (ks[i]).toNat b) a.2.2.1 a.2.2.2).1 by unfold mx; rw [if_pos (by omega)]]
      exact ih K (i + 1) _ (by omega) (by omega) q1 (by omega) (by omega)
    · have e : vstep_ l b V a ks[i] = (a.1, a.2.1.set (ks[i]).toNat b, a.2.2.1, a.2.2.2) := by unfold vstep_; rw [if_neg g]
      rw [if_neg (by simpa using g), e]
      exact ih K (i + 1) (a.1, a.2.1.set (ks[i]).toNat b, a.2.2.1, a.2.2.2) (by omega) (by omega) ⟨hset.1, hset.2.1, hset.2.2⟩ h0 (by simp only; omega)
theorem ivis_eq (l : List ND) (h : tree_ l = true) : ∀ (n : Nat) (K : Nat) (k b : Int) (B S L : List Int), 0 ≤ k → k < (l.length : Int) → (l.length : Int) - k ≤ (n : Int) → 700 + 100 * n < K → vlen_ l.length (b, B, S, L) → 0 ≤ b → b + bd_ k ≤ 16777216 + 4096 →
    impl_numberer_visit.f K l B S L b k b = some ((vis_ l n k b B S L).1, (vis_ l n k b B S L).1, (vis_ l n k b B S L).2.1, (vis_ l n k b B S L).2.2.1, (vis_ l n k b B S L).2.2.2) := by
  intro n
  induction n with
  | zero => intro K k b B S L h0 h1 h2; omega
  | succ n ih =>
    intro K k b B S L h0 h1 h2 hK hl hb0 hb1
    obtain ⟨K, rfl⟩ : ∃ m, K = m + 1 := ⟨K - 1, by omega⟩
    have t := tree_len h
    have hs := kids_bd2 l h k h0 h1
    have hkl := kids_len l k
    simp only [impl_numberer_visit.f]
    rw [if_pos h0, if_pos (by rw [hl.2.1]; omega), ikids_eq l k (by omega) K (by omega), obs, vis_succ]
    have e := iv_loop l t.2 k b h0 h1 l.length rfl (kids_ l k) hkl (vis_ l n) (701 + 100 * n) (fun c hc => kids_mem l h k c h0 h1 hc) (fun c hc b' B S L hl => by
        have := kids_mem l h k c h0 h1 hc
        exact vis_ok l h l.length n c b' B S L (by omega) this.2 hl) (fun c hc K' b' B S L hK' hl g0 g1 => by
        have := kids_mem l h k c h0 h1 hc
        exact ih K' c b' B S L (by omega) this.2 (by omega) (by omega) hl g0 (by omega)) (kids_ l k).length K 0 (b, B, S.set k.toNat b, L) (by omega) (by omega) ⟨hl.1, by simp only [List.length_set]; exact hl.2.1, hl.2.2⟩ hb0 (by simp only [List.drop_zero]; omega)
    rw [List.drop_zero] at e
    exact e

theorem clone0 (l : List Int) (h : l.length ≤ 17592186044416) : slices_Clone_int_int.f l = some l := by unfold slices_Clone_int_int.f; rw [if_pos h]

def none_ (l : List ND) : List Int := List.replicate l.length (-1)
def enum_ (l : List ND) : List Int × List Int × List Int × Bool :=
  if tree_ l = true then (if (vis_ l 12 0 0 (none_ l) (none_ l) (none_ l)).1 > 15 then ([], [], [], false) else ((vis_ l 12 0 0 (none_ l) (none_ l) (none_ l)).2.1, (vis_ l 12 0 0 (none_ l) (none_ l) (none_ l)).2.2.1, (vis_ l 12 0 0 (none_ l) (none_ l) (none_ l)).2.2.2, true)) else ([], [], [], false)
theorem none_len (l : List ND) : (none_ l).length = l.length := by simp [none_]
theorem bd0 : bd_ 0 = 8388608 := by decide
theorem ienum_eq (l : List ND) (hl : l.length ≤ 9223372036854775807) (K : Nat) (hK : 2500 < K) : impl_Enumerate.f K l = some (enum_ l) := by
  unfold impl_Enumerate.f enum_
  rw [itree_eq l hl K (by omega), obs]
  by_cases h : tree_ l = true
  · have t := tree_len h
    have hn := none_len l
    have hc : slices_Clone_int_int.f (none_ l) = some (none_ l) := clone0 _ (by omega)
    have hr : slices_Repeat_int_int.f ([(-1)] : List Int) (l.length : Int) = some (none_ l) := by
      unfold slices_Repeat_int_int.f
      rw [if_pos ⟨rfl, by omega, by omega⟩]; rfl
    have hb := bd0
    rw [if_pos h, if_pos h, hr, obs, hc, obs, obs, obs, ivis_eq l h 12 K 0 0 (none_ l) (none_ l) (none_ l) (by omega) (by omega) (by omega) (by omega) ⟨hn, hn, hn⟩ (by omega) (by omega), obs]
    split <;> rfl
  · rw [if_neg h, if_neg h]
theorem se_loop (l : List ND) (h : tree_ l = true) : ∀ (d K i : Nat), i + d = l.length → d + 2500 < K → spec_Enumerate.l0 K l (i : Int) (List.replicate i 0) (List.replicate i (-1)) (List.replicate i (-1)) = some (enum_ l) := by
  have t := tree_len h
  intro d
  induction d with
  | zero =>
    intro K i hi hK
    obtain ⟨K, rfl⟩ : ∃ m, K = m + 1 := ⟨K - 1, by omega⟩
    obtain rfl : i = l.length := by omega
    have hn := none_len l
    have hb := bd0
    have hB : ((List.replicate l.length (0 : Int)).set (0 : Int).toNat (-1)).length = (none_ l).length := by simp [none_]
    have e := svis_eq l h 12 K 0 0 ((List.replicate l.length (0 : Int)).set (0 : Int).toNat (-1)) (none_ l) (none_ l) (by omega) (by omega) (by omega) (by omega) ⟨by rw [hB, hn], hn, hn⟩ (by omega) (by omega)
    obtain ⟨h1, h2, h3, h4⟩ := vis_two l 12 0 0 ((List.replicate l.length (0 : Int)).set (0 : Int).toNat (-1)) (none_ l) (none_ l) (none_ l) hB
    have ho := vis_ok l h l.length 12 0 0 (none_ l) (none_ l) (none_ l) (by omega) (by omega) ⟨hn, hn, hn⟩
    have hBe : (vis_ l 12 0 0 ((List.replicate l.length (0 : Int)).set (0 : Int).toNat (-1)) (none_ l) (none_ l)).2.1 = (vis_ l 12 0 0 (none_ l) (none_ l) (none_ l)).2.1 := by
      refine List.ext_getElem h3 (fun j j0 j1 => ?_)
      have hj : j < l.length := by rw [← ho.1.1]; exact j1
      have := h4 (j : Int) (by omega) (by
        by_cases hz : j = 0
        · subst hz
          left
          rw [rd_set, if_pos ⟨rfl, by simp; omega⟩]
          unfold none_ rd
          simp [List.getD_eq_getElem?_getD, List.getElem?_replicate, show 0 < l.length by omega]
        · exact .inr (cov_le l j 12 (by omega) 0 _ (cov_all l h j (by omega) hj))) (cov_pos l h 12 0 (by omega) (by omega))
      rw [rd_nat _ _ j0, rd_nat _ _ j1] at this
      exact this
    have hS : (List.replicate l.length (-1 : Int)) = none_ l := rfl
    simp only [spec_Enumerate.l0]
    rw [if_neg (by omega), if_pos (by simp; omega), if_pos (by simp; omega), hS, e, obs]
    unfold enum_
    rw [if_pos h, h1, h2, hBe]
    split <;> rfl
  | succ d ih =>
    intro K i hi hK
    obtain ⟨K, rfl⟩ : ∃ m, K = m + 1 := ⟨K - 1, by omega⟩
    simp only [spec_Enumerate.l0]
    rw [if_pos (by omega), if_pos (by simp; omega), if_pos (by simp; omega), if_pos (by simp; omega), wr ((i : Int) + 1) (by omega) (by omega), show (i : Int) + 1 = ((i + 1 : Nat) : Int) by omega, ← List.replicate_succ', ← List.replicate_succ']
    exact ih K (i + 1) (by omega) (by omega)
theorem senum_eq (l : List ND) (hl : l.length ≤ 9223372036854775807) (K : Nat) (hK : 2600 < K) : spec_Enumerate.f K l = some (enum_ l) := by
  unfold spec_Enumerate.f
  rw [stree_eq l hl K (by omega), obs]
  by_cases h : tree_ l = true
  · have t := tree_len h
    rw [if_pos h]
    exact se_loop l h l.length K 0 (by omega) (by omega)
  · unfold enum_
    rw [if_neg h, if_neg h]

theorem markNodeS_eq (k : Nat) (l : List S50) (hl : l.length ≤ 1048576) (hk : l.length < k) : ∃ l', laws_markNodeS.f k l 1 = some (1 + 3 * (l.length : Int), l') := by
  have h : ∀ (d K i : Nat) (x0 : List S50), x0.length = l.length → i + d = l.length → d < K → ∃ l', laws_markNodeS.l0 K x0 (1 + 3 * (i : Int)) (i : Int) = some (1 + 3 * (l.length : Int), l') := by
    intro d
    induction d with
    | zero =>
      intro K i x0 h0 hi hK
      obtain ⟨K, rfl⟩ : ∃ m, K = m + 1 := ⟨K - 1, by omega⟩
      refine ⟨x0, ?_⟩
      simp only [laws_markNodeS.l0]
      rw [if_neg (by omega), show (i : Int) = (l.length : Int) by omega]
    | succ d ih =>
      intro K i x0 h0 hi hK
      obtain ⟨K, rfl⟩ : ∃ m, K = m + 1 := ⟨K - 1, by omega⟩
      simp only [laws_markNodeS.l0]
      rw [if_pos (by omega), if_pos (by omega), obs, obs, wr (1 + 3 * (i : Int) + 1) (by omega) (by omega), wr (1 + 3 * (i : Int) + 1 + 1) (by omega) (by omega), wr (1 + 3 * (i : Int) + 1 + 1 + 1) (by omega) (by omega), wr ((i : Int) + 1) (by omega) (by omega),
        show 1 + 3 * (i : Int) + 1 + 1 + 1 = 1 + 3 * ((i + 1 : Nat) : Int) by omega]
      exact ih K (i + 1) _ (by simp [h0]) (by omega) (by omega)
  obtain ⟨l', e⟩ := h l.length k 0 l rfl (by omega) hk
  exact ⟨l', by unfold laws_markNodeS.f; simpa using e⟩

theorem eqIntS_eq (k : Nat) (a b : List Int) (hl : a.length ≤ 1048576) (hk : a.length < k) : laws_eqIntS.f k a b = some (decide (a = b)) := by
  unfold laws_eqIntS.f
  by_cases e : b.length = a.length
  · rw [if_pos (by omega)]
    have h := eq_loop laws_eqIntS.l0 a b hl e (fun k i h hx => by
        simp only [laws_eqIntS.l0]
        rw [if_pos (by omega), if_pos (by omega), if_pos (by omega), rd_nat _ _ h, rd_nat _ _ (by omega), if_neg hx]) (fun k i h hx => by
        simp only [laws_eqIntS.l0]
        rw [if_pos (by omega), if_pos (by omega), if_pos (by omega), rd_nat _ _ h, rd_nat _ _ (by omega), if_pos hx, wr _ (by omega) (by omega)]
        rfl) (fun k => by
        simp only [laws_eqIntS.l0]
        rw [if_neg (by omega)]) a.length k 0 (by omega) hk
    simpa using h
  · rw [if_neg (by omega)]
    congr 1
    symm
    rw [decide_eq_false_iff_not]
    rintro rfl
    exact e rfl

theorem markIntS_eq (k : Nat) (l : List Int) (m : Int) (hl : l.length ≤ 1048576) (hk : l.length < k) (h0 : 0 ≤ m) (h1 : m ≤ 4194304) : laws_markIntS.f k l m = some (m + l.length, marks m l.length) := by
  have h := mark_loop laws_markIntS.l0 l.length m (fun k x0 i h3 h => by
      simp only [laws_markIntS.l0]
      rw [if_pos (by omega), if_pos (by omega), wr (m + i + 1) (by omega) (by omega), wr ((i : Int) + 1) (by omega) (by omega), show m + (i : Int) + 1 = m + ((i + 1 : Nat) : Int) by omega]
      rfl) (fun k x0 h3 => by
      simp only [laws_markIntS.l0]
      rw [if_neg (by omega)]) l.length k l 0 rfl (by omega) hk (fun j hj => by omega)
  unfold laws_markIntS.f
  simpa using h

theorem heldIntS_eq (k n : Nat) (m : Int) (hl : n ≤ 1048576) (hk : n < k) (h0 : 0 ≤ m) (h1 : m ≤ 4194304) : laws_heldIntS.f k (marks m n) m = some (m + n) := by
  have h := held_loop laws_heldIntS.l0 n m (fun k i h => by
      have hg : rd (marks m n) (i : Int) = m + i := by
        rw [rd_nat _ _ (by rw [marks_length]; exact h)]
        have := marks_get m n i h
        rw [List.getElem?_eq_getElem (by rw [marks_length]; exact h)] at this
        injection this
      simp only [laws_heldIntS.l0, marks_length]
      rw [if_pos (by omega), if_pos (by omega), hg, if_pos rfl, wr (m + i + 1) (by omega) (by omega), wr ((i : Int) + 1) (by omega) (by omega), show m + (i : Int) + 1 = m + ((i + 1 : Nat) : Int) by omega]
      rfl) (fun k => by
      simp only [laws_heldIntS.l0, marks_length]
      rw [if_neg (by omega)]) n k 0 (by omega) hk
  unfold laws_heldIntS.f
  simpa using h

theorem eqNumbers_self (K : Nat) (a b c : List Int) (ha : a.length ≤ 1000) (hb : b.length ≤ 1000) (hc : c.length ≤ 1000) (hK : 1000 < K) : laws_eqNumbers.f K a b c a b c = some true := by
  unfold laws_eqNumbers.f
  rw [eqIntS_eq K a a (by omega) (by omega), obs, if_pos (by simp), eqIntS_eq K b b (by omega) (by omega), obs, if_pos (by simp), eqIntS_eq K c c (by omega) (by omega), obs, if_pos (by simp)]
theorem markNumbers_eq (K : Nat) (a b c : List Int) (ha : a.length ≤ 1000) (hb : b.length ≤ 1000) (hc : c.length ≤ 1000) (hK : 1000 < K) : laws_markNumbers.f K a b c 1 = some (1 + (a.length : Int) + (b.length : Int) + (c.length : Int), marks 1 a.length, marks (1 + a.length) b.length, marks (1 + a.length + b.length) c.length) := by
  unfold laws_markNumbers.f
  rw [markIntS_eq K a 1 (by omega) (by omega) (by omega) (by omega), obs]
  simp only
  rw [markIntS_eq K b _ (by omega) (by omega) (by omega) (by omega), obs]
  simp only
  rw [markIntS_eq K c _ (by omega) (by omega) (by omega) (by omega), obs]
theorem heldNumbers_eq (K : Nat) (a b c : Nat) (ha : a ≤ 1000) (hb : b ≤ 1000) (hc : c ≤ 1000) (hK : 1000 < K) : laws_heldNumbers.f K (marks 1 a) (marks (1 + a) b) (marks (1 + a + b) c) 1 = some (1 + (a : Int) + (b : Int) + (c : Int)) := by
  unfold laws_heldNumbers.f
  rw [heldIntS_eq K a 1 (by omega) (by omega) (by omega) (by omega), obs, if_neg (by omega), heldIntS_eq K b _ (by omega) (by omega) (by omega) (by omega), obs, if_neg (by omega), heldIntS_eq K c _ (by omega) (by omega) (by omega) (by omega), obs, if_neg (by omega)]

theorem enum_len (l : List ND) : (enum_ l).1.length ≤ 1000 ∧ (enum_ l).2.1.length ≤ 1000 ∧ (enum_ l).2.2.1.length ≤ 1000 := by
  unfold enum_
  by_cases h : tree_ l = true
  · have t := tree_len h
    have hn := none_len l
    have ho := (vis_ok l h l.length 12 0 0 (none_ l) (none_ l) (none_ l) (by omega) (by omega) ⟨hn, hn, hn⟩).1
    rw [if_pos h]
    split
    · simp
    · exact ⟨by rw [ho.1]; omega, by rw [ho.2.1]; omega, by rw [ho.2.2]; omega⟩
  · rw [if_neg h]; simp
theorem FnExactEnumerate (l0 : List (S83))
    (h0 : l0.length ≤ 9223372036854775807) (h1 : (∀ y ∈ l0, ((Lit.int .i64 y.f0).wf = true) ∧ ((Lit.int .i64 y.f1).wf = true) ∧ ((Lit.int .i64 y.f2).wf = true))) :
    ∃ k, laws_FnExactEnumerate.f k l0 = some true := by
  obtain ⟨k, hk⟩ : ∃ k : Nat, 1048576 < k := ⟨1048577, by omega⟩
  refine ⟨k + 3, ?_⟩
  unfold laws_FnExactEnumerate.f
  rw [szNodeS_eq l0 1048576 h0 (by omega) (by omega)]
  by_cases hb : (1048576 : Int) < (l0.length : Int)
  · simp [hb]
  · have hl : l0.length ≤ 1048576 := by omega
    have hm : (l0.map toNd).length ≤ 1048576 := by simpa using hl
    have hm9 : (l0.map toNd).length ≤ 9223372036854775807 := by omega
    obtain ⟨e1, e2, e3⟩ := enum_len (l0.map toNd)
    obtain ⟨l', hmk⟩ := markNodeS_eq (k + 2) (l0.map toNd) hm (by omega)
    simp only [if_neg hb, obs]
    rw [if_neg (by omega)]
    simp only [toNodeS_eq (k + 3) l0 hl (by omega), obs, senum_eq _ hm9 (k + 3) (by omega), ienum_eq _ hm9 (k + 3) (by omega)]
    rw [eqNumbers_self (k + 3) _ _ _ e1 e2 e3 (by omega), obs, if_pos rfl]
    simp only [laws_FnExactEnumerate.j0, bne_self_eq_false]
    rw [if_neg (by simp), toNodeS_eq (k + 2) l0 hl (by omega), obs, eqNodeS_eq (k + 2) _ _ hm (by omega), obs, if_pos (by simp), hmk, obs]
    (try simp only)
    rw [if_neg (by omega), eqNumbers_self (k + 2) _ _ _ e1 e2 e3 (by omega), obs, if_pos rfl]
    simp only [laws_FnExactEnumerate.j1]
    rw [if_neg (by simp), markNumbers_eq (k + 1) _ _ _ e1 e2 e3 (by omega), obs]
    (try simp only)
    rw [heldNumbers_eq (k + 1) _ _ _ e1 e2 e3 (by omega), obs, if_neg (by omega), if_pos rfl, toNodeS_eq (k + 1) l0 hl (by omega), obs, ienum_eq _ hm9 (k + 1) (by omega), obs]
    (try simp only)
    rw [eqNumbers_self (k + 1) _ _ _ e1 e2 e3 (by omega), obs, if_pos rfl]
    simp only [laws_FnExactEnumerate.j2, bne_self_eq_false]
    rw [if_neg (by simp), heldNumbers_eq k _ _ _ e1 e2 e3 (by omega), obs, if_neg (by omega), if_pos rfl]

end Go.Proofs.Ytbbppknnkghkjaa.Pure
