/- Of every code: on the drawn tree and sizes, the windows that the program lays are nested, have their sizes, stand at multiples of these, and the root's holds all that is asked. -/
import Derived.Test.YtbbppknnkghkjaaPFnWindowsx15
import Derived.Test.YtbbppknnkghkjaaCom
import Derived.Test.YtbbppknnkghkjaaPow
namespace Go.Proofs.Ytbbppknnkghkjaa.Pure
open Go.RowKit Go.Proofs.Ytbbppknnkghkjaa.PFnWindows Go.Proofs.YtbbppknnkghkjaaW.PrintWords Go.Proofs.YtbbppknnkghkjaaW.PrintLast Go.Proofs.YtbbppknnkghkjaaW.PrintMore Go.Proofs.Ytbbppknnkghkjaa.Com
set_option linter.unusedVariables false
set_option linter.unusedSimpArgs false
theorem obs {α β : Type} (a : α) (f : α → Option β) : (some a).bind f = f a := by rw [Option.bind_some]
theorem l01In_eq (a b c : Int) : spec_l01In.f a b c = some (decide (b ≤ a ∧ a ≤ c)) := by
  unfold spec_l01In.f; by_cases h : a ≥ b <;> simp [h]
theorem rd_inode (xs : List S50) (i : Nat) (h : i < xs.length) : rd_T50 xs (i : Int) = xs[i] := getD_nat _ _ _ h
abbrev ND := S50
def sib_ (p d : Int) (x : ND) : Bool := decide (x.f0 = p) && decide (x.f1 = d)
def row_ (l : List ND) (k : Nat) (n : ND) : Bool :=
  decide (0 ≤ n.f0 ∧ n.f0 < (k : Int)) && (decide ((rd_T50 l n.f0).f2 = 0) && (decide (0 ≤ n.f1 ∧ n.f1 ≤ 3) && (decide (0 ≤ n.f2 ∧ n.f2 ≤ 4) && !(l.take k).any (sib_ n.f0 n.f1))))
def rows_ (l : List ND) : Nat → Nat → Bool
  | 0, _ => true
  | d + 1, k => row_ l k (rd_T50 l (k : Int)) && rows_ l d (k + 1)
def root_ (l : List ND) : Bool := (rd_T50 l 0).f0 == (-1) && ((rd_T50 l 0).f1 == 0 && (rd_T50 l 0).f2 == 0)
def tree_ (l : List ND) : Bool := decide (1 ≤ (l.length : Int) ∧ (l.length : Int) ≤ 12) && (root_ l && rows_ l (l.length - 1) 1)
theorem tree_len {l : List ND} (h : tree_ l = true) : 1 ≤ l.length ∧ l.length ≤ 12 := by
  simp only [tree_, Bool.and_eq_true, decide_eq_true_eq] at h; omega
theorem tree_root {l : List ND} (h : tree_ l = true) : (rd_T50 l 0).f0 = -1 := by
  simp only [tree_, root_, Bool.and_eq_true, decide_eq_true_eq, beq_iff_eq] at h; exact h.2.1.1
theorem rows_row (l : List ND) : ∀ d k j, rows_ l d k = true → k ≤ j → j < k + d → row_ l j (rd_T50 l (j : Int)) = true := by
  intro d
  induction d with
  | zero => intro k j _ _ _; omega
  | succ d ih =>
    intro k j h h1 h2
    simp only [rows_, Bool.and_eq_true] at h
    by_cases e : j = k
    · subst e; exact h.1
    · exact ih (k + 1) j h.2 (by omega) (by omega)
theorem tree_row {l : List ND} (h : tree_ l = true) (j : Nat) (h0 : 0 < j) (h1 : j < l.length) : row_ l j (rd_T50 l (j : Int)) = true := by
  simp only [tree_, Bool.and_eq_true] at h
  exact rows_row l _ 1 j h.2.2 (by omega) (by omega)
theorem tree_parent {l : List ND} (h : tree_ l = true) (j : Nat) (h0 : 0 < j) (h1 : j < l.length) : 0 ≤ (rd_T50 l (j : Int)).f0 ∧ (rd_T50 l (j : Int)).f0 < (j : Int) := by
  have := tree_row h j h0 h1
  simp only [row_, Bool.and_eq_true, decide_eq_true_eq] at this
  exact this.1
theorem sib_root {l : List ND} (hl : 0 < l.length) (hr : (rd_T50 l 0).f0 = -1) (p d : Int) (hp : 0 ≤ p) (k : Nat) (hk : 1 ≤ k) : (l.take k).any (sib_ p d) = ((l.take k).drop 1).any (sib_ p d) := by
  cases l with
  | nil => simp at hl
  | cons x xs =>
    obtain ⟨k, rfl⟩ : ∃ m, k = m + 1 := ⟨k - 1, by omega⟩
    have hx : x.f0 = -1 := hr
    have : sib_ p d x = false := by unfold sib_; rw [hx]; rw [decide_eq_false (show ¬ (-1 : Int) = p by omega)]; rfl
    simp [this]
theorem sl1_eq (l : List ND) (k : Nat) (hk : k < l.length) (hl : l.length ≤ 12) (p d f : Int) (R : Bool) (B : Nat) (hR : ∀ K, B < K → spec_TreeOk.l0 K l ((k + 1 : Nat) : Int) = some R) :
    ∀ e K i, i + e = k → B + e + 1 < K → spec_TreeOk.l1 K l (k : Int) (i : Int) p d f = some (if ((l.take k).drop i).any (sib_ p d) then false else R) := by
  intro e
  induction e with
  | zero =>
    intro K i hi hK
    obtain ⟨K, rfl⟩ : ∃ m, K = m + 1 := ⟨K - 1, by omega⟩
    obtain rfl : i = k := by omega
    simp only [spec_TreeOk.l1]
    rw [if_neg (by omega), wr ((i : Int) + 1) (by omega) (by omega), List.drop_of_length_le (by simp; omega)]
    simpa using hR K (by omega)
  | succ e ih =>
    intro K i hi hK
    obtain ⟨K, rfl⟩ : ∃ m, K = m + 1 := ⟨K - 1, by omega⟩
    have hlt : i < (l.take k).length := by simp; omega
    have hg : (l.take k)[i] = l[i]'(by omega) := by simp
    have e1 : ((i : Int) + 1) = ((i + 1 : Nat) : Int) := by omega
    simp only [spec_TreeOk.l1]
    rw [if_pos (by omega), if_pos (by omega), if_pos (by omega), rd_inode _ _ (by omega), wr ((i : Int) + 1) (by omega) (by omega), List.drop_eq_getElem_cons hlt, hg, e1, ih K (i + 1) (by omega) (by omega)]
    rw [List.any_cons]
    by_cases h0 : (l[i]'(by omega)).f0 = p
    · by_cases h1 : (l[i]'(by omega)).f1 = d
      · rw [if_pos h0, if_pos h1]; simp [sib_, h0, h1]
      · rw [if_pos h0, if_neg h1]; simp [sib_, h0, h1]
    · rw [if_neg h0]; simp [sib_, h0]
theorem sl0_eq (l : List ND) (h1 : 1 ≤ l.length) (hl : l.length ≤ 12) (hr : (rd_T50 l 0).f0 = -1) :
    ∀ d K k, 1 ≤ k → k + d = l.length → 16 * d < K → spec_TreeOk.l0 K l (k : Int) = some (rows_ l d k) := by
  intro d
  induction d with
  | zero =>
    intro K k hk hd hK
    obtain ⟨K, rfl⟩ : ∃ m, K = m + 1 := ⟨K - 1, by omega⟩
    simp only [spec_TreeOk.l0]
    rw [if_neg (by omega)]; rfl
  | succ d ih =>
    intro K k hk hd hK
    obtain ⟨K, rfl⟩ : ∃ m, K = m + 2 := ⟨K - 2, by omega⟩
    have hx : ∀ b p d' f, spec_TreeOk.j2 (K + 1) l (k : Int) b p d' f = if b = true then some false else spec_TreeOk.l1 K l (k : Int) 1 p d' f := fun b p d' f => by simp only [spec_TreeOk.j2]
    have hin : ∀ p d' f, 0 ≤ p → spec_TreeOk.l1 K l (k : Int) 1 p d' f = some (if (l.take k).any (sib_ p d') then false else rows_ l d (k + 1)) := fun p d' f hp => by
      have h := sl1_eq l k (by omega) hl p d' f (rows_ l d (k + 1)) (16 * d) (fun K' hK' => ih K' (k + 1) (by omega) (by omega) hK') (k - 1) K 1 (by omega) (by omega)
      rw [sib_root (by omega) hr p d' hp k hk]
      exact h
    simp only [spec_TreeOk.l0]
    rw [if_pos (by omega), if_pos (by omega), wr ((k : Int) - 1) (by omega) (by omega)]
    unfold rows_ row_
    generalize rd_T50 l (k : Int) = n
    simp only [l01In_eq, Option.bind_some, hx]
    by_cases c0 : 0 ≤ n.f0 ∧ n.f0 < (k : Int)
    · rw [if_pos (by simp; omega), if_pos c0.1, if_pos (by omega), decide_eq_true c0, Bool.true_and]
      by_cases c1 : (rd_T50 l n.f0).f2 = 0
      · rw [if_pos c1, decide_eq_true c1, Bool.true_and]
        by_cases c2 : 0 ≤ n.f1 ∧ n.f1 ≤ 3
        · rw [decide_eq_true c2, if_pos rfl, Bool.true_and]
          by_cases c3 : 0 ≤ n.f2 ∧ n.f2 ≤ 4
          · rw [decide_eq_true c3, if_neg (by simp), Bool.true_and, hin _ _ _ c0.1]
            cases (l.take k).any (sib_ n.f0 n.f1) <;> simp
          · rw [decide_eq_false c3]; simp
        · rw [decide_eq_false c2]; simp
      · rw [if_neg c1, decide_eq_false c1]; simp
    · rw [if_neg (by simp; omega), decide_eq_false c0]; simp
theorem stree_eq (l : List ND) (hl : l.length ≤ 9223372036854775807) (K : Nat) (hK : 200 < K) : spec_TreeOk.f K l = some (tree_ l) := by
  obtain ⟨K, rfl⟩ : ∃ m, K = m + 1 := ⟨K - 1, by omega⟩
  unfold spec_TreeOk.f tree_
  simp only [l01In_eq, Option.bind_some, spec_TreeOk.j0]
  by_cases c : 1 ≤ (l.length : Int) ∧ (l.length : Int) ≤ 12
  · rw [decide_eq_true c, if_pos rfl, if_pos (by omega), Bool.true_and]
    by_cases hr : root_ l = true
    · have hr0 : (rd_T50 l 0).f0 = -1 := by
        simp only [root_, Bool.and_eq_true, beq_iff_eq] at hr; exact hr.1
      have h := sl0_eq l (by omega) (by omega) hr0 (l.length - 1) K 1 (by omega) (by omega) (by omega)
      have hr2 := hr
      simp only [root_, Bool.and_eq_true, beq_iff_eq] at hr2
      rw [hr, Bool.true_and, if_neg (by simp [hr2])]
      exact h
    · rw [Bool.not_eq_true] at hr
      rw [hr, if_pos, Bool.false_and]
      unfold root_ at hr
      revert hr
      cases (rd_T50 l 0).f0 == -1 <;> cases (rd_T50 l 0).f1 == 0 <;> cases (rd_T50 l 0).f2 == 0 <;> simp
  · rw [decide_eq_false c, if_neg (by simp), Bool.false_and]; simp
def isn_ (l : List ND) (x : Int) : Bool := tree_ l && decide (0 ≤ x ∧ x < (l.length : Int))
theorem isn_tree {l : List ND} {x : Int} (h : isn_ l x = true) : tree_ l = true ∧ 0 ≤ x ∧ x < (l.length : Int) := by
  simpa only [isn_, Bool.and_eq_true, decide_eq_true_eq] using h
theorem l19Ok_eq (l : List ND) (x : Int) (hl : l.length ≤ 9223372036854775807) (K : Nat) (hK : 200 < K) : spec_l19Ok.f K l x = some (isn_ l x) := by
  unfold spec_l19Ok.f isn_
  rw [stree_eq l hl K hK, obs]
  cases h : tree_ l
  · simp
  · have := tree_len h
    rw [if_pos rfl, l01In_eq, obs, wr ((l.length : Int) - 1) (by omega) (by omega), Bool.true_and]
    congr 1
    rw [Bool.eq_iff_iff, decide_eq_true_eq, decide_eq_true_eq]; omega
def ixs_ (l : List ND) (p : ND → Bool) : Nat → Nat → List Int
  | 0, _ => []
  | d + 1, i => if p (rd_T50 l (i : Int)) = true then (i : Int) :: ixs_ l p d (i + 1) else ixs_ l p d (i + 1)
def kid_ (x d : Int) (n : ND) : Bool := decide (n.f0 = x) && decide (n.f1 = d)
def kidsAt_ (l : List ND) (x d : Int) : List Int := ixs_ l (kid_ x d) (l.length - 1) 1
def kids_ (l : List ND) (x : Int) : List Int := if isn_ l x = true then kidsAt_ l x 0 ++ (kidsAt_ l x 1 ++ (kidsAt_ l x 2 ++ kidsAt_ l x 3)) else []
theorem ixs_succ (l : List ND) (p : ND → Bool) (d i : Nat) : ixs_ l p (d + 1) i = if p (rd_T50 l (i : Int)) = true then (i : Int) :: ixs_ l p d (i + 1) else ixs_ l p d (i + 1) := rfl
theorem ixs_len (l : List ND) (p : ND → Bool) : ∀ d i, (ixs_ l p d i).length ≤ d := by
  intro d
  induction d with
  | zero => intro i; simp [ixs_]
  | succ d ih => intro i; have := ih (i + 1); rw [ixs_succ]; split <;> simp <;> omega
theorem ixs_mem (l : List ND) (p : ND → Bool) : ∀ d i (y : Int), y ∈ ixs_ l p d i → (i : Int) ≤ y ∧ y < ((i + d : Nat) : Int) ∧ p (rd_T50 l y) = true := by
  intro d
  induction d with
  | zero => intro i y h; simp [ixs_] at h
  | succ d ih =>
    intro i y h
    rw [ixs_succ] at h
    split at h
    · rename_i hp
      rcases List.mem_cons.1 h with rfl | h
      · exact ⟨by omega, by omega, hp⟩
      · obtain ⟨a, b, c⟩ := ih _ _ h; exact ⟨by omega, by omega, c⟩
    · obtain ⟨a, b, c⟩ := ih _ _ h; exact ⟨by omega, by omega, c⟩
theorem ixs_filter (l : List ND) (p q : ND → Bool) : ∀ d i, (ixs_ l p d i).filter (fun y => q (rd_T50 l y)) = ixs_ l (fun n => p n && q n) d i := by
  intro d
  induction d with
  | zero => intro i; rfl
  | succ d ih =>
    intro i
    rw [ixs_succ, ixs_succ]
    cases hp : p (rd_T50 l (i : Int)) <;> cases hq : q (rd_T50 l (i : Int)) <;> simp [ih, hq]
theorem kidsAt_len (l : List ND) (x d : Int) (hl : l.length ≤ 12) : (kidsAt_ l x d).length ≤ 12 := by
  have := ixs_len l (kid_ x d) (l.length - 1) 1; unfold kidsAt_; omega
theorem kids_len (l : List ND) (x : Int) : (kids_ l x).length ≤ 48 := by
  unfold kids_
  split
  · rename_i h
    obtain ⟨t, _⟩ := isn_tree h
    have t1 := (tree_len t).2
    have z0 := kidsAt_len l x 0 t1; have z1 := kidsAt_len l x 1 t1; have z2 := kidsAt_len l x 2 t1; have z3 := kidsAt_len l x 3 t1
    simp; omega
  · simp
theorem skid1_eq (l : List ND) (x c : Int) (c0 : 0 ≤ c) (c1 : c ≤ 3) (hl : l.length ≤ 12) : ∀ (d K i : Nat) (out : List Int), i + d = l.length → out.length + d ≤ 1000 → spec_ChildrenOf.l1 (K + d + 1) l x out c (i : Int) = spec_ChildrenOf.l0 K l x (out ++ ixs_ l (kid_ x c) d i) (c + 1) := by
  intro d
  induction d with
  | zero =>
    intro K i out h ho
    simp only [spec_ChildrenOf.l1]
    rw [if_neg (by omega), wr (c + 1) (by omega) (by omega)]; simp [ixs_]
  | succ d ih =>
    intro K i out h ho
    rw [show K + (d + 1) + 1 = (K + d + 1) + 1 by omega]
    have ih' := fun o => ih K (i + 1) o (by omega)
    generalize K + d + 1 = q at ih' ⊢
    simp only [spec_ChildrenOf.l1]
    rw [if_pos (by omega), if_pos (by omega), ixs_succ, wr ((i : Int) + 1) (by omega) (by omega), show (i : Int) + 1 = ((i + 1 : Nat) : Int) by omega]
    by_cases a : (rd_T50 l (i : Int)).f0 = x
    · by_cases b : (rd_T50 l (i : Int)).f1 = c
      · rw [if_pos a, if_pos b, if_pos (by omega), ih' _ (by simp; omega), if_pos (by simp [kid_, a, b])]
        simp
      · rw [if_pos a, if_neg b, ih' _ (by omega), if_neg (by simp [kid_, b])]
    · rw [if_neg a, ih' _ (by omega), if_neg (by simp [kid_, a])]
theorem skid0_eq (l : List ND) (x c : Int) (c0 : 0 ≤ c) (c1 : c ≤ 3) (h1 : 1 ≤ l.length) (hl : l.length ≤ 12) (K K' : Nat) (hK : K' = K + l.length + 1) (out : List Int) (ho : out.length ≤ 900) : spec_ChildrenOf.l0 K' l x out c = spec_ChildrenOf.l0 K l x (out ++ kidsAt_ l x c) (c + 1) := by
  obtain ⟨m, rfl⟩ : ∃ m, K' = m + 1 := ⟨K' - 1, by omega⟩
  simp only [spec_ChildrenOf.l0]
  rw [if_pos c1]
  have := skid1_eq l x c c0 c1 hl (l.length - 1) K 1 out (by omega) (by omega)
  rw [show K + (l.length - 1) + 1 = m by omega] at this
  exact this
theorem skids_eq (l : List ND) (x : Int) (hl : l.length ≤ 9223372036854775807) (K : Nat) (hK : 500 < K) : spec_ChildrenOf.f K l x = some (kids_ l x) := by
  unfold spec_ChildrenOf.f kids_
  rw [obs, l19Ok_eq l x hl K (by omega), obs]
  by_cases h : isn_ l x = true
  · obtain ⟨t, g0, g1⟩ := isn_tree h
    obtain ⟨t0, t1⟩ := tree_len t
    have z0 := kidsAt_len l x 0 t1; have z1 := kidsAt_len l x 1 t1; have z2 := kidsAt_len l x 2 t1; have z3 := kidsAt_len l x 3 t1
    rw [if_pos h, if_pos h, skid0_eq l x 0 (by omega) (by omega) t0 t1 (K - (l.length + 1)) K (by omega) _ (by simp),
      show (0 : Int) + 1 = 1 by rfl, skid0_eq l x 1 (by omega) (by omega) t0 t1 (K - 2 * (l.length + 1)) _ (by omega) _ (by simp; omega),
      show (1 : Int) + 1 = 2 by rfl, skid0_eq l x 2 (by omega) (by omega) t0 t1 (K - 3 * (l.length + 1)) _ (by omega) _ (by simp; omega),
      show (2 : Int) + 1 = 3 by rfl, skid0_eq l x 3 (by omega) (by omega) t0 t1 (K - 4 * (l.length + 1)) _ (by omega) _ (by simp; omega)]
    obtain ⟨m, e⟩ : ∃ m, K - 4 * (l.length + 1) = m + 1 := ⟨K - 4 * (l.length + 1) - 1, by omega⟩
    rw [e]
    simp only [spec_ChildrenOf.l0]
    rw [if_neg (by omega)]
    simp
  · rw [if_neg h, if_neg h]
theorem within_eq (a b c : Int) : impl_within.f a b c = some (decide (b ≤ a ∧ a ≤ c)) := by
  unfold impl_within.f; by_cases h : a ≥ b <;> simp [h]
theorem il0_eq (l : List ND) (h1 : 1 ≤ l.length) (hl : l.length ≤ 12) :
    ∀ d K (j : Nat), j + 1 + d = l.length → 2 * d < K → impl_TreeOk.l0 K l (l.drop 1) ((l.drop 1).length : Int) (j : Int) = some (rows_ l d (j + 1)) := by
  intro d
  have hd1 : (l.drop 1).length = l.length - 1 := by simp
  induction d with
  | zero =>
    intro K j hd hK
    obtain ⟨K, rfl⟩ : ∃ m, K = m + 1 := ⟨K - 1, by omega⟩
    simp only [impl_TreeOk.l0]
    rw [if_neg (by omega)]; rfl
  | succ d ih =>
    intro K j hd hK
    obtain ⟨K, rfl⟩ : ∃ m, K = m + 2 := ⟨K - 2, by omega⟩
    have e1 : ((j : Int) + 1) = ((j + 1 : Nat) : Int) := by omega
    have hrd : rd_T50 (l.drop 1) (j : Int) = rd_T50 l ((j + 1 : Nat) : Int) := by
      rw [rd_inode _ _ (by omega), rd_inode _ _ (by omega)]
      simp [Nat.add_comm]
    have hrt : ∀ p : Int, 0 ≤ p → p < ((j + 1 : Nat) : Int) → rd_T50 (l.take (j + 1)) p = rd_T50 l p := by
      intro p hp0 hp1
      obtain ⟨q, rfl⟩ : ∃ q : Nat, p = (q : Int) := ⟨p.toNat, by omega⟩
      rw [rd_inode _ _ (by simp; omega), rd_inode _ _ (by omega)]
      simp
    have hx : ∀ b p d' f, impl_TreeOk.j2 (K + 1) l (l.take (j + 1)) (l.drop 1) ((l.drop 1).length : Int) (j : Int) b p d' f = if b = true then some false else some (if (l.take (j + 1)).any (sib_ p d') then false else rows_ l d (j + 1 + 1)) := fun b p d' f => by
      simp only [impl_TreeOk.j2, impl_Node_impl_TreeOk_1.f, Option.bind_some]
      rw [wr ((j : Int) + 1) (by omega) (by omega), e1, ih K (j + 1) (by omega) (by omega)]
      unfold sib_
      cases b <;> cases (l.take (j + 1)).any (fun x => decide (x.f0 = p) && decide (x.f1 = d')) <;> simp
    simp only [impl_TreeOk.l0]
    rw [if_pos (by omega), if_pos (by omega), if_pos (by omega), wr ((j : Int) + 1) (by omega) (by omega), if_pos (by omega), if_pos (by omega), e1]
    rw [hrd, Int.toNat_natCast]
    unfold rows_ row_
    generalize hn : rd_T50 l ((j + 1 : Nat) : Int) = n
    simp only [within_eq, Option.bind_some, hx]
    have ht : ((l.take (j + 1)).length : Int) = ((j + 1 : Nat) : Int) := by simp; omega
    by_cases c0 : 0 ≤ n.f0 ∧ n.f0 < ((j + 1 : Nat) : Int)
    · rw [if_pos (by simp; omega), if_pos c0.1, if_pos (by rw [ht]; omega), decide_eq_true c0, Bool.true_and, hrt _ c0.1 c0.2]
      by_cases c1 : (rd_T50 l n.f0).f2 = 0
      · rw [if_pos c1, decide_eq_true c1, Bool.true_and]
        by_cases c2 : 0 ≤ n.f1 ∧ n.f1 ≤ 3
        · rw [decide_eq_true c2, if_pos rfl, Bool.true_and]
          by_cases c3 : 0 ≤ n.f2 ∧ n.f2 ≤ 4
          · rw [decide_eq_true c3, if_neg (by simp), Bool.true_and]
            cases (l.take (j + 1)).any (sib_ n.f0 n.f1) <;> simp
          · rw [decide_eq_false c3]; simp
        · rw [decide_eq_false c2]; simp
      · rw [if_neg c1, decide_eq_false c1]; simp
    · rw [if_neg (by simp; omega), decide_eq_false c0]; simp
theorem itree_eq (l : List ND) (hl : l.length ≤ 9223372036854775807) (K : Nat) (hK : 200 < K) : impl_TreeOk.f K l = some (tree_ l) := by
  obtain ⟨K, rfl⟩ : ∃ m, K = m + 1 := ⟨K - 1, by omega⟩
  unfold impl_TreeOk.f tree_
  simp only [within_eq, Option.bind_some, impl_TreeOk.j0]
  by_cases c : 1 ≤ (l.length : Int) ∧ (l.length : Int) ≤ 12
  · rw [decide_eq_true c, if_pos rfl, if_pos (by omega), Bool.true_and, if_pos (show (1 : Int) ≤ (l.length : Int) from c.1)]
    have h := il0_eq l (by omega) (by omega) (l.length - 1) K 0 (by omega) (by omega)
    by_cases hr : root_ l = true
    · have hr2 := hr
      simp only [root_, Bool.and_eq_true, beq_iff_eq] at hr2
      rw [hr, Bool.true_and, if_neg (by simp [hr2])]
      exact h
    · rw [Bool.not_eq_true] at hr
      rw [hr, if_pos, Bool.false_and]
      unfold root_ at hr
      revert hr
      cases (rd_T50 l 0).f0 == -1 <;> cases (rd_T50 l 0).f1 == 0 <;> cases (rd_T50 l 0).f2 == 0 <;> simp
  · rw [decide_eq_false c, if_neg (by simp), Bool.false_and]; simp
theorem isNode_eq (l : List ND) (x : Int) (hl : l.length ≤ 9223372036854775807) (K : Nat) (hK : 200 < K) : impl_isNode.f K l x = some (isn_ l x) := by
  unfold impl_isNode.f isn_
  rw [itree_eq l hl K hK, obs]
  cases h : tree_ l
  · simp
  · have := tree_len h
    rw [if_pos rfl, within_eq, obs, wr ((l.length : Int) - 1) (by omega) (by omega), Bool.true_and]
    congr 1
    rw [Bool.eq_iff_iff, decide_eq_true_eq, decide_eq_true_eq]; omega
theorem ikid0_eq (l : List ND) (x : Int) (hl : l.length ≤ 12) : ∀ (d K i : Nat) (out : List Int), i + d = l.length → d < K → out.length + d ≤ 1000 → impl_ChildrenOf.l0 K x out l (l.length : Int) (i : Int) l = slices_SortFunc_int_int_impl_ChildrenOf_1.f (out ++ ixs_ l (fun n => decide (n.f0 = x)) d i) l := by
  intro d
  induction d with
  | zero =>
    intro K i out h hK ho
    obtain ⟨K, rfl⟩ : ∃ m, K = m + 1 := ⟨K - 1, by omega⟩
    simp only [impl_ChildrenOf.l0]
    rw [if_neg (by omega)]; simp [ixs_]
  | succ d ih =>
    intro K i out h hK ho
    obtain ⟨K, rfl⟩ : ∃ m, K = m + 1 := ⟨K - 1, by omega⟩
    simp only [impl_ChildrenOf.l0]
    rw [if_pos (by omega), if_pos (by omega), if_pos (by omega), ixs_succ, wr ((i : Int) + 1) (by omega) (by omega), show (i : Int) + 1 = ((i + 1 : Nat) : Int) by omega]
    by_cases a : (rd_T50 l (i : Int)).f0 = x
    · rw [if_pos a, if_pos (by omega), ih K (i + 1) _ (by omega) (by omega) (by simp; omega), if_pos (by simp [a])]
      simp
    · rw [if_neg a, ih K (i + 1) _ (by omega) (by omega) (by omega), if_neg (by simp [a])]
theorem any_take (l : List ND) (p : ND → Bool) (j i : Nat) (hi : i < j) (hj : j ≤ l.length) (h : (l.take j).any p = false) : p (rd_T50 l (i : Int)) = false := by
  rw [List.any_eq_false] at h
  have := h (rd_T50 l (i : Int)) (by rw [rd_inode l i (by omega)]; exact List.mem_take_iff_getElem.2 ⟨i, by omega, rfl⟩)
  simpa using this
theorem all_nodup (l : List ND) (h : tree_ l = true) (x : Int) (hx : 0 ≤ x) : ∀ d i, i + d = l.length → ((ixs_ l (fun n => decide (n.f0 = x)) d i).map (slices_SortFunc_int_int_impl_ChildrenOf_1.key l)).Nodup := by
  intro d
  induction d with
  | zero => intro i _; simp [ixs_]
  | succ d ih =>
    intro i hi
    rw [ixs_succ]
    split
    · rename_i hp
      rw [List.map_cons, List.nodup_cons]
      refine ⟨?_, ih (i + 1) (by omega)⟩
      intro hm
      obtain ⟨y, hy, e⟩ := List.mem_map.1 hm
      obtain ⟨y0, y1, y2⟩ := ixs_mem _ _ _ _ _ hy
      obtain ⟨j, rfl⟩ : ∃ j : Nat, y = (j : Int) := ⟨y.toNat, by omega⟩
      have hr := tree_row h j (by omega) (by omega)
      simp only [row_, Bool.and_eq_true, Bool.not_eq_true'] at hr
      have := any_take l _ j i (by omega) (by omega) hr.2.2.2.2
      simp only [sib_, slices_SortFunc_int_int_impl_ChildrenOf_1.key] at this e hp y2
      simp only [decide_eq_true_eq] at hp y2
      rw [y2, hp, e] at this
      simp at this
    · exact ih (i + 1) (by omega)
theorem ikids_eq (l : List ND) (x : Int) (hl : l.length ≤ 9223372036854775807) (K : Nat) (hK : 500 < K) : impl_ChildrenOf.f K l x = some (kids_ l x) := by
  unfold impl_ChildrenOf.f kids_
  rw [obs, isNode_eq l x hl K (by omega), obs]
  by_cases h : isn_ l x = true
  · obtain ⟨t, g0, g1⟩ := isn_tree h
    obtain ⟨t0, t1⟩ := tree_len t
    have hlen := ixs_len l (fun n => decide (n.f0 = x)) l.length 0
    have hw := ikid0_eq l x t1 l.length K 0 [] (by omega) (by omega) (by simp; omega)
    simp only [List.nil_append, Int.natCast_zero] at hw
    rw [if_pos h, if_pos h]
    refine Eq.trans hw ?_
    unfold slices_SortFunc_int_int_impl_ChildrenOf_1.f
    have hroot := tree_root t
    have hall : (ixs_ l (fun n => decide (n.f0 = x)) l.length 0).all (fun y => decide (0 ≤ y ∧ y < (l.length : Int) ∧ 0 ≤ slices_SortFunc_int_int_impl_ChildrenOf_1.key l y ∧ slices_SortFunc_int_int_impl_ChildrenOf_1.key l y ≤ 3)) = true := by
      rw [List.all_eq_true]
      intro y hy
      obtain ⟨y0, y1, y2⟩ := ixs_mem _ _ _ _ _ hy
      obtain ⟨j, rfl⟩ : ∃ j : Nat, y = (j : Int) := ⟨y.toNat, by omega⟩
      simp only [decide_eq_true_eq] at y2
      have hj : 0 < j := by
        rcases Nat.eq_zero_or_pos j with rfl | hj
        · rw [show ((0 : Nat) : Int) = 0 by rfl, hroot] at y2; omega
        · exact hj
      have hr := tree_row t j hj (by omega)
      simp only [row_, Bool.and_eq_true, decide_eq_true_eq] at hr
      simp only [slices_SortFunc_int_int_impl_ChildrenOf_1.key]
      exact decide_eq_true ⟨by omega, by omega, hr.2.2.1.1, hr.2.2.1.2⟩
    rw [if_pos (by
      rw [hall, decide_eq_true (all_nodup l t x g0 l.length 0 (by omega)), decide_eq_true (show (ixs_ l (fun n => decide (n.f0 = x)) l.length 0).length ≤ 12 by omega)]; rfl)]
    have hf : ∀ c : Int, (ixs_ l (fun n => decide (n.f0 = x)) l.length 0).filter (fun y => decide (slices_SortFunc_int_int_impl_ChildrenOf_1.key l y = c)) = kidsAt_ l x c := fun c => by
      have e := ixs_filter l (fun n => decide (n.f0 = x)) (fun n => decide (n.f1 = c)) l.length 0
      refine e.trans ?_
      obtain ⟨m, hm⟩ : ∃ m, l.length = m + 1 := ⟨l.length - 1, by omega⟩
      unfold kidsAt_
      rw [hm, ixs_succ, if_neg (by simp [hroot]; omega)]
      rfl
    rw [hf, hf, hf, hf]
  · rw [if_neg h, if_neg h]
theorem ixs_skip (l : List ND) (p : ND → Bool) : ∀ e d i, (∀ j : Nat, i ≤ j → j < i + e → p (rd_T50 l (j : Int)) = false) → ixs_ l p (e + d) i = ixs_ l p d (i + e) := by
  intro e
  induction e with
  | zero => intro d i _; rw [Nat.zero_add]; rfl
  | succ e ih =>
    intro d i h
    rw [show e + 1 + d = (e + d) + 1 by omega, ixs_succ, if_neg (by rw [h i (by omega) (by omega)]; simp), ih d (i + 1) (fun j h1 h2 => h j (by omega) (by omega))]
    rw [show i + 1 + e = i + (e + 1) by omega]
theorem kidsAt_skip (l : List ND) (h : tree_ l = true) (x c : Int) (h0 : 0 ≤ x) (h1 : x < (l.length : Int)) : kidsAt_ l x c = ixs_ l (kid_ x c) (l.length - 1 - x.toNat) (x.toNat + 1) := by
  unfold kidsAt_
  rw [show l.length - 1 = x.toNat + (l.length - 1 - x.toNat) by omega, ixs_skip l _ x.toNat _ 1 (fun j h2 h3 => by
    have := tree_parent h j (by omega) (by omega)
    unfold kid_
    rw [decide_eq_false (by omega)]; rfl)]
  rw [show x.toNat + (l.length - 1 - x.toNat) - x.toNat = l.length - 1 - x.toNat by omega, Nat.add_comm 1]
theorem kids_mem (l : List ND) (h : tree_ l = true) (x y : Int) (h0 : 0 ≤ x) (h1 : x < (l.length : Int)) (hy : y ∈ kids_ l x) : x < y ∧ y < (l.length : Int) := by
  have hk : ∀ c, y ∈ kidsAt_ l x c → x < y ∧ y < (l.length : Int) := fun c hc => by
    rw [kidsAt_skip l h x c h0 h1] at hc
    have := ixs_mem _ _ _ _ _ hc
    omega
  unfold kids_ at hy
  split at hy
  · rcases List.mem_append.1 hy with hy | hy
    · exact hk 0 hy
    · rcases List.mem_append.1 hy with hy | hy
      · exact hk 1 hy
      · rcases List.mem_append.1 hy with hy | hy
        · exact hk 2 hy
        · exact hk 3 hy
  · simp at hy
theorem one_le_pow (m : Nat) : (1 : Int) ≤ 2 ^ m := by
  have h : (0 : Int) < 2 ^ m := Int.pow_pos (by omega)
  omega
def bd_ (y : Int) : Int := 2 ^ (11 - y.toNat) * 4096
theorem bd_half (y : Int) (h0 : 0 ≤ y) (h1 : y < 11) : bd_ y = bd_ (y + 1) * 2 := by
  unfold bd_
  rw [show 11 - y.toNat = (11 - (y + 1).toNat) + 1 by omega, Int.pow_succ]
  rw [Int.mul_assoc, Int.mul_assoc]; rfl
theorem bd_pos (y : Int) : 4096 ≤ bd_ y := by
  unfold bd_
  have h1 : (1 : Int) ≤ 2 ^ (11 - y.toNat) := one_le_pow _
  omega
theorem bd_le (y : Int) : bd_ y ≤ 8388608 := by
  unfold bd_
  have h1 : (2 : Int) ^ (11 - y.toNat) ≤ 2 ^ 11 := by exact_mod_cast Nat.pow_le_pow_right (by omega) (by omega)
  have h2 : (2 : Int) ^ 11 = 2048 := by decide
  omega
theorem bsum_le (l : List ND) (x : Int) (hl : l.length ≤ 12) : ∀ d i, i + d = l.length → ((ixs_ l (kid_ x 0) d i).map bd_).sum + ((ixs_ l (kid_ x 1) d i).map bd_).sum + ((ixs_ l (kid_ x 2) d i).map bd_).sum + ((ixs_ l (kid_ x 3) d i).map bd_).sum ≤ (if i < 12 then 2 * bd_ (i : Int) - 4096 else 0) := by
  intro d
  induction d with
  | zero => intro i h; have := bd_pos (i : Int); simp [ixs_]; split <;> omega
  | succ d ih =>
    intro i h
    have h1 := ih (i + 1) (by omega)
    have hb : (if i + 1 < 12 then 2 * bd_ ((i + 1 : Nat) : Int) - 4096 else 0) ≤ bd_ (i : Int) - 4096 := by
      split
      · have := bd_half (i : Int) (by omega) (by omega); rw [show ((i + 1 : Nat) : Int) = (i : Int) + 1 by omega]; omega
      · have := bd_pos (i : Int); omega
    have hp := bd_pos (i : Int)
    rw [if_pos (by omega), ixs_succ, ixs_succ, ixs_succ, ixs_succ]
    simp only [kid_]
    by_cases a : (rd_T50 l (i : Int)).f0 = x
    · by_cases b0 : (rd_T50 l (i : Int)).f1 = 0
      · simp [a, b0]; omega
      · by_cases b1 : (rd_T50 l (i : Int)).f1 = 1
        · simp [a, b1]; omega
        · by_cases b2 : (rd_T50 l (i : Int)).f1 = 2
          · simp [a, b2]; omega
          · by_cases b3 : (rd_T50 l (i : Int)).f1 = 3
            · simp [a, b3]; omega
            · simp [a, b0, b1, b2, b3]; omega
    · simp [a]; omega
theorem kids_bd (l : List ND) (h : tree_ l = true) (x : Int) (h0 : 0 ≤ x) (h1 : x < (l.length : Int)) : ((kids_ l x).map bd_).sum ≤ bd_ x := by
  have t := (tree_len h).2
  have hi : isn_ l x = true := by simp [isn_, h]; omega
  have hs := bsum_le l x t (l.length - 1 - x.toNat) (x.toNat + 1) (by omega)
  unfold kids_
  rw [if_pos hi, kidsAt_skip l h x 0 h0 h1, kidsAt_skip l h x 1 h0 h1, kidsAt_skip l h x 2 h0 h1, kidsAt_skip l h x 3 h0 h1]
  simp only [List.map_append, List.sum_append]
  have hp := bd_pos x
  split at hs
  · have := bd_half x h0 (by omega)
    rw [show ((x.toNat + 1 : Nat) : Int) = x + 1 by omega] at hs
    omega
  · omega
theorem sum_le (f g : Int → Int) : ∀ ks : List Int, (∀ y ∈ ks, 0 ≤ f y ∧ f y ≤ g y) → 0 ≤ (ks.map f).sum ∧ (ks.map f).sum ≤ (ks.map g).sum := by
  intro ks
  induction ks with
  | nil => intro _; simp
  | cons a t ih =>
    intro h
    have := ih (fun y hy => h y (List.mem_cons_of_mem _ hy))
    have := h a (List.mem_cons_self)
    simp only [List.map_cons, List.sum_cons]; omega
theorem drop_sum (f : Int → Int) (ks : List Int) (i : Nat) (h : i < ks.length) : ((ks.drop i).map f).sum = f ks[i] + ((ks.drop (i + 1)).map f).sum := by
  rw [List.drop_eq_getElem_cons h, List.map_cons, List.sum_cons]
theorem drop_sum_nn (f : Int → Int) (ks : List Int) (h : ∀ y ∈ ks, 0 ≤ f y) (i : Nat) : 0 ≤ ((ks.drop i).map f).sum :=
  (sum_le f f (ks.drop i) (fun y hy => ⟨h y (List.mem_of_mem_drop hy), Int.le_refl _⟩)).1
theorem oc_eq (a : Int) : bits_OnesCount.f a = some (oc64 a) := rfl
theorem ipow_some (n : Int) : ∃ b, impl_IsPower.f n = some b := by
  unfold impl_IsPower.f
  rw [within_eq]
  simp only [Option.bind_some, oc_eq]
  split <;> exact ⟨_, rfl⟩
theorem ipow_eq (n : Nat) (h0 : 1 ≤ n) (h : n ≤ 32768) : impl_IsPower.f (n : Int) = some (pwF n) := by
  unfold impl_IsPower.f
  rw [within_eq, u64_of (by omega) (by omega)]
  simp only [Option.bind_some, oc_eq]
  rw [if_pos (by rw [decide_eq_true_iff]; omega), oc64_nat n (by omega), ← pop_pw n h0 h]
  congr 1
  rw [Bool.eq_iff_iff, beq_iff_eq, beq_iff_eq]
  omega
theorem shl_one (j : Nat) (h : j ≤ 20) : shl .i64 1 (j : Int) = ((2 ^ j : Nat) : Int) := by
  unfold shl
  rw [show min ((j : Int)).toNat IntKind.i64.bits = j by simp [IntKind.bits]; omega]
  have h2 : 2 ^ j ≤ 2 ^ 20 := Nat.pow_le_pow_right (by decide) h
  rw [Go.IntKind.wrap_i64]
  have h3 : (1 : Int) * 2 ^ j = ((2 ^ j : Nat) : Int) := by rw [Int.one_mul]; norm_cast
  rw [h3]
  have h4 : (2 : Nat) ^ 20 = 1048576 := by decide
  generalize 2 ^ j = p at *
  omega
theorem spow_l0 (n : Int) : ∀ d k (j : Nat), j + d = 21 → d < k → ∃ b, spec_IsPower.l0 k n (j : Int) = some b ∧ (b = true ↔ ∃ i : Nat, j ≤ i ∧ i ≤ 20 ∧ n = ((2 ^ i : Nat) : Int)) := by
  intro d
  induction d with
  | zero =>
    intro k j hj hk
    obtain ⟨k, rfl⟩ : ∃ m, k = m + 1 := ⟨k - 1, by omega⟩
    simp only [spec_IsPower.l0]
    rw [if_neg (by omega)]
    refine ⟨false, rfl, ⟨fun h => absurd h (by decide), ?_⟩⟩
    rintro ⟨i, h1, h2, _⟩
    omega
  | succ d ih =>
    intro k j hj hk
    obtain ⟨k, rfl⟩ : ∃ m, k = m + 1 := ⟨k - 1, by omega⟩
    simp only [spec_IsPower.l0]
    rw [if_pos (by omega), if_pos (by omega), shl_one j (by omega)]
    by_cases e : n = ((2 ^ j : Nat) : Int)
    · rw [if_pos e]
      exact ⟨true, rfl, ⟨fun _ => ⟨j, by omega, by omega, e⟩, fun _ => rfl⟩⟩
    · rw [if_neg e, wr _ (by omega) (by omega)]
      obtain ⟨b, hb, hi⟩ := ih k (j + 1) (by omega) (by omega)
      refine ⟨b, hb, hi.trans ⟨?_, ?_⟩⟩
      · rintro ⟨i, h1, h2, h3⟩
        exact ⟨i, by omega, h2, h3⟩
      · rintro ⟨i, h1, h2, h3⟩
        refine ⟨i, ?_, h2, h3⟩
        by_cases e2 : i = j
        · subst e2; exact absurd h3 e
        · omega
theorem spow_some (k : Nat) (hk : 21 < k) (n : Int) : ∃ b, spec_IsPower.f k n = some b := by
  obtain ⟨b, hb, _⟩ := spow_l0 n 21 k 0 (by omega) hk
  exact ⟨b, hb⟩
theorem spow_eq (k : Nat) (hk : 21 < k) (n : Nat) (h0 : 1 ≤ n) (h : n ≤ 1048576) : spec_IsPower.f k (n : Int) = some (pwF n) := by
  obtain ⟨b, hb, hi⟩ := spow_l0 (n : Int) 21 k 0 (by omega) hk
  have h2 : spec_IsPower.f k (n : Int) = spec_IsPower.l0 k (n : Int) ((0 : Nat) : Int) := rfl
  rw [h2, hb]
  congr 1
  rw [Bool.eq_iff_iff, hi, pwF_iff n h0 h]
  constructor
  · rintro ⟨i, _, h3, h4⟩
    exact ⟨i, h3, by exact_mod_cast h4⟩
  · rintro ⟨i, h3, h4⟩
    exact ⟨i, by omega, h3, by exact_mod_cast h4⟩
def szT (f n : Int) : Bool := decide (n = 0) || (!decide (f = 0) && (decide (16 ≤ n ∧ n ≤ 4096) && pwF n.toNat))
def szs_ (l : List ND) (s : List Int) : Nat → Nat → Bool
  | 0, _ => true
  | d + 1, k => szT (rd_T50 l (k : Int)).f2 (rd s (k : Int)) && szs_ l s d (k + 1)
theorem szs_succ (l : List ND) (s : List Int) (d k : Nat) : szs_ l s (d + 1) k = (szT (rd_T50 l (k : Int)).f2 (rd s (k : Int)) && szs_ l s d (k + 1)) := rfl
def sizesOk_ (l : List ND) (s : List Int) : Bool := tree_ l && (decide (s.length = l.length) && szs_ l s l.length 0)
theorem bridge_eq (l : List ND) (i : Nat) (h : i < l.length) : impl_isBridge.f l (i : Int) = some ((rd_T50 l (i : Int)).f2 == 0) := by
  unfold impl_isBridge.f
  rw [if_pos (by omega), if_pos (by omega)]
theorem ssz_step (k : Nat) (hk : 21 < k) (f n : Int) (X : Option Bool) : (if n = 0 then X else (if f = 0 then (some false) else ((spec_IsPower.f k n).bind fun t133 => (if t133 = true then ((spec_l01In.f n 16 4096).bind fun t135 => (if t135 = true then X else (some false))) else (some false))))) = if szT f n = true then X else some false := by
  unfold szT
  by_cases h0 : n = 0
  · simp [h0]
  · rw [if_neg h0]
    by_cases h1 : f = 0
    · simp [h0, h1]
    · rw [if_neg h1, l01In_eq]
      by_cases h2 : 16 ≤ n ∧ n ≤ 4096
      · obtain ⟨m, rfl⟩ := Int.eq_ofNat_of_zero_le (show 0 ≤ n by omega)
        rw [spow_eq k hk m (by omega) (by omega)]
        simp only [obs, decide_eq_true h2, decide_eq_false h0, decide_eq_false h1, if_true, Bool.false_or, Bool.not_false, Bool.true_and, Int.toNat_natCast]
      · obtain ⟨b, hb⟩ := spow_some k hk n
        rw [hb]
        simp only [obs, decide_eq_false h2, decide_eq_false h0, Bool.false_and, Bool.and_false, Bool.false_or, Bool.false_eq_true, if_false]
        split <;> rfl
theorem ssz_eq (l : List ND) (s : List Int) (hs : s.length = l.length) (hl : l.length ≤ 12) : ∀ d K k, k + d = l.length → d + 30 < K → spec_SizesOk.l0 K l s (k : Int) = some (szs_ l s d k) := by
  intro d
  induction d with
  | zero =>
    intro K k hk hK
    obtain ⟨K, rfl⟩ : ∃ m, K = m + 1 := ⟨K - 1, by omega⟩
    simp only [spec_SizesOk.l0]
    rw [if_neg (by omega)]; rfl
  | succ d ih =>
    intro K k hk hK
    obtain ⟨K, rfl⟩ : ∃ m, K = m + 1 := ⟨K - 1, by omega⟩
    simp only [spec_SizesOk.l0]
    rw [if_pos (by omega), if_pos (by omega), if_pos (by omega), wr ((k : Int) + 1) (by omega) (by omega), show (k : Int) + 1 = ((k + 1 : Nat) : Int) by omega, ih K (k + 1) (by omega) (by omega), ssz_step K (by omega)]
    rw [szs_succ]
    cases szT (rd_T50 l (k : Int)).f2 (rd s (k : Int)) <;> simp
theorem ssizes_eq (l : List ND) (s : List Int) (hl : l.length ≤ 9223372036854775807) (K : Nat) (hK : 200 < K) : spec_SizesOk.f K l s = some (sizesOk_ l s) := by
  obtain ⟨K, rfl⟩ : ∃ m, K = m + 1 := ⟨K - 1, by omega⟩
  unfold spec_SizesOk.f sizesOk_
  rw [stree_eq l hl _ hK, obs]
  simp only [spec_SizesOk.j0]
  cases h : tree_ l
  · simp
  · have := tree_len h
    rw [if_pos rfl]
    by_cases e : s.length = l.length
    · rw [if_neg (by simp [e])]
      have h2 := ssz_eq l s e (by omega) l.length K 0 (by omega) (by omega)
      simp only [decide_eq_true e, Bool.true_and]
      exact h2
    · rw [if_pos (by simp; omega)]; simp [e]
theorem isz_step (g : Bool) (f n : Int) (hg : g = (f == 0)) (X : Option Bool) : (if n = 0 then X else ((some g).bind fun t164 => (if t164 = true then (some false) else ((impl_IsPower.f n).bind fun t165 => (if t165 = true then ((impl_within.f n 16 4096).bind fun t166 => (if t166 = true then X else (some false))) else (some false)))))) = if szT f n = true then X else some false := by
  unfold szT
  by_cases h0 : n = 0
  · simp [h0]
  · rw [if_neg h0, obs, hg]
    by_cases h1 : f = 0
    · simp [h0, h1]
    · rw [if_neg (by simpa using h1), within_eq]
      by_cases h2 : 16 ≤ n ∧ n ≤ 4096
      · obtain ⟨m, rfl⟩ := Int.eq_ofNat_of_zero_le (show 0 ≤ n by omega)
        rw [ipow_eq m (by omega) (by omega)]
        simp only [obs, decide_eq_true h2, decide_eq_false h0, decide_eq_false h1, if_true, Bool.false_or, Bool.not_false, Bool.true_and, Int.toNat_natCast]
      · obtain ⟨b, hb⟩ := ipow_some n
        rw [hb]
        simp only [obs, decide_eq_false h2, decide_eq_false h0, Bool.false_and, Bool.and_false, Bool.false_or, Bool.false_eq_true, if_false]
        split <;> rfl
theorem isz_eq (l : List ND) (s : List Int) (hs : s.length = l.length) (hl : l.length ≤ 12) : ∀ d K k, k + d = l.length → d + 30 < K → impl_SizesOk.l0 K l s (s.length : Int) (k : Int) = some (szs_ l s d k) := by
  intro d
  induction d with
  | zero =>
    intro K k hk hK
    obtain ⟨K, rfl⟩ : ∃ m, K = m + 1 := ⟨K - 1, by omega⟩
    simp only [impl_SizesOk.l0]
    rw [if_neg (by omega)]; rfl
  | succ d ih =>
    intro K k hk hK
    obtain ⟨K, rfl⟩ : ∃ m, K = m + 1 := ⟨K - 1, by omega⟩
    simp only [impl_SizesOk.l0]
    rw [if_pos (by omega), if_pos (by omega), if_pos (by omega), wr ((k : Int) + 1) (by omega) (by omega), show (k : Int) + 1 = ((k + 1 : Nat) : Int) by omega, ih K (k + 1) (by omega) (by omega), bridge_eq l k (by omega), isz_step _ _ _ rfl]
    rw [szs_succ]
    cases szT (rd_T50 l (k : Int)).f2 (rd s (k : Int)) <;> simp
theorem isizes_eq (l : List ND) (s : List Int) (hl : l.length ≤ 9223372036854775807) (K : Nat) (hK : 200 < K) : impl_SizesOk.f K l s = some (sizesOk_ l s) := by
  obtain ⟨K, rfl⟩ : ∃ m, K = m + 1 := ⟨K - 1, by omega⟩
  unfold impl_SizesOk.f sizesOk_
  rw [itree_eq l hl _ hK, obs]
  simp only [impl_SizesOk.j0]
  cases h : tree_ l
  · simp
  · have := tree_len h
    rw [if_pos rfl]
    by_cases e : s.length = l.length
    · rw [if_neg (by simp [e])]
      have h2 := isz_eq l s e (by omega) l.length K 0 (by omega) (by omega)
      simp only [decide_eq_true e, Bool.true_and]
      exact h2
    · rw [if_pos (by simp; omega)]; simp [e]
theorem tree_f2 {l : List ND} (h : tree_ l = true) (j : Nat) (h1 : j < l.length) : 0 ≤ (rd_T50 l (j : Int)).f2 ∧ (rd_T50 l (j : Int)).f2 ≤ 4 := by
  by_cases hj : j = 0
  · subst hj
    simp only [tree_, root_, Bool.and_eq_true, decide_eq_true_eq, beq_iff_eq] at h
    have e : (((0 : Nat) : Int)) = 0 := rfl
    rw [e, h.2.1.2.2]; omega
  · have := tree_row h j (by omega) h1
    simp only [row_, Bool.and_eq_true, decide_eq_true_eq] at this
    exact this.2.2.2.1
def pgo_ : Nat → Int → Int → Int
  | 0, p, _ => p
  | j + 1, p, s => if p < s then pgo_ j (p * 2) s else p
def np_ (s : Int) : Int := if s = 0 then 0 else pgo_ 24 1 s
def win_ (l : List ND) (s : List Int) : Nat → Int → Int
  | 0, _ => 0
  | n + 1, k => if (rd_T50 l k).f2 > 0 then rd s k else np_ (((kids_ l k).map (win_ l s n)).sum)
theorem pgo_succ (j : Nat) (p s : Int) : pgo_ (j + 1) p s = if p < s then pgo_ j (p * 2) s else p := rfl
theorem win_succ (l : List ND) (s : List Int) (n : Nat) (k : Int) : win_ l s (n + 1) k = if (rd_T50 l k).f2 > 0 then rd s k else np_ (((kids_ l k).map (win_ l s n)).sum) := rfl
theorem pgo_le (s B : Int) (hs : s ≤ B) : ∀ (j m : Nat) (p : Int), 0 < p → p * 2 ^ m = B → pgo_ j p s ≤ B := by
  intro j
  induction j with
  | zero =>
    intro m p hp hB
    have h1 : (1 : Int) ≤ 2 ^ m := one_le_pow m
    have : p * 1 ≤ p * 2 ^ m := Int.mul_le_mul_of_nonneg_left h1 (by omega)
    unfold pgo_; omega
  | succ j ih =>
    intro m p hp hB
    rw [pgo_succ]
    split
    · rename_i h
      cases m with
      | zero => simp at hB; omega
      | succ m => exact ih m (p * 2) (by omega) (by rw [← hB, Int.pow_succ]; rw [Int.mul_assoc, Int.mul_comm 2 (2 ^ m)])
    · have h1 : (1 : Int) ≤ 2 ^ m := one_le_pow m
      have : p * 1 ≤ p * 2 ^ m := Int.mul_le_mul_of_nonneg_left h1 (by omega)
      omega
theorem pgo_pos (s : Int) : ∀ (j : Nat) (p : Int), 0 < p → 0 < pgo_ j p s ∧ p ≤ pgo_ j p s := by
  intro j
  induction j with
  | zero => intro p hp; unfold pgo_; omega
  | succ j ih =>
    intro p hp
    rw [pgo_succ]; split
    · have := ih (p * 2) (by omega); omega
    · omega
theorem spgo_eq (s : Int) (hs : s ≤ 8388608) : ∀ (j K : Nat) (p : Int), 0 < p → p ≤ 16777216 → 8388608 ≤ p * 2 ^ j → j < K → spec_l24Window.l1 K s p = some (mn (pgo_ (j + 1) p s) (wrap64 (s * pgo_ (j + 1) p s))) := by
  intro j
  induction j with
  | zero =>
    intro K p hp hp' h hK
    obtain ⟨K, rfl⟩ : ∃ m, K = m + 1 := ⟨K - 1, by omega⟩
    simp only [spec_l24Window.l1]
    rw [if_neg (by simp at h; omega), pgo_succ, if_neg (by simp at h; omega)]
  | succ j ih =>
    intro K p hp hp' h hK
    obtain ⟨K, rfl⟩ : ∃ m, K = m + 1 := ⟨K - 1, by omega⟩
    simp only [spec_l24Window.l1]
    rw [pgo_succ]
    by_cases e : p < s
    · rw [if_pos e, if_pos e, wr (p * 2) (by omega) (by omega)]
      exact ih K (p * 2) (by omega) (by omega) (by rw [Int.pow_succ, Int.mul_comm (2 ^ j) 2, ← Int.mul_assoc] at h; exact h) (by omega)
    · rw [if_neg e, if_neg e]
theorem ipgo_eq (s : Int) (hs : s ≤ 8388608) : ∀ (j K : Nat) (p : Int), 0 < p → p ≤ 16777216 → 8388608 ≤ p * 2 ^ j → j < K → impl_windowSize.l1 K s p = some (pgo_ (j + 1) p s) := by
  intro j
  induction j with
  | zero =>
    intro K p hp hp' h hK
    obtain ⟨K, rfl⟩ : ∃ m, K = m + 1 := ⟨K - 1, by omega⟩
    simp only [impl_windowSize.l1]
    rw [if_neg (by simp at h; omega), pgo_succ, if_neg (by simp at h; omega)]
  | succ j ih =>
    intro K p hp hp' h hK
    obtain ⟨K, rfl⟩ : ∃ m, K = m + 1 := ⟨K - 1, by omega⟩
    simp only [impl_windowSize.l1]
    rw [pgo_succ]
    by_cases e : p < s
    · rw [if_pos e, if_pos e, wr (p * 2) (by omega) (by omega)]
      exact ih K (p * 2) (by omega) (by omega) (by rw [Int.pow_succ, Int.mul_comm (2 ^ j) 2, ← Int.mul_assoc] at h; exact h) (by omega)
    · rw [if_neg e, if_neg e]
theorem snp_eq (s : Int) (h0 : 0 ≤ s) (hs : s ≤ 8388608) (K : Nat) (hK : 40 < K) : spec_l24Window.l1 K s 1 = some (np_ s) := by
  rw [spgo_eq s hs 23 K 1 (by omega) (by omega) (by decide) (by omega), show 23 + 1 = 24 from rfl]
  unfold np_
  have hp := pgo_pos s 24 1 (by omega)
  have hb := pgo_le s 8388608 hs 24 23 1 (by omega) (by decide)
  by_cases e : s = 0
  · rw [if_pos e, e, Int.zero_mul, wr 0 (by omega) (by omega)]
    rw [e] at hp
    unfold mn; rw [if_pos (by omega)]
  · rw [if_neg e]
    have h1 : 1 * pgo_ 24 1 s ≤ s * pgo_ 24 1 s := Int.mul_le_mul_of_nonneg_right (by omega) (by omega)
    have h2 : s * pgo_ 24 1 s ≤ 8388608 * pgo_ 24 1 s := Int.mul_le_mul_of_nonneg_right (by omega) (by omega)
    rw [wr _ (by omega) (by omega)]
    unfold mn; congr 1; split <;> omega
theorem inp_eq (s : Int) (h0 : 0 ≤ s) (hs : s ≤ 8388608) (K : Nat) (hK : 40 < K) : (if s = 0 then (some 0) else (impl_windowSize.l1 K s 1)) = some (np_ s) := by
  unfold np_
  by_cases e : s = 0
  · rw [if_pos e, if_pos e]
  · rw [if_neg e, if_neg e, ipgo_eq s hs 23 K 1 (by omega) (by omega) (by decide) (by omega)]
theorem szs_at (l : List ND) (s : List Int) : ∀ d k j, szs_ l s d k = true → k ≤ j → j < k + d → szT (rd_T50 l (j : Int)).f2 (rd s (j : Int)) = true := by
  intro d
  induction d with
  | zero => intro k j _ _ _; omega
  | succ d ih =>
    intro k j h h1 h2
    rw [szs_succ, Bool.and_eq_true] at h
    by_cases e : j = k
    · subst e; exact h.1
    · exact ih (k + 1) j h.2 (by omega) (by omega)
theorem sizes_at {l : List ND} {s : List Int} (h : sizesOk_ l s = true) (x : Int) (h0 : 0 ≤ x) (h1 : x < (l.length : Int)) : 0 ≤ rd s x ∧ rd s x ≤ 4096 := by
  simp only [sizesOk_, Bool.and_eq_true, decide_eq_true_eq] at h
  obtain ⟨j, rfl⟩ : ∃ j : Nat, x = (j : Int) := ⟨x.toNat, by omega⟩
  have := szs_at l s l.length 0 j h.2.2 (by omega) (by omega)
  simp only [szT, Bool.or_eq_true, Bool.and_eq_true, decide_eq_true_eq] at this
  omega
theorem sizes_tree {l : List ND} {s : List Int} (h : sizesOk_ l s = true) : tree_ l = true ∧ s.length = l.length := by
  simp only [sizesOk_, Bool.and_eq_true, decide_eq_true_eq] at h; exact ⟨h.1, h.2.1⟩
theorem win_bd {l : List ND} {s : List Int} (h : sizesOk_ l s = true) : ∀ (n : Nat) (x : Int), 0 ≤ x → x < (l.length : Int) → 0 ≤ win_ l s n x ∧ win_ l s n x ≤ bd_ x := by
  intro n
  induction n with
  | zero => intro x h0 h1; have := bd_pos x; unfold win_; omega
  | succ n ih =>
    intro x h0 h1
    have t := (sizes_tree h).1
    have hp := bd_pos x
    rw [win_succ]
    split
    · have := sizes_at h x h0 h1; omega
    · have hs := sum_le (win_ l s n) bd_ (kids_ l x) (fun y hy => by have := kids_mem l t x y h0 h1 hy; exact ih y (by omega) (by omega))
      have hk := kids_bd l t x h0 h1
      unfold np_
      split
      · omega
      · have h2 := (pgo_pos ((kids_ l x).map (win_ l s n)).sum 24 1 (by omega)).1
        have h3 := pgo_le ((kids_ l x).map (win_ l s n)).sum (bd_ x) (by omega) 24 (11 - x.toNat + 12) 1 (by omega) (by unfold bd_; rw [Int.pow_add, Int.one_mul]; rfl)
        omega
theorem swl_eq (l : List ND) (s : List Int) (ks : List Int) (f : Int → Int) (R : Nat) (hR : 100 < R) (hn : ks.length ≤ 48) (hf : ∀ y ∈ ks, 0 ≤ f y ∧ ∀ k, R ≤ k → spec_l24Window.f k l s y = some (f y)) : ∀ d K i (acc : Int), i + d = ks.length → d + R < K → 0 ≤ acc → acc + ((ks.drop i).map f).sum ≤ 8388608 → spec_l24Window.l0 K l s ks acc (i : Int) = some (np_ (acc + ((ks.drop i).map f).sum)) := by
  intro d
  induction d with
  | zero =>
    intro K i acc hi hK ha hb
    obtain ⟨K, rfl⟩ : ∃ m, K = m + 1 := ⟨K - 1, by omega⟩
    simp only [spec_l24Window.l0]
    rw [List.drop_of_length_le (by omega)] at hb ⊢
    simp only [List.map_nil, List.sum_nil, Int.add_zero] at hb ⊢
    rw [if_neg (by omega), snp_eq acc ha hb K (by omega)]
  | succ d ih =>
    intro K i acc hi hK ha hb
    obtain ⟨K, rfl⟩ : ∃ m, K = m + 1 := ⟨K - 1, by omega⟩
    have hm := hf ks[i] (List.getElem_mem (by omega))
    have hs := drop_sum f ks i (by omega)
    have hnn := drop_sum_nn f ks (fun y hy => (hf y hy).1) (i + 1)
    simp only [spec_l24Window.l0]
    rw [if_pos (by omega), if_pos (by omega), rd_nat ks i (by omega), hm.2 K (by omega), obs, wr (acc + f ks[i]) (by omega) (by omega), wr ((i : Int) + 1) (by omega) (by omega), show (i : Int) + 1 = ((i + 1 : Nat) : Int) by omega,
      ih K (i + 1) _ (by omega) (by omega) (by omega) (by omega), hs, Int.add_assoc]
theorem iwl_eq (l : List ND) (s : List Int) (x0 : Int) (ks : List Int) (f : Int → Int) (R : Nat) (hR : 100 < R) (hn : ks.length ≤ 48) (hf : ∀ y ∈ ks, 0 ≤ f y ∧ ∀ k, R ≤ k → impl_windowSize.f k l s y = some (f y)) : ∀ d K i (acc : Int), i + d = ks.length → d + R < K → 0 ≤ acc → acc + ((ks.drop i).map f).sum ≤ 8388608 → impl_windowSize.l0 K l s acc ks (ks.length : Int) (i : Int) = some (np_ (acc + ((ks.drop i).map f).sum)) := by
  intro d
  induction d with
  | zero =>
    intro K i acc hi hK ha hb
    obtain ⟨K, rfl⟩ : ∃ m, K = m + 1 := ⟨K - 1, by omega⟩
    simp only [impl_windowSize.l0]
    rw [List.drop_of_length_le (by omega)] at hb ⊢
    simp only [List.map_nil, List.sum_nil, Int.add_zero] at hb ⊢
    rw [if_neg (by omega), inp_eq acc ha hb K (by omega)]
  | succ d ih =>
    intro K i acc hi hK ha hb
    obtain ⟨K, rfl⟩ : ∃ m, K = m + 1 := ⟨K - 1, by omega⟩
    have hm := hf ks[i] (List.getElem_mem (by omega))
    have hs := drop_sum f ks i (by omega)
    have hnn := drop_sum_nn f ks (fun y hy => (hf y hy).1) (i + 1)
    simp only [impl_windowSize.l0]
    rw [if_pos (by omega), if_pos (by omega), if_pos (by omega), rd_nat ks i (by omega), hm.2 K (by omega), obs, wr (acc + f ks[i]) (by omega) (by omega), wr ((i : Int) + 1) (by omega) (by omega), show (i : Int) + 1 = ((i + 1 : Nat) : Int) by omega,
      ih K (i + 1) _ (by omega) (by omega) (by omega) (by omega), hs, Int.add_assoc]
theorem swin_eq {l : List ND} {s : List Int} (h : sizesOk_ l s = true) : ∀ (n : Nat) (x : Int) (K : Nat), 0 ≤ x → x < (l.length : Int) → (l.length : Int) - x ≤ (n : Int) → 700 + 100 * n < K → spec_l24Window.f K l s x = some (win_ l s n x) := by
  intro n
  induction n with
  | zero => intro x K h0 h1 h2 hK; omega
  | succ n ih =>
    intro x K h0 h1 h2 hK
    obtain ⟨K, rfl⟩ : ∃ m, K = m + 1 := ⟨K - 1, by omega⟩
    obtain ⟨t, hsl⟩ := sizes_tree h
    have tl := tree_len t
    have hb := bd_le x
    rw [win_succ]
    simp only [spec_l24Window.f]
    rw [if_pos h0, if_pos h1]
    split
    · rw [if_pos (by omega)]
    · rw [skids_eq l x (by omega) K (by omega), obs]
      have hs := sum_le (win_ l s n) bd_ (kids_ l x) (fun y hy => by have := kids_mem l t x y h0 h1 hy; exact win_bd h n y (by omega) (by omega))
      have hk := kids_bd l t x h0 h1
      have hl := kids_len l x
      have e := swl_eq l s (kids_ l x) (win_ l s n) (701 + 100 * n) (by omega) hl (fun y hy => by
        have := kids_mem l t x y h0 h1 hy
        exact ⟨(win_bd h n y (by omega) (by omega)).1, fun k hk => ih y k (by omega) (by omega) (by omega) (by omega)⟩) (kids_ l x).length K 0 0 (by omega) (by omega) (by omega) (by rw [List.drop_zero]; omega)
      rw [List.drop_zero, Int.zero_add] at e
      exact e
theorem iwin_eq {l : List ND} {s : List Int} (h : sizesOk_ l s = true) : ∀ (n : Nat) (x : Int) (K : Nat), 0 ≤ x → x < (l.length : Int) → (l.length : Int) - x ≤ (n : Int) → 700 + 100 * n < K → impl_windowSize.f K l s x = some (win_ l s n x) := by
  intro n
  induction n with
  | zero => intro x K h0 h1 h2 hK; omega
  | succ n ih =>
    intro x K h0 h1 h2 hK
    obtain ⟨K, rfl⟩ : ∃ m, K = m + 1 := ⟨K - 1, by omega⟩
    obtain ⟨t, hsl⟩ := sizes_tree h
    have tl := tree_len t
    have hb := bd_le x
    obtain ⟨j, rfl⟩ : ∃ j : Nat, x = (j : Int) := ⟨x.toNat, by omega⟩
    have f2 := tree_f2 t j (by omega)
    rw [win_succ]
    simp only [impl_windowSize.f]
    rw [bridge_eq l j (by omega), obs]
    by_cases g : (rd_T50 l (j : Int)).f2 > 0
    · rw [if_neg (by simp; omega), if_pos h0, if_pos (by omega), if_pos g]
    · rw [if_pos (by simp; omega), if_neg g, ikids_eq l _ (by omega) K (by omega), obs]
      have hs := sum_le (win_ l s n) bd_ (kids_ l (j : Int)) (fun y hy => by have := kids_mem l t _ y h0 h1 hy; exact win_bd h n y (by omega) (by omega))
      have hk := kids_bd l t _ h0 h1
      have hl := kids_len l (j : Int)
      have e := iwl_eq l s 0 (kids_ l (j : Int)) (win_ l s n) (701 + 100 * n) (by omega) hl (fun y hy => by
        have := kids_mem l t _ y h0 h1 hy
        exact ⟨(win_bd h n y (by omega) (by omega)).1, fun k hk => ih y k (by omega) (by omega) (by omega) (by omega)⟩) (kids_ l (j : Int)).length K 0 0 (by omega) (by omega) (by omega) (by rw [List.drop_zero]; omega)
      rw [List.drop_zero, Int.zero_add] at e
      exact e
def window_ (l : List ND) (s : List Int) (x : Int) : Int := if sizesOk_ l s = true then (if 0 ≤ x ∧ x ≤ (l.length : Int) - 1 then win_ l s 12 x else -1) else -1
theorem isn_of {l : List ND} {x : Int} (h : tree_ l = true) (h0 : 0 ≤ x) (h1 : x < (l.length : Int)) : isn_ l x = true := by
  unfold isn_; rw [h, Bool.true_and, decide_eq_true_eq]; exact ⟨h0, h1⟩
theorem ixs_of (l : List ND) (p : ND → Bool) : ∀ (d i j : Nat), i ≤ j → j < i + d → p (rd_T50 l (j : Int)) = true → (j : Int) ∈ ixs_ l p d i := by
  intro d
  induction d with
  | zero => intro i j _ _ _; omega
  | succ d ih =>
    intro i j h1 h2 h3
    rw [ixs_succ]
    by_cases e : j = i
    · subst e; rw [if_pos h3]; exact List.mem_cons_self
    · have := ih (i + 1) j (by omega) (by omega) h3
      split
      · exact List.mem_cons_of_mem _ this
      · exact this
theorem kids_of (l : List ND) (h : tree_ l = true) (j : Nat) (h0 : 0 < j) (h1 : j < l.length) : (j : Int) ∈ kids_ l (rd_T50 l (j : Int)).f0 := by
  have hp := tree_parent h j h0 h1
  have hr := tree_row h j h0 h1
  simp only [row_, Bool.and_eq_true, decide_eq_true_eq] at hr
  have hd := hr.2.2.1
  unfold kids_
  rw [if_pos (isn_of h hp.1 (by omega))]
  have hk : ∀ c : Int, (rd_T50 l (j : Int)).f1 = c → (j : Int) ∈ kidsAt_ l (rd_T50 l (j : Int)).f0 c := fun c hc => ixs_of l _ (l.length - 1) 1 j (by omega) (by omega) (by unfold kid_; rw [hc]; simp)
  by_cases c0 : (rd_T50 l (j : Int)).f1 = 0
  · exact List.mem_append.2 (.inl (hk 0 c0))
  · by_cases c1 : (rd_T50 l (j : Int)).f1 = 1
    · exact List.mem_append.2 (.inr (List.mem_append.2 (.inl (hk 1 c1))))
    · by_cases c2 : (rd_T50 l (j : Int)).f1 = 2
      · exact List.mem_append.2 (.inr (List.mem_append.2 (.inr (List.mem_append.2 (.inl (hk 2 c2))))))
      · exact List.mem_append.2 (.inr (List.mem_append.2 (.inr (List.mem_append.2 (.inr (hk 3 (by omega)))))))
def mkO (n : Nat) (z : List Int) (b : Int → Int) : List S73 := (List.range n).map (fun i : Nat => ⟨rd z (i : Int), b (i : Int)⟩)
def updI (b : Int → Int) (i v : Int) : Int → Int := fun j => if j = i then v else b j
theorem mkO_len (n : Nat) (z : List Int) (b : Int → Int) : (mkO n z b).length = n := by simp [mkO]
theorem mkO_rd (n : Nat) (z : List Int) (b : Int → Int) (i : Nat) (h : i < n) : rd_T73 (mkO n z b) (i : Int) = ⟨rd z (i : Int), b (i : Int)⟩ := by
  have e : rd_T73 (mkO n z b) (i : Int) = (mkO n z b)[i]'(by rw [mkO_len]; exact h) := getD_nat _ _ _ _
  rw [e]; simp [mkO]
theorem mkO_set (n : Nat) (z : List Int) (b : Int → Int) (i : Nat) (v : Int) : (mkO n z b).set i ⟨rd z (i : Int), v⟩ = mkO n z (updI b i v) := by
  apply List.ext_getElem
  · simp [mkO]
  · intro j h1 h2
    simp only [mkO, List.getElem_set, List.getElem_map, List.getElem_range, updI]
    by_cases e : i = j
    · subst e; simp
    · rw [if_neg e, if_neg (by omega)]
theorem mkO_ext (n : Nat) (z : List Int) (b b' : Int → Int) (h : ∀ j : Nat, j < n → b (j : Int) = b' (j : Int)) : mkO n z b = mkO n z b' := by
  apply List.ext_getElem
  · simp [mkO]
  · intro j h1 h2
    simp only [mkO, List.getElem_map, List.getElem_range]
    rw [h j (by simpa [mkO] using h1)]
def pw2 : List Int := [65536, 32768, 16384, 8192, 4096, 2048, 1024, 512, 256, 128, 64, 32, 16, 8, 4, 2, 1]
def ch_ (l : List ND) (k : Int) : List Int := ixs_ l (fun n => decide (n.f0 = k)) (l.length - 1) 1
def ord_ (l : List ND) (z : List Int) (k : Int) : List Int := pw2.flatMap (fun p => (ch_ l k).filter (fun y => decide (rd z y = p)))
def pre_ (z : List Int) : List Int → Int → Int
  | [], _ => 0
  | y :: ys, c => if y = c then 0 else rd z y + pre_ z ys c
def sm_ (z : List Int) : List Int → Int
  | [] => 0
  | y :: ys => rd z y + sm_ z ys
def lay_ (z : List Int) : List Int → (Int → Int) → Int → (Int → Int)
  | [], b, _ => b
  | c :: cs, b, a => lay_ z cs (updI b c a) (a + rd z c)
def G_ (l : List ND) (z : List Int) : Nat → Int → Int
  | 0, _ => 0
  | n + 1, c => if c ≤ 0 then 0 else if rd z c = 0 then 0 else G_ l z n (rd_T50 l c).f0 + pre_ z (ord_ l z (rd_T50 l c).f0) c
theorem G_succ (l : List ND) (z : List Int) (n : Nat) (c : Int) : G_ l z (n + 1) c = if c ≤ 0 then 0 else if rd z c = 0 then 0 else G_ l z n (rd_T50 l c).f0 + pre_ z (ord_ l z (rd_T50 l c).f0) c := rfl
theorem lay_not (z : List Int) (c : Int) : ∀ (L : List Int) (b : Int → Int) (a : Int), c ∉ L → lay_ z L b a c = b c := by
  intro L
  induction L with
  | nil => intro b a _; rfl
  | cons y ys ih =>
    intro b a h
    rw [List.mem_cons, not_or] at h
    rw [lay_, ih _ _ h.2, updI, if_neg h.1]
theorem lay_in (z : List Int) (c : Int) : ∀ (L : List Int) (b : Int → Int) (a : Int), L.Nodup → c ∈ L → lay_ z L b a c = a + pre_ z L c := by
  intro L
  induction L with
  | nil => intro b a _ h; simp at h
  | cons y ys ih =>
    intro b a hn h
    rw [List.nodup_cons] at hn
    rw [lay_, pre_]
    by_cases e : y = c
    · subst e
      rw [lay_not z y ys _ _ hn.1, if_pos rfl, updI, if_pos rfl]; omega
    · rw [if_neg e]
      have hm : c ∈ ys := by rcases List.mem_cons.1 h with h | h; exact absurd h.symm e; exact h
      rw [ih _ _ hn.2 hm]; omega
theorem lay_app (z : List Int) (M : List Int) : ∀ (L : List Int) (b : Int → Int) (a : Int), lay_ z (L ++ M) b a = lay_ z M (lay_ z L b a) (a + sm_ z L) := by
  intro L
  induction L with
  | nil => intro b a; simp [lay_, sm_]
  | cons y ys ih => intro b a; rw [List.cons_append, lay_, ih, lay_, sm_, Int.add_assoc]
theorem sm_app (z : List Int) (M : List Int) : ∀ L : List Int, sm_ z (L ++ M) = sm_ z L + sm_ z M := by
  intro L
  induction L with
  | nil => simp [sm_]
  | cons y ys ih => rw [List.cons_append, sm_, ih, sm_, Int.add_assoc]
theorem pre_app (z : List Int) (M : List Int) (c : Int) : ∀ L : List Int, c ∉ L → pre_ z (L ++ c :: M) c = sm_ z L := by
  intro L
  induction L with
  | nil => intro _; simp [pre_, sm_]
  | cons y ys ih =>
    intro h
    rw [List.mem_cons, not_or] at h
    rw [List.cons_append, pre_, sm_, if_neg (fun e => h.1 e.symm), ih h.2]
theorem sm_le (z : List Int) (B : Int) (L : List Int) (h : ∀ y ∈ L, 0 ≤ rd z y ∧ rd z y ≤ B) : 0 ≤ sm_ z L ∧ sm_ z L ≤ B * (L.length : Int) := by
  induction L with
  | nil => simp [sm_]
  | cons y ys ih =>
    have h1 := ih (fun w hw => h w (List.mem_cons_of_mem _ hw))
    have h2 := h y List.mem_cons_self
    rw [sm_, List.length_cons, Int.natCast_add, Int.mul_add]
    omega
theorem pre_le (z : List Int) (c : Int) (L : List Int) (h : ∀ y ∈ L, 0 ≤ rd z y) (hc : c ∈ L) : 0 ≤ pre_ z L c ∧ pre_ z L c + rd z c ≤ sm_ z L := by
  induction L with
  | nil => simp at hc
  | cons y ys ih =>
    have h2 := h y List.mem_cons_self
    rw [pre_, sm_]
    by_cases e : y = c
    · subst e
      have : 0 ≤ sm_ z ys := by
        clear ih hc
        induction ys with
        | nil => simp [sm_]
        | cons w ws ih2 =>
          have h3 := h w (List.mem_cons_of_mem _ List.mem_cons_self)
          have := ih2 (fun x hx => h x (by simp only [List.mem_cons] at hx ⊢; rcases hx with hx | hx; exact .inl hx; exact .inr (.inr hx)))
          rw [sm_]; omega
      rw [if_pos rfl]; omega
    · rw [if_neg e]
      have hm : c ∈ ys := by rcases List.mem_cons.1 hc with hc | hc; exact absurd hc.symm e; exact hc
      have := ih (fun w hw => h w (List.mem_cons_of_mem _ hw)) hm
      omega
def bf_ (z : List Int) (x y : Int) : Prop := rd z y < rd z x ∨ (rd z x = rd z y ∧ x < y)
theorem strict_ext (z : List Int) : ∀ (a b : List Int), a.Pairwise (bf_ z) → b.Pairwise (bf_ z) → (∀ x, x ∈ a ↔ x ∈ b) → a = b := by
  intro a
  induction a with
  | nil =>
    intro b _ _ h
    cases b with
    | nil => rfl
    | cons y b => have := (h y).2 List.mem_cons_self; simp at this
  | cons x a ih =>
    intro b ha hb h
    cases b with
    | nil => have := (h x).1 List.mem_cons_self; simp at this
    | cons y b =>
      rw [List.pairwise_cons] at ha hb
      have e : x = y := by
        rcases List.mem_cons.1 ((h x).1 List.mem_cons_self) with e | h1
        · exact e
        · rcases List.mem_cons.1 ((h y).2 List.mem_cons_self) with e | h2
          · exact e.symm
          · have h3 := hb.1 x h1; have h4 := ha.1 y h2
            unfold bf_ at h3 h4; omega
      subst e
      congr 1
      refine ih b ha.2 hb.2 (fun w => ?_)
      have nx : ∀ c : List Int, (∀ a' ∈ c, bf_ z x a') → x ∉ c := fun c hc hm => by have := hc x hm; unfold bf_ at this; omega
      have := h w
      rw [List.mem_cons, List.mem_cons] at this
      constructor
      · intro hw
        rcases this.1 (.inr hw) with e | h1
        · subst e; exact absurd hw (nx a ha.1)
        · exact h1
      · intro hw
        rcases this.2 (.inr hw) with e | h1
        · subst e; exact absurd hw (nx b hb.1)
        · exact h1
theorem ixs_pw (l : List ND) (p : ND → Bool) : ∀ d i, (ixs_ l p d i).Pairwise (fun x y => x < y) := by
  intro d
  induction d with
  | zero => intro i; simp [ixs_]
  | succ d ih =>
    intro i
    rw [ixs_succ]
    split
    · rw [List.pairwise_cons]
      exact ⟨fun y hy => by have := ixs_mem _ _ _ _ _ hy; omega, ih _⟩
    · exact ih _
theorem ch_mem (l : List ND) (k c : Int) (h : c ∈ ch_ l k) : ∃ j : Nat, c = (j : Int) ∧ 0 < j ∧ j < l.length ∧ (rd_T50 l (j : Int)).f0 = k := by
  obtain ⟨h1, h2, h3⟩ := ixs_mem _ _ _ _ _ h
  obtain ⟨j, rfl⟩ : ∃ j : Nat, c = (j : Int) := ⟨c.toNat, by omega⟩
  exact ⟨j, rfl, by omega, by omega, by simpa using h3⟩
theorem ch_of (l : List ND) (k : Int) (j : Nat) (h0 : 0 < j) (h1 : j < l.length) (h : (rd_T50 l (j : Int)).f0 = k) : (j : Int) ∈ ch_ l k :=
  ixs_of l _ (l.length - 1) 1 j (by omega) (by omega) (by simpa using h)
theorem ord_mem (l : List ND) (z : List Int) (k c : Int) : c ∈ ord_ l z k ↔ c ∈ ch_ l k ∧ rd z c ∈ pw2 := by
  unfold ord_
  rw [List.mem_flatMap]
  constructor
  · rintro ⟨p, hp, hc⟩
    rw [List.mem_filter, decide_eq_true_eq] at hc
    exact ⟨hc.1, by rw [hc.2]; exact hp⟩
  · rintro ⟨h1, h2⟩
    exact ⟨_, h2, by rw [List.mem_filter, decide_eq_true_eq]; exact ⟨h1, rfl⟩⟩
theorem ord_pw (l : List ND) (z : List Int) (k : Int) : (ord_ l z k).Pairwise (bf_ z) := by
  unfold ord_
  rw [List.pairwise_flatMap]
  constructor
  · intro p _
    have h := (ixs_pw l (fun n => decide (n.f0 = k)) (l.length - 1) 1).filter (fun y => decide (rd z y = p))
    refine h.imp_of_mem ?_
    intro x y hx hy hlt
    rw [List.mem_filter, decide_eq_true_eq] at hx hy
    exact .inr ⟨by rw [hx.2, hy.2], hlt⟩
  · have h : pw2.Pairwise (fun a b => b < a) := by decide
    refine h.imp ?_
    intro p q hpq x hx y hy
    rw [List.mem_filter, decide_eq_true_eq] at hx hy
    exact .inl (by rw [hx.2, hy.2]; exact hpq)
theorem bf_nodup (z : List Int) (L : List Int) (h : L.Pairwise (bf_ z)) : L.Nodup :=
  h.imp (fun {x y} hxy e => by subst e; unfold bf_ at hxy; omega)
theorem pw2_bd (v : Int) (h : v ∈ pw2) : 1 ≤ v ∧ v ≤ 65536 := by
  unfold pw2 at h; simp only [List.mem_cons, List.not_mem_nil, or_false] at h; omega
def Zok (l : List ND) (z : List Int) : Prop := tree_ l = true ∧ (∀ j : Int, rd z j = 0 ∨ rd z j ∈ pw2) ∧ ∀ j : Nat, 0 < j → j < l.length → rd z (rd_T50 l (j : Int)).f0 = 0 → rd z (j : Int) = 0
theorem zok_bd {l : List ND} {z : List Int} (h : Zok l z) (j : Int) : 0 ≤ rd z j ∧ rd z j ≤ 65536 := by
  rcases h.2.1 j with e | e
  · omega
  · have := pw2_bd _ e; omega
theorem ord_len {l : List ND} {z : List Int} (h : Zok l z) (k : Int) : (ord_ l z k).length ≤ 11 := by
  have h1 : ∀ ps : List Int, ps.Pairwise (fun a b => b < a) → (ps.flatMap (fun p => (ch_ l k).filter (fun y => decide (rd z y = p)))).length ≤ ((ch_ l k).filter (fun y => ps.contains (rd z y))).length := by
    intro ps
    induction ps with
    | nil => intro _; simp
    | cons p ps ih =>
      intro hp
      rw [List.pairwise_cons] at hp
      have h2 := ih hp.2
      rw [List.flatMap_cons, List.length_append]
      have h3 : ∀ C : List Int, (C.filter (fun y => decide (rd z y = p))).length + (C.filter (fun y => ps.contains (rd z y))).length ≤ (C.filter (fun y => (p :: ps).contains (rd z y))).length := by
        intro C
        induction C with
        | nil => simp
        | cons c C ihC =>
          rw [List.filter_cons, List.filter_cons, List.filter_cons]
          by_cases e : rd z c = p
          · have hn : ps.contains (rd z c) = false := by
              rw [e]
              cases hh : ps.contains p with
              | false => rfl
              | true => have := hp.1 p (by simpa using hh); omega
            rw [if_pos (by simp [e]), hn, if_neg (by simp), if_pos (by simp [e])]
            simp only [List.length_cons]; omega
          · by_cases e2 : ps.contains (rd z c) = true
            · rw [if_neg (by simp [e]), if_pos e2, if_pos (by simp at e2; simp [e2])]
              simp only [List.length_cons]; omega
            · rw [if_neg (by simp [e]), if_neg e2, if_neg (by simp at e2; simp [e2, e])]
              exact ihC
      have := h3 (ch_ l k); omega
  have h2 := h1 pw2 (by decide)
  have h3 := List.length_filter_le (fun y => pw2.contains (rd z y)) (ch_ l k)
  have h4 := ixs_len l (fun n => decide (n.f0 = k)) (l.length - 1) 1
  have h5 := tree_len h.1
  unfold ord_
  unfold ch_ at h2 h3 ⊢
  omega
theorem ord_sm {l : List ND} {z : List Int} (h : Zok l z) (k : Int) : 0 ≤ sm_ z (ord_ l z k) ∧ sm_ z (ord_ l z k) ≤ 720896 := by
  have h1 := sm_le z 65536 (ord_ l z k) (fun y _ => zok_bd h y)
  have h2 := ord_len h k
  omega
theorem G_eq {l : List ND} {z : List Int} (h : Zok l z) : ∀ (j : Nat) (n m : Nat), j < l.length → j < n → j < m → G_ l z n (j : Int) = G_ l z m (j : Int) := by
  intro j
  induction j using Nat.strongRecOn with
  | _ j ih =>
    intro n m h0 h1 h2
    obtain ⟨n, rfl⟩ : ∃ x, n = x + 1 := ⟨n - 1, by omega⟩
    obtain ⟨m, rfl⟩ : ∃ x, m = x + 1 := ⟨m - 1, by omega⟩
    rw [G_succ, G_succ]
    by_cases e : (j : Int) ≤ 0
    · rw [if_pos e, if_pos e]
    · have hp := tree_parent h.1 j (by omega) h0
      obtain ⟨p, hpe⟩ : ∃ p : Nat, (rd_T50 l (j : Int)).f0 = (p : Int) := ⟨_, (Int.toNat_of_nonneg hp.1).symm⟩
      rw [hpe] at hp
      rw [if_neg e, if_neg e, hpe, ih p (by omega) n m (by omega) (by omega) (by omega)]
theorem G_at {l : List ND} {z : List Int} (h : Zok l z) (j : Nat) (h0 : 0 < j) (h1 : j < l.length) (hz : rd z (j : Int) ≠ 0) : G_ l z 12 (j : Int) = G_ l z 12 (rd_T50 l (j : Int)).f0 + pre_ z (ord_ l z (rd_T50 l (j : Int)).f0) (j : Int) := by
  have t := tree_len h.1
  have hp := tree_parent h.1 j h0 h1
  obtain ⟨p, hpe⟩ : ∃ p : Nat, (rd_T50 l (j : Int)).f0 = (p : Int) := ⟨_, (Int.toNat_of_nonneg hp.1).symm⟩
  rw [hpe] at hp
  rw [G_succ, if_neg (by omega), if_neg hz, hpe, G_eq h p 11 12 (by omega) (by omega) (by omega)]
theorem G_zero {l : List ND} {z : List Int} (j : Int) (hz : rd z j = 0) : G_ l z 12 j = 0 := by
  rw [G_succ, hz]; split
  · rfl
  · rw [if_pos rfl]
theorem G_root {l : List ND} {z : List Int} : G_ l z 12 0 = 0 := by rw [G_succ, if_pos (by omega)]
theorem G_bd {l : List ND} {z : List Int} (h : Zok l z) : ∀ (n : Nat) (j : Nat), j < l.length → 0 ≤ G_ l z n (j : Int) ∧ G_ l z n (j : Int) ≤ 720896 * (n : Int) := by
  intro n
  induction n with
  | zero => intro j _; simp [G_]
  | succ n ih =>
    intro j hj
    rw [G_succ]
    split
    · omega
    · split
      · omega
      · rename_i h1 h2
        have hp := tree_parent h.1 j (by omega) hj
        have hs := ord_sm h (rd_T50 l (j : Int)).f0
        have hm : (j : Int) ∈ ord_ l z (rd_T50 l (j : Int)).f0 := (ord_mem _ _ _ _).2 ⟨ch_of l _ j (by omega) hj rfl, by rcases h.2.1 (j : Int) with e | e; exact absurd e h2; exact e⟩
        have hq := pre_le z (j : Int) _ (fun y _ => (zok_bd h y).1) hm
        have hb := zok_bd h (j : Int)
        obtain ⟨p, hpe⟩ : ∃ p : Nat, (rd_T50 l (j : Int)).f0 = (p : Int) := ⟨_, (Int.toNat_of_nonneg hp.1).symm⟩
        rw [hpe] at hp hs hq ⊢
        have := ih p (by omega)
        omega
def Dn_ (l : List ND) (z : List Int) (b : Int → Int) : Nat → Int → Prop
  | 0, _ => True
  | m + 1, k => ∀ c : Nat, 0 < c → c < l.length → (rd_T50 l (c : Int)).f0 = k → b (c : Int) = G_ l z 12 (c : Int) ∧ Dn_ l z b m (c : Int)
def Ga_ (l : List ND) (z : List Int) (b b' : Int → Int) : Prop := ∀ j : Int, b' j = b j ∨ b' j = G_ l z 12 j
def Iv_ (z : List Int) (b : Int → Int) : Prop := ∀ j : Int, rd z j = 0 → b j = 0
theorem ga_refl (l : List ND) (z : List Int) (b : Int → Int) : Ga_ l z b b := fun _ => .inl rfl
theorem ga_trans {l : List ND} {z : List Int} {b c d : Int → Int} (h1 : Ga_ l z b c) (h2 : Ga_ l z c d) : Ga_ l z b d := fun j => by
  rcases h2 j with e | e
  · rw [e]; exact h1 j
  · exact .inr e
theorem ga_G {l : List ND} {z : List Int} {b c : Int → Int} (h : Ga_ l z b c) (j : Int) (e : b j = G_ l z 12 j) : c j = G_ l z 12 j := by
  rcases h j with e' | e'
  · rw [e', e]
  · exact e'
theorem iv_keep {l : List ND} {z : List Int} {b c : Int → Int} (h : Ga_ l z b c) (hi : Iv_ z b) : Iv_ z c := fun j hj => by
  rcases h j with e | e
  · rw [e]; exact hi j hj
  · rw [e]; exact G_zero j hj
theorem dn_keep {l : List ND} {z : List Int} {b b' : Int → Int} (h : Ga_ l z b b') : ∀ (m : Nat) (k : Int), Dn_ l z b m k → Dn_ l z b' m k := by
  intro m
  induction m with
  | zero => intro k _; trivial
  | succ m ih => intro k hd c h0 h1 h2; have := hd c h0 h1 h2; exact ⟨ga_G h _ this.1, ih _ this.2⟩
theorem dn_zero {l : List ND} {z : List Int} (h : Zok l z) {b : Int → Int} (hi : Iv_ z b) : ∀ (m : Nat) (k : Int), rd z k = 0 → Dn_ l z b m k := by
  intro m
  induction m with
  | zero => intro k _; trivial
  | succ m ih =>
    intro k hk c h0 h1 h2
    have hc : rd z (c : Int) = 0 := h.2.2 c h0 h1 (by rw [h2]; exact hk)
    exact ⟨by rw [hi _ hc, G_zero _ hc], ih _ hc⟩
theorem dn_leaf {l : List ND} {z : List Int} (h : Zok l z) {b : Int → Int} : ∀ (m : Nat) (k : Int), (rd_T50 l k).f2 ≠ 0 → Dn_ l z b m k := by
  intro m k hk
  cases m with
  | zero => trivial
  | succ m =>
    intro c h0 h1 h2
    have := tree_row h.1 c h0 h1
    simp only [row_, Bool.and_eq_true, decide_eq_true_eq] at this
    rw [h2] at this
    exact absurd this.2.1 hk
theorem dn_mono {l : List ND} {z : List Int} {b : Int → Int} : ∀ (m : Nat) (k : Int), Dn_ l z b (m + 1) k → Dn_ l z b m k := by
  intro m
  induction m with
  | zero => intro k _; trivial
  | succ m ih => intro k hd c h0 h1 h2; have := hd c h0 h1 h2; exact ⟨this.1, ih _ this.2⟩
theorem dn_le {l : List ND} {z : List Int} {b : Int → Int} (k : Int) (m : Nat) : ∀ d, Dn_ l z b (m + d) k → Dn_ l z b m k := by
  intro d
  induction d with
  | zero => exact fun h => h
  | succ d ih => exact fun h => ih (dn_mono _ _ h)
theorem dn_all {l : List ND} {z : List Int} (h : Zok l z) {b : Int → Int} : ∀ (j : Nat), 0 < j → j < l.length → ∀ m, Dn_ l z b (j + m) 0 → b (j : Int) = G_ l z 12 (j : Int) ∧ Dn_ l z b m (j : Int) := by
  intro j
  induction j using Nat.strongRecOn with
  | _ j ih =>
    intro h0 h1 m hd
    have hp := tree_parent h.1 j h0 h1
    obtain ⟨p, hpe⟩ : ∃ p : Nat, (rd_T50 l (j : Int)).f0 = (p : Int) := ⟨_, (Int.toNat_of_nonneg hp.1).symm⟩
    rw [hpe] at hp
    by_cases e : p = 0
    · subst e
      rw [show j + m = (m + (j - 1)) + 1 by omega] at hd
      have := hd j h0 h1 hpe
      exact ⟨this.1, dn_le _ _ _ this.2⟩
    · rw [show j + m = (p + (m + 1)) + (j - p - 1) by omega] at hd
      have := (ih p (by omega) (by omega) (by omega) (m + 1) (dn_le _ _ _ hd)).2 j h0 h1 hpe
      exact this
theorem sorted_ord {l : List ND} {z : List Int} (h : Zok l z) (k : Int) (S : List Int) (hn : S.Nodup) (hm : ∀ c, c ∈ S ↔ c ∈ ch_ l k) (hs : S.Pairwise (fun x y => rd z y < rd z x ∨ (rd z x = rd z y ∧ x ≤ y))) : S.filter (fun y => decide (rd z y ≠ 0)) = ord_ l z k := by
  refine strict_ext z _ _ ?_ (ord_pw l z k) (fun c => ?_)
  · have h1 : S.Pairwise (bf_ z) := (hn.and hs).imp (fun {x y} hxy => by
      obtain ⟨h1, h2⟩ := hxy
      unfold bf_
      have : x ≠ y := h1
      omega)
    exact h1.filter _
  · rw [List.mem_filter, decide_eq_true_eq, ord_mem, hm]
    constructor
    · rintro ⟨h1, h2⟩; exact ⟨h1, by rcases h.2.1 c with e | e; exact absurd e h2; exact e⟩
    · rintro ⟨h1, h2⟩; exact ⟨h1, by have := pw2_bd _ h2; omega⟩
theorem win_n {l : List ND} (s : List Int) (t : tree_ l = true) : ∀ (n m : Nat) (x : Int), 0 ≤ x → x < (l.length : Int) → (l.length : Int) - x ≤ (n : Int) → (l.length : Int) - x ≤ (m : Int) → win_ l s n x = win_ l s m x := by
  intro n
  induction n with
  | zero => intro m x h0 h1 h2 _; omega
  | succ n ih =>
    intro m x h0 h1 h2 h3
    obtain ⟨m, rfl⟩ : ∃ y, m = y + 1 := ⟨m - 1, by omega⟩
    rw [win_succ, win_succ]
    split
    · rfl
    · congr 2
      exact List.map_congr_left (fun y hy => by have := kids_mem l t x y h0 h1 hy; exact ih m y (by omega) (by omega) (by omega) (by omega))
theorem pgo_pow (s : Int) : ∀ (j : Nat) (p : Int), ∃ i, i ≤ j ∧ pgo_ j p s = p * 2 ^ i := by
  intro j
  induction j with
  | zero => intro p; exact ⟨0, Nat.le_refl _, by unfold pgo_; simp⟩
  | succ j ih =>
    intro p
    rw [pgo_succ]
    split
    · obtain ⟨i, h1, h2⟩ := ih (p * 2)
      exact ⟨i + 1, by omega, by rw [h2, Int.pow_succ, Int.mul_assoc, Int.mul_comm 2 (2 ^ i)]⟩
    · exact ⟨0, by omega, by simp⟩
theorem pgo_ge (s : Int) : ∀ (j : Nat) (p : Int), s ≤ p * 2 ^ j → s ≤ pgo_ j p s := by
  intro j
  induction j with
  | zero => intro p h; unfold pgo_; simpa using h
  | succ j ih =>
    intro p h
    rw [pgo_succ]
    split
    · exact ih (p * 2) (by rw [Int.pow_succ, Int.mul_comm (2 ^ j) 2, ← Int.mul_assoc] at h; exact h)
    · omega
theorem np_ge (s : Int) (h : s ≤ 8388608) : s ≤ np_ s := by
  unfold np_
  split
  · omega
  · exact pgo_ge s 24 1 (by rw [show (1 : Int) * 2 ^ 24 = 16777216 by decide]; omega)
theorem np_pow (s : Int) : np_ s = 0 ∨ ∃ i : Nat, i ≤ 24 ∧ np_ s = 2 ^ i := by
  unfold np_
  split
  · exact .inl rfl
  · obtain ⟨i, h1, h2⟩ := pgo_pow s 24 1
    exact .inr ⟨i, h1, by rw [h2, Int.one_mul]⟩
theorem pw2_of : ∀ i : Nat, i ≤ 24 → (2 : Int) ^ i ≤ 65536 → (2 : Int) ^ i ∈ pw2 := by
  intro i hi h
  have : ∀ i : Nat, i < 25 → (2 : Int) ^ i ≤ 65536 → (2 : Int) ^ i ∈ pw2 := by decide
  exact this i (by omega) h
theorem sizes_pow {l : List ND} {s : List Int} (h : sizesOk_ l s = true) (j : Nat) (h1 : j < l.length) : rd s (j : Int) = 0 ∨ ∃ i : Nat, i ≤ 24 ∧ rd s (j : Int) = 2 ^ i := by
  have hb := sizes_at h (j : Int) (by omega) (by omega)
  simp only [sizesOk_, Bool.and_eq_true, decide_eq_true_eq] at h
  have := szs_at l s l.length 0 j h.2.2 (by omega) (by omega)
  simp only [szT, Bool.or_eq_true, Bool.and_eq_true, decide_eq_true_eq] at this
  rcases this with e | ⟨_, e, e2⟩
  · exact .inl e
  · obtain ⟨i, i1, i2⟩ := (pwF_iff (rd s (j : Int)).toNat (by omega) (by omega)).1 e2
    refine .inr ⟨i, by omega, ?_⟩
    have h3 : rd s (j : Int) = (((rd s (j : Int)).toNat : Nat) : Int) := (Int.toNat_of_nonneg hb.1).symm
    rw [h3, i2]; norm_cast
theorem win_pow {l : List ND} {s : List Int} (h : sizesOk_ l s = true) (n : Nat) (j : Nat) (h1 : j < l.length) : win_ l s n (j : Int) = 0 ∨ ∃ i : Nat, i ≤ 24 ∧ win_ l s n (j : Int) = 2 ^ i := by
  cases n with
  | zero => exact .inl rfl
  | succ n =>
    rw [win_succ]
    split
    · exact sizes_pow h j h1
    · exact np_pow _
theorem sum_mem (f : Int → Int) : ∀ ks : List Int, (∀ y ∈ ks, 0 ≤ f y) → ∀ c ∈ ks, f c ≤ (ks.map f).sum := by
  intro ks
  induction ks with
  | nil => intro _ c h; simp at h
  | cons a t ih =>
    intro h c hc
    have h1 := (sum_le f f t (fun y hy => ⟨h y (List.mem_cons_of_mem _ hy), Int.le_refl _⟩)).1
    have h2 := h a List.mem_cons_self
    rw [List.map_cons, List.sum_cons]
    rcases List.mem_cons.1 hc with rfl | hc
    · omega
    · have := ih (fun y hy => h y (List.mem_cons_of_mem _ hy)) c hc; omega
theorem row_br {l : List ND} (t : tree_ l = true) (c : Nat) (h0 : 0 < c) (h1 : c < l.length) : (rd_T50 l (rd_T50 l (c : Int)).f0).f2 = 0 := by
  have := tree_row t c h0 h1
  simp only [row_, Bool.and_eq_true, decide_eq_true_eq] at this
  exact this.2.1
theorem win_sum {l : List ND} {s : List Int} (h : sizesOk_ l s = true) (x : Int) (h0 : 0 ≤ x) (h1 : x < (l.length : Int)) (hb : (rd_T50 l x).f2 = 0) : win_ l s 12 x = np_ (((kids_ l x).map (win_ l s 12)).sum) ∧ ((kids_ l x).map (win_ l s 12)).sum ≤ win_ l s 12 x := by
  have t := (sizes_tree h).1
  have tl := tree_len t
  have e : win_ l s 12 x = np_ (((kids_ l x).map (win_ l s 12)).sum) := by
    rw [win_succ, if_neg (by omega)]
    congr 2
    exact List.map_congr_left (fun y hy => by have := kids_mem l t x y h0 h1 hy; exact win_n s t 11 12 y (by omega) (by omega) (by omega) (by omega))
  refine ⟨e, ?_⟩
  rw [e]
  have hs := sum_le (win_ l s 12) bd_ (kids_ l x) (fun y hy => by have := kids_mem l t x y h0 h1 hy; exact win_bd h 12 y (by omega) (by omega))
  have hk := kids_bd l t x h0 h1
  have := bd_le x
  exact np_ge _ (by omega)
theorem win_kid {l : List ND} {s : List Int} (h : sizesOk_ l s = true) (c : Nat) (h0 : 0 < c) (h1 : c < l.length) : win_ l s 12 (c : Int) ≤ win_ l s 12 (rd_T50 l (c : Int)).f0 := by
  have t := (sizes_tree h).1
  have hp := tree_parent t c h0 h1
  have h2 := (win_sum h _ hp.1 (by omega) (row_br t c h0 h1)).2
  have h3 := sum_mem (win_ l s 12) _ (fun y hy => by have := kids_mem l t _ y hp.1 (by omega) hy; exact (win_bd h 12 y (by omega) (by omega)).1) _ (kids_of l t c h0 h1)
  omega
theorem win_root {l : List ND} {s : List Int} (h : sizesOk_ l s = true) : ∀ c : Nat, c < l.length → win_ l s 12 (c : Int) ≤ win_ l s 12 0 := by
  intro c
  induction c using Nat.strongRecOn with
  | _ c ih =>
    intro h1
    by_cases e : c = 0
    · subst e; exact Int.le_refl _
    · have hp := tree_parent (sizes_tree h).1 c (by omega) h1
      have hk := win_kid h c (by omega) h1
      obtain ⟨p, hpe⟩ : ∃ p : Nat, (rd_T50 l (c : Int)).f0 = (p : Int) := ⟨_, (Int.toNat_of_nonneg hp.1).symm⟩
      rw [hpe] at hp hk
      have := ih p (by omega) (by omega)
      omega
def wz_ (l : List ND) (s : List Int) : List Int := (List.range l.length).map (fun i : Nat => win_ l s 12 (i : Int))
theorem wz_len (l : List ND) (s : List Int) : (wz_ l s).length = l.length := by simp [wz_]
theorem wz_at (l : List ND) (s : List Int) (j : Nat) (h : j < l.length) : rd (wz_ l s) (j : Int) = win_ l s 12 (j : Int) := by
  rw [rd_nat _ j (by rw [wz_len]; exact h)]; simp [wz_]
theorem wz_ok {l : List ND} {s : List Int} (h : sizesOk_ l s = true) (hw : win_ l s 12 0 ≤ 65536) : Zok l (wz_ l s) := by
  have t := (sizes_tree h).1
  have tl := tree_len t
  have hz : ∀ j : Nat, j < l.length → rd (wz_ l s) (j : Int) = 0 ∨ rd (wz_ l s) (j : Int) ∈ pw2 := fun j hj => by
    rw [wz_at l s j hj]
    rcases win_pow h 12 j hj with e | ⟨i, i1, i2⟩
    · exact .inl e
    · have := win_root h j hj
      rw [i2] at this ⊢
      exact .inr (pw2_of i i1 (by omega))
  refine ⟨t, fun j => ?_, fun j h0 h1 hp0 => ?_⟩
  · by_cases hj : j.toNat < l.length
    · have e : rd (wz_ l s) j = rd (wz_ l s) ((j.toNat : Nat) : Int) := by unfold rd; rw [Int.toNat_natCast]
      rw [e]; exact hz _ hj
    · left; unfold rd; simp [List.getD_eq_getElem?_getD, List.getElem?_eq_none (l := wz_ l s) (i := j.toNat) (by rw [wz_len]; omega)]
  · have hp := tree_parent t j h0 h1
    obtain ⟨p, hpe⟩ : ∃ p : Nat, (rd_T50 l (j : Int)).f0 = (p : Int) := ⟨_, (Int.toNat_of_nonneg hp.1).symm⟩
    have hk := win_kid h j h0 h1
    rw [hpe] at hp hp0 hk
    rw [wz_at l s p (by omega)] at hp0
    rw [wz_at l s j h1]
    have := (win_bd h 12 (j : Int) (by omega) (by omega)).1
    omega
theorem kids_ch {l : List ND} (t : tree_ l = true) (k : Int) (h0 : 0 ≤ k) (h1 : k < (l.length : Int)) : (kids_ l k).Nodup ∧ ∀ c, c ∈ kids_ l k ↔ c ∈ ch_ l k := by
  have hi := isn_of t h0 h1
  have hx : ∀ (d c : Int), c ∈ kidsAt_ l k d → c ∈ ch_ l k ∧ (rd_T50 l c).f1 = d := fun d c hc => by
    obtain ⟨a1, a2, a3⟩ := ixs_mem _ _ _ _ _ hc
    simp only [kid_, Bool.and_eq_true, decide_eq_true_eq] at a3
    obtain ⟨j, rfl⟩ : ∃ j : Nat, c = (j : Int) := ⟨c.toNat, by omega⟩
    exact ⟨ch_of l k j (by omega) (by omega) a3.1, a3.2⟩
  have hnd : ∀ d : Int, (kidsAt_ l k d).Nodup := fun d => (ixs_pw l _ _ _).imp (fun {x y} h e => by omega)
  constructor
  · unfold kids_
    rw [if_pos hi]
    refine List.nodup_append.2 ⟨hnd 0, List.nodup_append.2 ⟨hnd 1, List.nodup_append.2 ⟨hnd 2, hnd 3, ?_⟩, ?_⟩, ?_⟩
    · intro a ha b hb e; subst e; have := (hx 2 a ha).2; have := (hx 3 a hb).2; omega
    · intro a ha b hb e; subst e
      have h2 := (hx 1 a ha).2
      rcases List.mem_append.1 hb with hb | hb
      · have := (hx 2 a hb).2; omega
      · have := (hx 3 a hb).2; omega
    · intro a ha b hb e; subst e
      have h2 := (hx 0 a ha).2
      rcases List.mem_append.1 hb with hb | hb
      · have := (hx 1 a hb).2; omega
      · rcases List.mem_append.1 hb with hb | hb
        · have := (hx 2 a hb).2; omega
        · have := (hx 3 a hb).2; omega
  · intro c
    constructor
    · intro hc
      unfold kids_ at hc
      rw [if_pos hi] at hc
      rcases List.mem_append.1 hc with hc | hc
      · exact (hx 0 c hc).1
      · rcases List.mem_append.1 hc with hc | hc
        · exact (hx 1 c hc).1
        · rcases List.mem_append.1 hc with hc | hc
          · exact (hx 2 c hc).1
          · exact (hx 3 c hc).1
    · intro hc
      obtain ⟨j, rfl, j0, j1, j2⟩ := ch_mem l k c hc
      have := kids_of l t j j0 j1
      rwa [j2] at this
theorem sm_filter (z : List Int) : ∀ L : List Int, sm_ z (L.filter (fun y => decide (rd z y ≠ 0))) = sm_ z L := by
  intro L
  induction L with
  | nil => rfl
  | cons y ys ih =>
    rw [List.filter_cons, sm_]
    by_cases e : rd z y = 0
    · rw [if_neg (by simp [e]), ih, e]; omega
    · rw [if_pos (by simp [e]), sm_, ih]
theorem sm_perm (z : List Int) {a b : List Int} (h : a.Perm b) : sm_ z a = sm_ z b := by
  induction h with
  | nil => rfl
  | cons x _ ih => rw [sm_, sm_, ih]
  | swap x y l => rw [sm_, sm_, sm_, sm_]; omega
  | trans _ _ h1 h2 => rw [h1, h2]
def lex_ (z : List Int) (x y : Int) : Bool := decide (rd z y < rd z x ∨ (rd z x = rd z y ∧ x ≤ y))
theorem ch_nodup (l : List ND) (k : Int) : (ch_ l k).Nodup := (ixs_pw l _ _ _).imp (fun {x y} h e => by omega)
theorem lex_iff (z : List Int) (x y : Int) : lex_ z x y = true ↔ (rd z y < rd z x ∨ (rd z x = rd z y ∧ x ≤ y)) := by unfold lex_; rw [decide_eq_true_eq]
theorem lex_srt (z : List Int) (S : List Int) : (S.mergeSort (lex_ z)).Pairwise (fun x y => rd z y < rd z x ∨ (rd z x = rd z y ∧ x ≤ y)) := by
  have hs : (S.mergeSort (lex_ z)).Pairwise (fun x y => lex_ z x y = true) := List.pairwise_mergeSort (fun a b c h1 h2 => by
    rw [lex_iff] at *; omega) (fun a b => by
    rw [Bool.or_eq_true, lex_iff, lex_iff]; omega) S
  exact hs.imp (fun {x y} hxy => (lex_iff z x y).1 hxy)
theorem srt_bf (z : List Int) (S : List Int) (hn : S.Nodup) : (S.mergeSort (lex_ z)).Pairwise (bf_ z) := by
  have hp : (S.mergeSort (lex_ z)).Perm S := List.mergeSort_perm S (lex_ z)
  exact (((hp.nodup_iff).2 hn).and (lex_srt z S)).imp (fun {x y} hxy => by
    obtain ⟨h1, h2⟩ := hxy
    unfold bf_
    have : x ≠ y := h1
    omega)
theorem kids_srt {l : List ND} (t : tree_ l = true) (z : List Int) (k : Int) (h0 : 0 ≤ k) (h1 : k < (l.length : Int)) : (kids_ l k).mergeSort (lex_ z) = (ch_ l k).mergeSort (lex_ z) := by
  obtain ⟨hn, hm⟩ := kids_ch t k h0 h1
  exact strict_ext z _ _ (srt_bf z _ hn) (srt_bf z _ (ch_nodup l k)) (fun x => by
    rw [(List.mergeSort_perm (kids_ l k) (lex_ z)).mem_iff, (List.mergeSort_perm (ch_ l k) (lex_ z)).mem_iff]; exact hm x)
theorem kids_len11 {l : List ND} (t : tree_ l = true) (k : Int) (h0 : 0 ≤ k) (h1 : k < (l.length : Int)) : (kids_ l k).length ≤ 11 := by
  have h2 := congrArg List.length (kids_srt t [] k h0 h1)
  rw [(List.mergeSort_perm (kids_ l k) _).length_eq, (List.mergeSort_perm (ch_ l k) _).length_eq] at h2
  have h4 := ixs_len l (fun n => decide (n.f0 = k)) (l.length - 1) 1
  have h5 := tree_len t
  unfold ch_ at h2
  omega
abbrev BA := S73
def covB (sz base a : Int) : Bool := decide (sz > 0) && (decide (a ≥ base) && decide ((IntKind.u64.wrap ((IntKind.u64.wrap a) - (IntKind.u64.wrap base))) < (IntKind.u64.wrap sz)))
theorem icov_eq (sz base a : Int) : impl_Bar_covers.f sz base a = some (covB sz base a) := by
  unfold impl_Bar_covers.f covB
  by_cases h : sz > 0
  · by_cases h2 : a ≥ base
    · rw [if_pos h, if_pos h2, decide_eq_true h, decide_eq_true h2]; rfl
    · rw [if_pos h, if_neg h2, decide_eq_false h2]; simp
  · rw [if_neg h, decide_eq_false h]; rfl
def wfB (x : BA) : Prop := (-9223372036854775808 ≤ x.f0 ∧ x.f0 ≤ 9223372036854775807) ∧ (-9223372036854775808 ≤ x.f1 ∧ x.f1 ≤ 9223372036854775807)
def ins_ (c p : BA) : Bool := covB p.f0 p.f1 c.f1 && decide (c.f0 ≤ wrap64 (p.f0 - wrap64 (c.f1 - p.f1)))
def ov_ (a b : BA) : Bool := decide (a.f0 > 0) && (decide (b.f0 > 0) && (covB a.f0 a.f1 b.f1 || covB b.f0 b.f1 a.f1))
theorem covB_iff (x : BA) (a : Int) (h : wfB x) (ha : -9223372036854775808 ≤ a ∧ a ≤ 9223372036854775807) : covB x.f0 x.f1 a = true ↔ (x.f0 > 0 ∧ x.f1 ≤ a ∧ a - x.f1 < x.f0) := by
  obtain ⟨h1, h2⟩ := h
  unfold covB
  simp only [Bool.and_eq_true, decide_eq_true_eq, u64_eq]
  omega
theorem ov_comm (a b : BA) : ov_ a b = ov_ b a := by
  unfold ov_
  cases decide (a.f0 > 0) <;> cases decide (b.f0 > 0) <;> simp [Bool.or_comm]
theorem ins_iff (c p : BA) (hc : wfB c) (hp : wfB p) (h0 : 0 < c.f0) : ins_ c p = true ↔ (p.f1 ≤ c.f1 ∧ c.f0 ≤ p.f0 ∧ c.f1 - p.f1 ≤ p.f0 - c.f0) := by
  have h := covB_iff p c.f1 hp hc.2
  obtain ⟨h1, h2⟩ := hc
  obtain ⟨h3, h4⟩ := hp
  unfold ins_
  rw [Bool.and_eq_true, h, decide_eq_true_eq]
  constructor
  · rintro ⟨⟨g0, g1, g2⟩, g3⟩
    rw [wr (c.f1 - p.f1) (by omega) (by omega), wr _ (by omega) (by omega)] at g3
    omega
  · intro g
    rw [wr (c.f1 - p.f1) (by omega) (by omega), wr _ (by omega) (by omega)]
    omega
theorem ov_iff (a b : BA) (ha : wfB a) (hb : wfB b) : ov_ a b = true ↔ (a.f0 > 0 ∧ b.f0 > 0 ∧ ((a.f1 ≤ b.f1 ∧ b.f1 - a.f1 < a.f0) ∨ (b.f1 ≤ a.f1 ∧ a.f1 - b.f1 < b.f0))) := by
  unfold ov_
  simp only [Bool.and_eq_true, Bool.or_eq_true, decide_eq_true_eq, covB_iff a b.f1 ha hb.2, covB_iff b a.f1 hb ha.2]
  omega
def nd_ (t : List ND) (k : Nat) : ND := rd_T50 t (k : Int)
def ba_ (w : List BA) (k : Nat) : BA := rd_T73 w (k : Int)
def apS (w : List BA) (t : List ND) (i : Nat) : Nat → Nat → Bool
  | 0, _ => true
  | d + 1, j => (if (nd_ t j).f0 = (nd_ t i).f0 then !ov_ (ba_ w j) (ba_ w i) else true) && apS w t i d (j + 1)
def apI (w : List BA) (t : List ND) (i : Nat) : Nat → Nat → Bool
  | 0, _ => true
  | d + 1, j => (if j = i then true else if (nd_ t j).f0 = (nd_ t i).f0 then !ov_ (ba_ w i) (ba_ w j) else true) && apI w t i d (j + 1)
def par_ (w : List BA) (t : List ND) (k : Nat) : BA := rd_T73 w (nd_ t k).f0
def nsS (w : List BA) (t : List ND) : Nat → Nat → Bool
  | 0, _ => true
  | d + 1, k => (if (ba_ w k).f0 ≤ 0 then true else ins_ (ba_ w k) (par_ w t k) && apS w t k (k - 1) 1) && nsS w t d (k + 1)
def nsI (w : List BA) (t : List ND) : Nat → Nat → Bool
  | 0, _ => true
  | d + 1, k => (if (ba_ w k).f0 ≤ 0 then true else ins_ (ba_ w k) (par_ w t k) && apI w t k (t.length - 1) 1) && nsI w t d (k + 1)
def nested_ (w : List BA) (t : List ND) : Bool := tree_ t && (decide (w.length = t.length) && nsS w t (t.length - 1) 1)
theorem apS_iff (w : List BA) (t : List ND) (i : Nat) : ∀ d j, apS w t i d j = true ↔ ∀ x, j ≤ x → x < j + d → (nd_ t x).f0 = (nd_ t i).f0 → ov_ (ba_ w x) (ba_ w i) = false := by
  intro d
  induction d with
  | zero => intro j; exact ⟨fun _ x h1 h2 => by omega, fun _ => rfl⟩
  | succ d ih =>
    intro j
    have e : apS w t i (d + 1) j = ((if (nd_ t j).f0 = (nd_ t i).f0 then !ov_ (ba_ w j) (ba_ w i) else true) && apS w t i d (j + 1)) := rfl
    rw [e, Bool.and_eq_true, ih (j + 1)]
    constructor
    · rintro ⟨h1, h2⟩ x hx1 hx2 hx
      by_cases ex : x = j
      · subst ex; rw [if_pos hx] at h1; simpa using h1
      · exact h2 x (by omega) (by omega) hx
    · intro h
      refine ⟨?_, fun x h1 h2 h3 => h x (by omega) (by omega) h3⟩
      by_cases hx : (nd_ t j).f0 = (nd_ t i).f0
      · rw [if_pos hx, h j (Nat.le_refl _) (by omega) hx]; rfl
      · rw [if_neg hx]
theorem apI_iff (w : List BA) (t : List ND) (i : Nat) : ∀ d j, apI w t i d j = true ↔ ∀ x, j ≤ x → x < j + d → x ≠ i → (nd_ t x).f0 = (nd_ t i).f0 → ov_ (ba_ w i) (ba_ w x) = false := by
  intro d
  induction d with
  | zero => intro j; exact ⟨fun _ x h1 h2 => by omega, fun _ => rfl⟩
  | succ d ih =>
    intro j
    have e : apI w t i (d + 1) j = ((if j = i then true else if (nd_ t j).f0 = (nd_ t i).f0 then !ov_ (ba_ w i) (ba_ w j) else true) && apI w t i d (j + 1)) := rfl
    rw [e, Bool.and_eq_true, ih (j + 1)]
    constructor
    · rintro ⟨h1, h2⟩ x hx1 hx2 hn hx
      by_cases ex : x = j
      · subst ex; rw [if_neg hn, if_pos hx] at h1; simpa using h1
      · exact h2 x (by omega) (by omega) hn hx
    · intro h
      refine ⟨?_, fun x h1 h2 h3 h4 => h x (by omega) (by omega) h3 h4⟩
      by_cases hn : j = i
      · rw [if_pos hn]
      · rw [if_neg hn]
        by_cases hx : (nd_ t j).f0 = (nd_ t i).f0
        · rw [if_pos hx, h j (Nat.le_refl _) (by omega) hn hx]; rfl
        · rw [if_neg hx]
theorem nsS_iff (w : List BA) (t : List ND) : ∀ d k, nsS w t d k = true ↔ ∀ x, k ≤ x → x < k + d → 0 < (ba_ w x).f0 → (ins_ (ba_ w x) (par_ w t x) = true ∧ apS w t x (x - 1) 1 = true) := by
  intro d
  induction d with
  | zero => intro j; exact ⟨fun _ x h1 h2 => by omega, fun _ => rfl⟩
  | succ d ih =>
    intro k
    have e : nsS w t (d + 1) k = ((if (ba_ w k).f0 ≤ 0 then true else ins_ (ba_ w k) (par_ w t k) && apS w t k (k - 1) 1) && nsS w t d (k + 1)) := rfl
    rw [e, Bool.and_eq_true, ih (k + 1)]
    constructor
    · rintro ⟨h1, h2⟩ x hx1 hx2 hx
      by_cases ex : x = k
      · subst ex; rw [if_neg (by omega), Bool.and_eq_true] at h1; exact h1
      · exact h2 x (by omega) (by omega) hx
    · intro h
      refine ⟨?_, fun x h1 h2 h3 => h x (by omega) (by omega) h3⟩
      by_cases hx : (ba_ w k).f0 ≤ 0
      · rw [if_pos hx]
      · rw [if_neg hx, Bool.and_eq_true]; exact h k (Nat.le_refl _) (by omega) (by omega)
theorem nsI_iff (w : List BA) (t : List ND) : ∀ d k, nsI w t d k = true ↔ ∀ x, k ≤ x → x < k + d → 0 < (ba_ w x).f0 → (ins_ (ba_ w x) (par_ w t x) = true ∧ apI w t x (t.length - 1) 1 = true) := by
  intro d
  induction d with
  | zero => intro j; exact ⟨fun _ x h1 h2 => by omega, fun _ => rfl⟩
  | succ d ih =>
    intro k
    have e : nsI w t (d + 1) k = ((if (ba_ w k).f0 ≤ 0 then true else ins_ (ba_ w k) (par_ w t k) && apI w t k (t.length - 1) 1) && nsI w t d (k + 1)) := rfl
    rw [e, Bool.and_eq_true, ih (k + 1)]
    constructor
    · rintro ⟨h1, h2⟩ x hx1 hx2 hx
      by_cases ex : x = k
      · subst ex; rw [if_neg (by omega), Bool.and_eq_true] at h1; exact h1
      · exact h2 x (by omega) (by omega) hx
    · intro h
      refine ⟨?_, fun x h1 h2 h3 => h x (by omega) (by omega) h3⟩
      by_cases hx : (ba_ w k).f0 ≤ 0
      · rw [if_pos hx]
      · rw [if_neg hx, Bool.and_eq_true]; exact h k (Nat.le_refl _) (by omega) (by omega)
theorem ov_pos {a b : BA} (h : ¬ 0 < b.f0) : ov_ a b = false := by
  unfold ov_; rw [show decide (b.f0 > 0) = false from decide_eq_false h]; simp
theorem ns_same (w : List BA) (t : List ND) : nsS w t (t.length - 1) 1 = nsI w t (t.length - 1) 1 := by
  rw [Bool.eq_iff_iff, nsS_iff, nsI_iff]
  constructor
  · intro h x h1 h2 h0
    refine ⟨(h x h1 h2 h0).1, (apI_iff w t x _ 1).2 (fun y hy1 hy2 hn hy => ?_)⟩
    by_cases hlt : y < x
    · rw [ov_comm]; exact (apS_iff w t x _ 1).1 (h x h1 h2 h0).2 y hy1 (by omega) hy
    · by_cases hp : 0 < (ba_ w y).f0
      · exact (apS_iff w t y _ 1).1 (h y hy1 hy2 hp).2 x h1 (by omega) hy.symm
      · exact ov_pos hp
  · intro h x h1 h2 h0
    refine ⟨(h x h1 h2 h0).1, (apS_iff w t x _ 1).2 (fun y hy1 hy2 hy => ?_)⟩
    rw [ov_comm]; exact (apI_iff w t x _ 1).1 (h x h1 h2 h0).2 y hy1 (by omega) (by omega) hy
theorem iins_eq (c p : BA) : impl_Bar_inside.f c.f0 c.f1 p.f0 p.f1 = some (ins_ c p) := by
  unfold impl_Bar_inside.f ins_
  rw [icov_eq, obs]
  cases covB p.f0 p.f1 c.f1 <;> simp
theorem iov_eq (a b : BA) : impl_Bar_overlaps.f a.f0 a.f1 b.f0 b.f1 = some (ov_ a b) := by
  unfold impl_Bar_overlaps.f ov_
  rw [icov_eq, icov_eq, obs, obs]
  by_cases h0 : a.f0 > 0
  · by_cases h1 : b.f0 > 0
    · rw [if_pos h0, if_pos h1, decide_eq_true h0, decide_eq_true h1]
      cases covB a.f0 a.f1 b.f1 <;> simp
    · rw [if_pos h0, if_neg h1, decide_eq_false h1]; simp
  · rw [if_neg h0, decide_eq_false h0]; simp
theorem inl1_eq (w : List BA) (t : List ND) (i : Nat) (hi : i < t.length) (hs : w.length = t.length) (hl : t.length ≤ 12) (R : Bool) (B : Nat) (hR : ∀ K, B < K → impl_IsNested.l0 K w t ((i + 1 : Nat) : Int) = some R) :
    ∀ d K j, j + d = t.length → B + d + 2 < K → impl_IsNested.l1 K w t (i : Int) (j : Int) = some (apI w t i d j && R) := by
  intro d
  induction d with
  | zero =>
    intro K j hj hK
    obtain ⟨K, rfl⟩ : ∃ m, K = m + 1 := ⟨K - 1, by omega⟩
    simp only [impl_IsNested.l1]
    rw [if_neg (by omega), wr ((i : Int) + 1) (by omega) (by omega)]
    simpa [apI] using hR K (by omega)
  | succ d ih =>
    intro K j hj hK
    obtain ⟨K, rfl⟩ : ∃ m, K = m + 1 := ⟨K - 1, by omega⟩
    have e : apI w t i (d + 1) j = ((if j = i then true else if (nd_ t j).f0 = (nd_ t i).f0 then !ov_ (ba_ w i) (ba_ w j) else true) && apI w t i d (j + 1)) := rfl
    have hov : impl_Bar_overlaps.f (rd_T73 w (i : Int)).f0 (rd_T73 w (i : Int)).f1 (rd_T73 w (j : Int)).f0 (rd_T73 w (j : Int)).f1 = some (ov_ (ba_ w i) (ba_ w j)) := iov_eq (ba_ w i) (ba_ w j)
    simp only [impl_IsNested.l1]
    rw [if_pos (by omega), wr ((j : Int) + 1) (by omega) (by omega), show (j : Int) + 1 = ((j + 1 : Nat) : Int) by omega, ih K (j + 1) (by omega) (by omega), hov, e]
    by_cases hn : j = i
    · rw [if_pos (by omega), if_pos hn]; simp
    · rw [if_neg (by omega), if_neg hn, if_pos (by omega), if_pos (by omega), if_pos (by omega)]
      by_cases h : (nd_ t j).f0 = (nd_ t i).f0
      · have h' : (rd_T50 t (j : Int)).f0 = (rd_T50 t (i : Int)).f0 := h
        rw [if_pos h', if_pos (by omega), if_pos (by omega), obs, if_pos h]
        cases ov_ (ba_ w i) (ba_ w j) <;> simp
      · have h' : ¬ (rd_T50 t (j : Int)).f0 = (rd_T50 t (i : Int)).f0 := h
        rw [if_neg h', if_neg h]; simp
theorem inl0_eq (w : List BA) (t : List ND) (ht : tree_ t = true) (hs : w.length = t.length) (hl : t.length ≤ 12) :
    ∀ d K k, 1 ≤ k → k + d = t.length → 16 * d < K → impl_IsNested.l0 K w t (k : Int) = some (nsI w t d k) := by
  intro d
  induction d with
  | zero =>
    intro K k h1 hk hK
    obtain ⟨K, rfl⟩ : ∃ m, K = m + 1 := ⟨K - 1, by omega⟩
    simp only [impl_IsNested.l0]
    rw [if_neg (by omega)]; rfl
  | succ d ih =>
    intro K k h1 hk hK
    obtain ⟨K, rfl⟩ : ∃ m, K = m + 1 := ⟨K - 1, by omega⟩
    have e : nsI w t (d + 1) k = ((if (ba_ w k).f0 ≤ 0 then true else ins_ (ba_ w k) (par_ w t k) && apI w t k (t.length - 1) 1) && nsI w t d (k + 1)) := rfl
    have hp := tree_parent ht k (by omega) (by omega)
    have h1' := inl1_eq w t k (by omega) hs hl (nsI w t d (k + 1)) (16 * d) (fun K' hK' => ih K' (k + 1) (by omega) (by omega) hK') (t.length - 1) K 1 (by omega) (by omega)
    rw [show ((1 : Nat) : Int) = (1 : Int) from rfl] at h1'
    have hin : impl_Bar_inside.f (rd_T73 w (k : Int)).f0 (rd_T73 w (k : Int)).f1 (rd_T73 w (rd_T50 t (k : Int)).f0).f0 (rd_T73 w (rd_T50 t (k : Int)).f0).f1 = some (ins_ (ba_ w k) (par_ w t k)) := iins_eq (ba_ w k) (par_ w t k)
    simp only [impl_IsNested.l0]
    rw [if_pos (by omega), if_pos (by omega), if_pos (by omega), wr ((k : Int) + 1) (by omega) (by omega), show (k : Int) + 1 = ((k + 1 : Nat) : Int) by omega, ih K (k + 1) (by omega) (by omega) (by omega), e, hin, h1']
    by_cases h : (ba_ w k).f0 ≤ 0
    · have h' : (rd_T73 w (k : Int)).f0 ≤ 0 := h
      rw [if_pos h', if_pos h, Bool.true_and]
    · have h' : ¬ (rd_T73 w (k : Int)).f0 ≤ 0 := h
      rw [if_neg h', if_neg h, if_pos hp.1, if_pos (by omega), obs]
      cases ins_ (ba_ w k) (par_ w t k) <;> simp
theorem inested_eq (w : List BA) (t : List ND) (hl : t.length ≤ 9223372036854775807) (K : Nat) (hK : 200 < K) : impl_IsNested.f K w t = some (nested_ w t) := by
  obtain ⟨K, rfl⟩ : ∃ m, K = m + 1 := ⟨K - 1, by omega⟩
  unfold impl_IsNested.f nested_
  rw [itree_eq t hl _ hK, obs, ns_same]
  simp only [impl_IsNested.j0]
  cases h : tree_ t
  · simp
  · have := tree_len h
    rw [if_pos rfl]
    by_cases e : w.length = t.length
    · rw [if_neg (by simp [e])]
      have h2 := inl0_eq w t h e (by omega) (t.length - 1) K 1 (by omega) (by omega) (by omega)
      simp only [decide_eq_true e, Bool.true_and]
      exact h2
    · rw [if_pos (by simp; omega)]; simp [e]
theorem pw2_dvd : ∀ a ∈ pw2, ∀ b ∈ pw2, a ≤ b → b % a = 0 := by decide
theorem mod_add0 (a b c : Int) (h1 : a % c = 0) (h2 : b % c = 0) : (a + b) % c = 0 := by
  rw [Int.add_emod, h1, h2]; simp
theorem pre_dvd (z : List Int) (c : Int) : ∀ L : List Int, L.Pairwise (bf_ z) → (∀ y ∈ L, rd z y ∈ pw2) → c ∈ L → pre_ z L c % rd z c = 0 := by
  intro L
  induction L with
  | nil => intro _ _ h; simp at h
  | cons y ys ih =>
    intro hp hw hc
    rw [List.pairwise_cons] at hp
    rw [pre_]
    by_cases e : y = c
    · rw [if_pos e]; simp
    · rw [if_neg e]
      have hm : c ∈ ys := by rcases List.mem_cons.1 hc with hc | hc; exact absurd hc.symm e; exact hc
      have hb := hp.1 c hm
      refine mod_add0 _ _ _ (pw2_dvd _ (hw c hc) _ (hw y List.mem_cons_self) (by unfold bf_ at hb; omega)) (ih hp.2 (fun w hw' => hw w (List.mem_cons_of_mem _ hw')) hm)
theorem pre_apart (z : List Int) (c d : Int) : ∀ L : List Int, (∀ y ∈ L, 0 ≤ rd z y) → c ∈ L → d ∈ L → c ≠ d → pre_ z L c + rd z c ≤ pre_ z L d ∨ pre_ z L d + rd z d ≤ pre_ z L c := by
  intro L
  induction L with
  | nil => intro _ h; simp at h
  | cons y ys ih =>
    intro h hc hd hn
    have hnn : ∀ w ∈ ys, 0 ≤ rd z w := fun w hw => h w (List.mem_cons_of_mem _ hw)
    rw [pre_, pre_]
    by_cases ec : y = c
    · subst ec
      have hm : d ∈ ys := by rcases List.mem_cons.1 hd with hd | hd; exact absurd hd.symm hn; exact hd
      have := pre_le z d ys hnn hm
      rw [if_pos rfl, if_neg hn]; omega
    · by_cases ed : y = d
      · subst ed
        have hm : c ∈ ys := by rcases List.mem_cons.1 hc with hc | hc; exact absurd hc hn; exact hc
        have := pre_le z c ys hnn hm
        rw [if_pos rfl, if_neg ec]; omega
      · have hm : c ∈ ys := by rcases List.mem_cons.1 hc with hc | hc; exact absurd hc.symm ec; exact hc
        have hm2 : d ∈ ys := by rcases List.mem_cons.1 hd with hd | hd; exact absurd hd.symm ed; exact hd
        have := ih hnn hm hm2 hn
        rw [if_neg ec, if_neg ed]; omega
theorem sm_ord {l : List ND} {z : List Int} (h : Zok l z) (k : Int) (S : List Int) (hn : S.Nodup) (hm : ∀ c, c ∈ S ↔ c ∈ ch_ l k) : sm_ z (ord_ l z k) = sm_ z S := by
  have hp : (S.mergeSort (lex_ z)).Perm S := List.mergeSort_perm S (lex_ z)
  rw [← sorted_ord h k (S.mergeSort (lex_ z)) ((hp.nodup_iff).2 hn) (fun c => by rw [hp.mem_iff]; exact hm c) (lex_srt z S), sm_filter, sm_perm z hp]
theorem sm_map (z : List Int) : ∀ L : List Int, sm_ z L = (L.map (rd z)).sum := by
  intro L
  induction L with
  | nil => rfl
  | cons y ys ih => rw [sm_, List.map_cons, List.sum_cons, ih]
def sumN (f : Nat → Int) : Nat → Int
  | 0 => 0
  | n + 1 => sumN f n + f n
theorem sumN_add (f g : Nat → Int) : ∀ n, sumN (fun i => f i + g i) n = sumN f n + sumN g n := by
  intro n
  induction n with
  | zero => rfl
  | succ n ih => simp only [sumN]; rw [ih]; omega
theorem sumN_le (f g : Nat → Int) : ∀ n, (∀ i, i < n → f i ≤ g i) → sumN f n ≤ sumN g n := by
  intro n
  induction n with
  | zero => intro _; exact Int.le_refl _
  | succ n ih => intro h; have := ih (fun i hi => h i (by omega)); have := h n (by omega); simp only [sumN]; omega
theorem sumN_congr (f g : Nat → Int) (n : Nat) (h : ∀ i, i < n → f i = g i) : sumN f n = sumN g n := by
  have h1 := sumN_le f g n (fun i hi => by rw [h i hi]; exact Int.le_refl _)
  have h2 := sumN_le g f n (fun i hi => by rw [h i hi]; exact Int.le_refl _)
  omega
theorem sumN_zero : ∀ n, sumN (fun _ => 0) n = 0 := by
  intro n
  induction n with
  | zero => rfl
  | succ n ih => simp only [sumN]; rw [ih]; rfl
theorem sumN_swap (f : Nat → Nat → Int) (m : Nat) : ∀ n, sumN (fun k => sumN (fun c => f k c) m) n = sumN (fun c => sumN (fun k => f k c) n) m := by
  intro n
  induction n with
  | zero => simp only [sumN]; rw [sumN_zero]
  | succ n ih => simp only [sumN]; rw [ih, sumN_add]
theorem sumN_one (p : Nat) (v : Int) : ∀ n, sumN (fun k => if k = p then v else 0) n = if p < n then v else 0 := by
  intro n
  induction n with
  | zero => rfl
  | succ n ih =>
    simp only [sumN]
    rw [ih]
    by_cases e : p < n
    · rw [if_pos e, if_neg (by omega), if_pos (by omega)]; omega
    · rw [if_neg e]
      by_cases e2 : n = p
      · rw [if_pos e2, if_pos (by omega)]; omega
      · rw [if_neg e2, if_neg (by omega)]; omega
theorem ch_sum (l : List ND) (z : List Int) (k : Int) : ∀ d i, sm_ z (ixs_ l (fun n => decide (n.f0 = k)) d i) = sumN (fun c => if (rd_T50 l ((c + i : Nat) : Int)).f0 = k then rd z ((c + i : Nat) : Int) else 0) d := by
  intro d
  induction d with
  | zero => intro i; rfl
  | succ d ih =>
    intro i
    have hh : ∀ (f : Nat → Int) n, sumN f (n + 1) = f 0 + sumN (fun c => f (c + 1)) n := by
      intro f n
      induction n with
      | zero => simp only [sumN]; omega
      | succ n ih => rw [sumN, ih]; simp only [sumN]; omega
    rw [ixs_succ, hh]
    have e := ih (i + 1)
    rw [show (fun c : Nat => if (rd_T50 l ((c + (i + 1) : Nat) : Int)).f0 = k then rd z ((c + (i + 1) : Nat) : Int) else 0) = (fun c : Nat => if (rd_T50 l ((c + 1 + i : Nat) : Int)).f0 = k then rd z ((c + 1 + i : Nat) : Int) else 0) from by funext c; rw [show c + (i + 1) = c + 1 + i by omega]] at e
    rw [← e, Nat.zero_add]
    by_cases a : (rd_T50 l (i : Int)).f0 = k
    · rw [if_pos (by simpa using a), if_pos a, sm_]
    · rw [if_neg (by simpa using a), if_neg a]; omega
theorem ord_le {l : List ND} {s : List Int} (h : sizesOk_ l s = true) (hw : win_ l s 12 0 ≤ 65536) (k : Int) (h0 : 0 ≤ k) (h1 : k < (l.length : Int)) (hk : (kids_ l k).Nodup) (hm : ∀ c, c ∈ kids_ l k ↔ c ∈ ch_ l k) (hb : (rd_T50 l k).f2 = 0) : sm_ (wz_ l s) (ord_ l (wz_ l s) k) ≤ win_ l s 12 k := by
  rw [sm_ord (wz_ok h hw) k _ hk hm, sm_map]
  have t := (sizes_tree h).1
  have e : (kids_ l k).map (rd (wz_ l s)) = (kids_ l k).map (win_ l s 12) := List.map_congr_left (fun y hy => by
    have := kids_mem l t k y h0 h1 hy
    obtain ⟨j, rfl⟩ : ∃ j : Nat, y = (j : Int) := ⟨y.toNat, by omega⟩
    exact wz_at l s j (by omega))
  rw [e]
  exact (win_sum h k h0 h1 hb).2
def pws : Nat → List Int
  | 0 => [1]
  | j + 1 => 2 ^ (j + 1) :: pws j
def fl_ (l : List ND) (z : List Int) (k p : Int) (d i : Nat) : List Int := (ixs_ l (fun n => decide (n.f0 = k)) d i).filter (fun y => decide (rd z y = p))
theorem sp1 {l : List ND} {z : List Int} (h : Zok l z) (k p : Int) (p0 : 0 < p) (p1 : p ≤ 65536) (R : Option (List S73)) (B : Nat) : ∀ d i (b : Int → Int) (a : Int), i + d = l.length → 0 ≤ a → a + 65536 * (d : Int) ≤ 1000000000 →
    (∀ K, B < K → spec_l24Place.l0 K l (mkO l.length z (lay_ z (fl_ l z k p d i) b a)) k (a + sm_ z (fl_ l z k p d i)) (Int.tdiv p 2) = R) →
    ∀ K, B + d + 1 < K → spec_l24Place.l1 K l (mkO l.length z b) k a p (i : Int) = R := by
  have tl := tree_len h.1
  intro d
  induction d with
  | zero =>
    intro i b a hi h0 h1 hR K hK
    obtain ⟨K, rfl⟩ : ∃ m, K = m + 1 := ⟨K - 1, by omega⟩
    simp only [spec_l24Place.l1]
    have ht : Int.tdiv p 2 = p / 2 := Int.tdiv_eq_ediv_of_nonneg (by omega)
    rw [if_neg (by omega), wr (Int.tdiv p 2) (by omega) (by omega)]
    have := hR K (by omega)
    simpa [fl_, ixs_, lay_, sm_] using this
  | succ d ih =>
    intro i b a hi h0 h1 hR K hK
    obtain ⟨K, rfl⟩ : ∃ m, K = m + 1 := ⟨K - 1, by omega⟩
    simp only [spec_l24Place.l1]
    rw [if_pos (by omega), if_pos (by omega), wr ((i : Int) + 1) (by omega) (by omega), show (i : Int) + 1 = ((i + 1 : Nat) : Int) by omega, mkO_len, mkO_rd _ _ _ i (by omega)]
    unfold fl_ at hR
    rw [ixs_succ] at hR
    by_cases e : (rd_T50 l (i : Int)).f0 = k
    · rw [if_pos e, if_pos (by omega)]
      rw [if_pos (by simpa using e), List.filter_cons] at hR
      by_cases e2 : rd z (i : Int) = p
      · rw [if_pos (by simpa using e2), wr (a + p) (by omega) (by omega)]
        rw [if_pos (by simpa using e2)] at hR
        simp only [lay_, sm_] at hR
        rw [Int.toNat_natCast]
        subst e2
        rw [mkO_set l.length z b i a]
        exact ih (i + 1) _ (a + rd z (i : Int)) (by omega) (by omega) (by omega) (fun K' hK' => by have := hR K' hK'; rw [← Int.add_assoc] at this; exact this) K (by omega)
      · rw [if_neg (by simpa using e2)]
        rw [if_neg (by simpa using e2)] at hR
        exact ih (i + 1) _ a (by omega) h0 (by omega) hR K (by omega)
    · rw [if_neg e]
      rw [if_neg (by simpa using e)] at hR
      exact ih (i + 1) _ a (by omega) h0 (by omega) hR K (by omega)
theorem sm_flat {l : List ND} {z : List Int} (h : Zok l z) (k p : Int) : 0 ≤ sm_ z (fl_ l z k p (l.length - 1) 1) ∧ sm_ z (fl_ l z k p (l.length - 1) 1) ≤ 720896 := by
  have h1 := sm_le z 65536 (fl_ l z k p (l.length - 1) 1) (fun y _ => zok_bd h y)
  have h2 := List.length_filter_le (fun y => decide (rd z y = p)) (ixs_ l (fun n => decide (n.f0 = k)) (l.length - 1) 1)
  have h4 := ixs_len l (fun n => decide (n.f0 = k)) (l.length - 1) 1
  have h5 := tree_len h.1
  have e : (fl_ l z k p (l.length - 1) 1).length = ((ixs_ l (fun n => decide (n.f0 = k)) (l.length - 1) 1).filter (fun y => decide (rd z y = p))).length := rfl
  omega
theorem sp0 {l : List ND} {z : List Int} (h : Zok l z) (k : Int) (R : Option (List S73)) (B : Nat) : ∀ (j : Nat) (b : Int → Int) (a : Int), j ≤ 16 → 0 ≤ a → a + 720896 * ((j : Int) + 1) ≤ 900000000 →
    (∀ K, B < K → spec_l24Place.l2 K l (mkO l.length z (lay_ z ((pws j).flatMap (fun p => fl_ l z k p (l.length - 1) 1)) b a)) k 1 = R) →
    ∀ K, B + 14 * (j + 1) + 1 < K → spec_l24Place.l0 K l (mkO l.length z b) k a (2 ^ j) = R := by
  have tl := tree_len h.1
  have hp : ∀ j : Nat, j ≤ 16 → (0 : Int) < 2 ^ j ∧ (2 : Int) ^ j ≤ 65536 := fun j hj => by
    have : ∀ j : Nat, j < 17 → (0 : Int) < 2 ^ j ∧ (2 : Int) ^ j ≤ 65536 := by decide
    exact this j (by omega)
  intro j
  induction j with
  | zero =>
    intro b a hj h0 h1 hR K hK
    obtain ⟨K, rfl⟩ : ∃ m, K = m + 1 := ⟨K - 1, by omega⟩
    simp only [spec_l24Place.l0]
    have hq := hp 0 (by omega)
    have hs := sm_flat h k ((2 : Int) ^ 0)
    rw [if_pos hq.1]
    refine sp1 h k _ hq.1 hq.2 R (B + 1) (l.length - 1) 1 b a (by omega) h0 (by omega) (fun K' hK' => ?_) K (by omega)
    obtain ⟨K', rfl⟩ : ∃ m, K' = m + 1 := ⟨K' - 1, by omega⟩
    simp only [spec_l24Place.l0]
    rw [if_neg (by decide)]
    have := hR K' (by omega)
    simpa [pws] using this
  | succ j ih =>
    intro b a hj h0 h1 hR K hK
    obtain ⟨K, rfl⟩ : ∃ m, K = m + 1 := ⟨K - 1, by omega⟩
    simp only [spec_l24Place.l0]
    have hq := hp (j + 1) (by omega)
    have hq2 := hp j (by omega)
    have hs := sm_flat h k ((2 : Int) ^ (j + 1))
    rw [if_pos hq.1]
    refine sp1 h k _ hq.1 hq.2 R (B + 14 * (j + 1) + 1) (l.length - 1) 1 b a (by omega) h0 (by omega) (fun K' hK' => ?_) K (by omega)
    rw [show Int.tdiv ((2 : Int) ^ (j + 1)) 2 = 2 ^ j by rw [Int.pow_succ]; exact Int.mul_tdiv_cancel _ (by omega)]
    refine ih _ _ (by omega) (by omega) (by omega) (fun K2 hK2 => ?_) K' (by omega)
    have := hR K2 hK2
    rw [pws, List.flatMap_cons, lay_app] at this
    exact this
theorem pws_16 : pws 16 = pw2 := by decide
theorem sp2 {l : List ND} {z : List Int} (h : Zok l z) (k : Int) (k0 : 0 ≤ k) (R : Nat)
    (hf : ∀ c : Nat, k < (c : Int) → c < l.length → ∀ b : Int → Int, b (c : Int) = G_ l z 12 (c : Int) → Iv_ z b → ∃ b', (∀ K, R ≤ K → spec_l24Place.f K l (mkO l.length z b) (c : Int) = some (mkO l.length z b')) ∧ Ga_ l z b b' ∧ ∀ m, Dn_ l z b' m (c : Int)) :
    ∀ d i (b : Int → Int), i + d = l.length → 1 ≤ i → Iv_ z b → (∀ c : Nat, i ≤ c → c < l.length → (rd_T50 l (c : Int)).f0 = k → b (c : Int) = G_ l z 12 (c : Int)) →
    ∃ b', (∀ K, R + d < K → spec_l24Place.l2 K l (mkO l.length z b) k (i : Int) = some (mkO l.length z b')) ∧ Ga_ l z b b' ∧ ∀ c : Nat, i ≤ c → c < l.length → (rd_T50 l (c : Int)).f0 = k → ∀ m, Dn_ l z b' m (c : Int) := by
  have tl := tree_len h.1
  intro d
  induction d with
  | zero =>
    intro i b hi h1 hv hc
    refine ⟨b, fun K hK => ?_, ga_refl _ _ _, fun c c0 c1 => by omega⟩
    obtain ⟨K, rfl⟩ : ∃ m, K = m + 1 := ⟨K - 1, by omega⟩
    simp only [spec_l24Place.l2]
    rw [if_neg (by omega)]
  | succ d ih =>
    intro i b hi h1 hv hc
    have step : ∀ b1 : Int → Int, Ga_ l z b b1 → (∀ m, (rd_T50 l (i : Int)).f0 = k → Dn_ l z b1 m (i : Int)) → (∀ K, R + d + 1 < K + 1 → spec_l24Place.l2 (K + 1) l (mkO l.length z b) k (i : Int) = spec_l24Place.l2 K l (mkO l.length z b1) k ((i + 1 : Nat) : Int)) →
        ∃ b', (∀ K, R + (d + 1) < K → spec_l24Place.l2 K l (mkO l.length z b) k (i : Int) = some (mkO l.length z b')) ∧ Ga_ l z b b' ∧ ∀ c : Nat, i ≤ c → c < l.length → (rd_T50 l (c : Int)).f0 = k → ∀ m, Dn_ l z b' m (c : Int) := by
      intro b1 g1 d1 e1
      obtain ⟨b', e2, g2, d2⟩ := ih (i + 1) b1 (by omega) (by omega) (iv_keep g1 hv) (fun c c0 c1 c2 => ga_G g1 _ (hc c (by omega) c1 c2))
      refine ⟨b', fun K hK => ?_, ga_trans g1 g2, fun c c0 c1 c2 m => ?_⟩
      · obtain ⟨K, rfl⟩ : ∃ m, K = m + 1 := ⟨K - 1, by omega⟩
        rw [e1 K (by omega)]; exact e2 K (by omega)
      · by_cases ec : c = i
        · subst ec; exact dn_keep g2 m _ (d1 m c2)
        · exact d2 c (by omega) c1 c2 m
    by_cases e : (rd_T50 l (i : Int)).f0 = k
    · have hp := tree_parent h.1 i (by omega) (by omega)
      rw [e] at hp
      by_cases f2 : (rd_T50 l (i : Int)).f2 = 0
      · by_cases z0 : rd z (i : Int) > 0
        · obtain ⟨b1, e1, g1, d1⟩ := hf i (by omega) (by omega) b (hc i (by omega) (by omega) e) hv
          refine step b1 g1 (fun m _ => d1 m) (fun K hK => ?_)
          simp only [spec_l24Place.l2]
          rw [if_pos (by omega), if_pos (by omega), if_pos e, if_pos f2, mkO_len, if_pos (by omega), mkO_rd _ _ _ i (by omega), if_pos z0, e1 K (by omega), obs, wr ((i : Int) + 1) (by omega) (by omega), show (i : Int) + 1 = ((i + 1 : Nat) : Int) by omega]
        · have := zok_bd h (i : Int)
          refine step b (ga_refl _ _ _) (fun m _ => dn_zero h hv m _ (by omega)) (fun K hK => ?_)
          simp only [spec_l24Place.l2]
          rw [if_pos (by omega), if_pos (by omega), if_pos e, if_pos f2, mkO_len, if_pos (by omega), mkO_rd _ _ _ i (by omega), if_neg z0, wr ((i : Int) + 1) (by omega) (by omega), show (i : Int) + 1 = ((i + 1 : Nat) : Int) by omega]
      · refine step b (ga_refl _ _ _) (fun m _ => dn_leaf h m _ f2) (fun K hK => ?_)
        simp only [spec_l24Place.l2]
        rw [if_pos (by omega), if_pos (by omega), if_pos e, if_neg f2, wr ((i : Int) + 1) (by omega) (by omega), show (i : Int) + 1 = ((i + 1 : Nat) : Int) by omega]
    · refine step b (ga_refl _ _ _) (fun m hm => absurd hm e) (fun K hK => ?_)
      simp only [spec_l24Place.l2]
      rw [if_pos (by omega), if_pos (by omega), if_neg e, wr ((i : Int) + 1) (by omega) (by omega), show (i : Int) + 1 = ((i + 1 : Nat) : Int) by omega]
theorem laid_G {l : List ND} {z : List Int} (h : Zok l z) (k : Int) (c : Nat) (hc : (c : Int) ∈ ord_ l z k) : G_ l z 12 (c : Int) = G_ l z 12 k + pre_ z (ord_ l z k) (c : Int) := by
  obtain ⟨h1, h2⟩ := (ord_mem l z k _).1 hc
  obtain ⟨j, e, j0, j1, j2⟩ := ch_mem l k _ h1
  obtain rfl : c = j := by omega
  have := pw2_bd _ h2
  rw [G_at h c j0 j1 (by omega), j2]
theorem sp_eq {l : List ND} {z : List Int} (h : Zok l z) : ∀ (n : Nat) (c : Nat), c < l.length → l.length - c ≤ n → ∀ b : Int → Int, b (c : Int) = G_ l z 12 (c : Int) → Iv_ z b →
    ∃ b', (∀ K, 300 * n ≤ K → spec_l24Place.f K l (mkO l.length z b) (c : Int) = some (mkO l.length z b')) ∧ Ga_ l z b b' ∧ ∀ m, Dn_ l z b' m (c : Int) := by
  have tl := tree_len h.1
  intro n
  induction n with
  | zero => intro c h0 h1; omega
  | succ n ih =>
    intro c c0 c1 b hb hv
    have hG := G_bd h 12 c c0
    have ho : (pws 16).flatMap (fun p => fl_ l z (c : Int) p (l.length - 1) 1) = ord_ l z (c : Int) := by rw [pws_16]; rfl
    have g1 : Ga_ l z b (lay_ z (ord_ l z (c : Int)) b (G_ l z 12 (c : Int))) := fun j => by
      by_cases hj : j ∈ ord_ l z (c : Int)
      · obtain ⟨h1, h2⟩ := (ord_mem l z _ _).1 hj
        obtain ⟨j', e, j0, j1, j2⟩ := ch_mem l _ _ h1
        subst e
        exact .inr (by rw [lay_in z _ _ _ _ (bf_nodup z _ (ord_pw l z _)) hj, laid_G h _ _ hj])
      · exact .inl (lay_not z j _ _ _ hj)
    have hch : ∀ d : Nat, 1 ≤ d → d < l.length → (rd_T50 l (d : Int)).f0 = (c : Int) → lay_ z (ord_ l z (c : Int)) b (G_ l z 12 (c : Int)) (d : Int) = G_ l z 12 (d : Int) := fun d d0 d1 d2 => by
      by_cases hj : (d : Int) ∈ ord_ l z (c : Int)
      · rw [lay_in z _ _ _ _ (bf_nodup z _ (ord_pw l z _)) hj, laid_G h _ _ hj]
      · have hz : rd z (d : Int) = 0 := by
          rcases h.2.1 (d : Int) with e | e
          · exact e
          · exact absurd ((ord_mem l z _ _).2 ⟨ch_of l _ d (by omega) d1 d2, e⟩) hj
        rw [lay_not z _ _ _ _ hj, hv _ hz, G_zero _ hz]
    obtain ⟨b', e2, g2, d2⟩ := sp2 h (c : Int) (by omega) (300 * n) (fun c' h1 h2 b' h3 h4 => ih c' (by omega) (by omega) b' h3 h4) (l.length - 1) 1 _ (by omega) (by omega) (iv_keep g1 hv) hch
    refine ⟨b', fun K hK => ?_, ga_trans g1 g2, fun m => ?_⟩
    · obtain ⟨K, rfl⟩ : ∃ m, K = m + 1 := ⟨K - 1, by omega⟩
      simp only [spec_l24Place.f]
      rw [if_pos (by omega), mkO_len, if_pos (by omega), mkO_rd _ _ _ c c0, hb]
      exact sp0 h (c : Int) _ (300 * n + (l.length - 1)) 16 b _ (by omega) hG.1 (by omega) (fun K' hK' => by rw [ho]; exact e2 K' (by omega)) K (by omega)
    · cases m with
      | zero => trivial
      | succ m => exact fun d d0 d1 d3 => ⟨ga_G g2 _ (hch d (by omega) d1 d3), d2 d (by omega) d1 d3 m⟩
theorem fin_G {l : List ND} {z : List Int} (h : Zok l z) {b : Int → Int} (h0 : b 0 = 0) (hd : ∀ m, Dn_ l z b m 0) : mkO l.length z b = mkO l.length z (G_ l z 12) :=
  mkO_ext _ _ _ _ (fun j hj => by
    by_cases e : j = 0
    · subst e; exact h0.trans G_root.symm
    · exact (dn_all h j (by omega) hj 0 (hd _)).1)
theorem mkO_f0 (n : Nat) (z : List Int) (b : Int → Int) (hz : z.length = n) (x : Int) : (rd_T73 (mkO n z b) x).f0 = rd z x := by
  have e1 : rd_T73 (mkO n z b) x = rd_T73 (mkO n z b) ((x.toNat : Nat) : Int) := by show (mkO n z b).getD x.toNat _ = (mkO n z b).getD ((x.toNat : Nat) : Int).toNat _; rw [Int.toNat_natCast]
  have e2 : rd z x = rd z ((x.toNat : Nat) : Int) := by unfold rd; rw [Int.toNat_natCast]
  rw [e1, e2]
  by_cases h : x.toNat < n
  · rw [mkO_rd _ _ _ _ h]
  · have h1 : rd z ((x.toNat : Nat) : Int) = 0 := by unfold rd; rw [Int.toNat_natCast, List.getD_eq_getElem?_getD, List.getElem?_eq_none (by omega)]; rfl
    rw [h1]
    have h2 : (mkO n z b).getD ((x.toNat : Nat) : Int).toNat z73 = z73 := by rw [Int.toNat_natCast, List.getD_eq_getElem?_getD, List.getElem?_eq_none (by rw [mkO_len]; omega)]; rfl
    have h3 : rd_T73 (mkO n z b) ((x.toNat : Nat) : Int) = z73 := h2
    rw [h3]; rfl
theorem le_lex (n : Nat) (z : List Int) (b : Int → Int) (hz : z.length = n) : slices_SortFunc_int_int_impl_allocate_1.le (mkO n z b) = lex_ z := by
  funext x y
  unfold slices_SortFunc_int_int_impl_allocate_1.le slices_SortFunc_int_int_impl_allocate_1.cf slices_SortFunc_int_int_impl_allocate_1.sz lex_
  rw [mkO_f0 n z b hz, mkO_f0 n z b hz]
  rw [Bool.eq_iff_iff, decide_eq_true_iff, decide_eq_true_iff]
  by_cases h1 : rd z x < rd z y
  · rw [if_pos h1]; omega
  · rw [if_neg h1]
    by_cases h2 : rd z x > rd z y
    · rw [if_pos h2]; omega
    · rw [if_neg h2]
      by_cases h3 : y < x
      · rw [if_pos h3]; omega
      · rw [if_neg h3]
        by_cases h4 : y > x
        · rw [if_pos h4]; omega
        · rw [if_neg h4]; omega
theorem take_at (S : List Int) (i : Nat) (h : i < S.length) : S.take (i + 1) = S.take i ++ [S[i]] ∧ S = S.take i ++ S[i] :: S.drop (i + 1) := by
  constructor
  · rw [List.take_succ_eq_append_getElem h]
  · rw [← List.drop_eq_getElem_cons h, List.take_append_drop]
theorem ip0 {l : List ND} {z : List Int} (h : Zok l z) (k : Nat) (k1 : k < l.length) (S : List Int) (hlen : S.length ≤ 11) (hS : ∀ c ∈ S, c ∈ ch_ l (k : Int)) (hord : S.filter (fun y => decide (rd z y ≠ 0)) = ord_ l z (k : Int)) (R : Nat)
    (hf : ∀ c : Nat, k < c → c < l.length → ∀ b : Int → Int, b (c : Int) = G_ l z 12 (c : Int) → Iv_ z b → ∃ b', (∀ K, R ≤ K → impl_allocate.f K l (mkO l.length z b) (c : Int) = some (mkO l.length z b')) ∧ Ga_ l z b b' ∧ ∀ m, Dn_ l z b' m (c : Int)) :
    ∀ d i (b : Int → Int), i + d = S.length → Iv_ z b →
    ∃ b', (∀ K, R + 2 * d < K → impl_allocate.l0 K l (G_ l z 12 (k : Int) + sm_ z (S.take i)) S (S.length : Int) (i : Int) (mkO l.length z b) = some (mkO l.length z b')) ∧ Ga_ l z b b' ∧ ∀ c ∈ S.drop i, b' c = G_ l z 12 c ∧ ∀ m, Dn_ l z b' m c := by
  have tl := tree_len h.1
  have hGk := G_bd h 12 k k1
  intro d
  induction d with
  | zero =>
    intro i b hi hv
    refine ⟨b, fun K hK => ?_, ga_refl _ _ _, fun c hc => ?_⟩
    · obtain ⟨K, rfl⟩ : ∃ m, K = m + 1 := ⟨K - 1, by omega⟩
      simp only [impl_allocate.l0]
      rw [if_neg (by omega)]
    · rw [List.drop_of_length_le (by omega)] at hc; simp at hc
  | succ d ih =>
    intro i b hi hv
    have hil : i < S.length := by omega
    obtain ⟨t1, t2⟩ := take_at S i hil
    have hci : S[i] ∈ ch_ l (k : Int) := hS _ (List.getElem_mem hil)
    obtain ⟨j, ej, j0, j1, j2⟩ := ch_mem l _ _ hci
    have hp := tree_parent h.1 j j0 j1
    rw [j2] at hp
    have hbz := zok_bd h (j : Int)
    have hst := sm_le z 65536 (S.take i) (fun y _ => zok_bd h y)
    have hsl : (S.take i).length ≤ 11 := by rw [List.length_take]; omega
    have hst1 : sm_ z (S.take (i + 1)) = sm_ z (S.take i) + rd z (j : Int) := by rw [t1, sm_app, ej]; simp [sm_]
    -- what stands before the call
    have main : ∀ b1 : Int → Int, Ga_ l z b b1 → b1 (j : Int) = G_ l z 12 (j : Int) → (∀ K, R + 2 * d + 2 < K + 1 → impl_allocate.l0 (K + 1) l (G_ l z 12 (k : Int) + sm_ z (S.take i)) S (S.length : Int) (i : Int) (mkO l.length z b) = impl_allocate.j1 K l (G_ l z 12 (k : Int) + sm_ z (S.take (i + 1))) (j : Int) S (S.length : Int) (i : Int) (mkO l.length z b1)) →
        ∃ b', (∀ K, R + 2 * (d + 1) < K → impl_allocate.l0 K l (G_ l z 12 (k : Int) + sm_ z (S.take i)) S (S.length : Int) (i : Int) (mkO l.length z b) = some (mkO l.length z b')) ∧ Ga_ l z b b' ∧ ∀ c ∈ S.drop i, b' c = G_ l z 12 c ∧ ∀ m, Dn_ l z b' m c := by
      intro b1 g1 hb1 e1
      obtain ⟨b2, e2, g2, d2⟩ : ∃ b2, (∀ K, R + 2 * d + 1 < K + 1 → impl_allocate.j1 (K + 1) l (G_ l z 12 (k : Int) + sm_ z (S.take (i + 1))) (j : Int) S (S.length : Int) (i : Int) (mkO l.length z b1) = impl_allocate.l0 K l (G_ l z 12 (k : Int) + sm_ z (S.take (i + 1))) S (S.length : Int) ((i + 1 : Nat) : Int) (mkO l.length z b2)) ∧ Ga_ l z b1 b2 ∧ ∀ m, Dn_ l z b2 m (j : Int) := by
        by_cases f2 : (rd_T50 l (j : Int)).f2 = 0
        · obtain ⟨b2, e2, g2, d2⟩ := hf j (by omega) j1 b1 hb1 (iv_keep g1 hv)
          refine ⟨b2, fun K hK => ?_, g2, d2⟩
          simp only [impl_allocate.j1]
          rw [bridge_eq l j j1, obs, if_pos (by rw [f2]; rfl), e2 K (by omega), obs, wr ((i : Int) + 1) (by omega) (by omega), show (i : Int) + 1 = ((i + 1 : Nat) : Int) by omega]
        · refine ⟨b1, fun K hK => ?_, ga_refl _ _ _, fun m => dn_leaf h m _ f2⟩
          simp only [impl_allocate.j1]
          rw [bridge_eq l j j1, obs, if_neg (by simpa using f2), wr ((i : Int) + 1) (by omega) (by omega), show (i : Int) + 1 = ((i + 1 : Nat) : Int) by omega]
      obtain ⟨b', e3, g3, d3⟩ := ih (i + 1) b2 (by omega) (iv_keep g2 (iv_keep g1 hv))
      refine ⟨b', fun K hK => ?_, ga_trans g1 (ga_trans g2 g3), fun c hc => ?_⟩
      · obtain ⟨K, rfl⟩ : ∃ m, K = m + 2 := ⟨K - 2, by omega⟩
        rw [e1 (K + 1) (by omega), e2 K (by omega)]
        exact e3 K (by omega)
      · rw [List.drop_eq_getElem_cons hil, ej] at hc
        rcases List.mem_cons.1 hc with rfl | hc
        · exact ⟨ga_G g3 _ (ga_G g2 _ hb1), fun m => dn_keep g3 m _ (d2 m)⟩
        · exact d3 c hc
    have hrd : rd S (i : Int) = (j : Int) := by rw [rd_nat S i hil]; exact ej
    by_cases hz : rd z (j : Int) = 0
    · refine main b (ga_refl _ _ _) (by rw [hv _ hz, G_zero _ hz]) (fun K hK => ?_)
      simp only [impl_allocate.l0]
      rw [if_pos (by omega), if_pos (by omega), if_pos (by omega), hrd, if_pos (by omega), mkO_len, if_pos (by omega), mkO_rd _ _ _ j j1, if_neg (by show ¬ rd z (j : Int) > 0; omega), hst1, hz, Int.add_zero]
    · have hG : G_ l z 12 (j : Int) = G_ l z 12 (k : Int) + sm_ z (S.take i) := by
        have e1 : ord_ l z (k : Int) = (S.take i).filter (fun y => decide (rd z y ≠ 0)) ++ (j : Int) :: (S.drop (i + 1)).filter (fun y => decide (rd z y ≠ 0)) := by
          rw [← hord]
          have t3 := congrArg (List.filter (fun y => decide (rd z y ≠ 0))) t2
          rw [List.filter_append, List.filter_cons, ej, if_pos (by simpa using hz)] at t3
          exact t3
        have hn := bf_nodup z _ (ord_pw l z (k : Int))
        have hm : (j : Int) ∈ ord_ l z (k : Int) := by rw [e1]; simp
        have hn2 := hn
        rw [e1, List.nodup_append] at hn2
        have hni : (j : Int) ∉ (S.take i).filter (fun y => decide (rd z y ≠ 0)) := fun hh => hn2.2.2 _ hh _ List.mem_cons_self rfl
        rw [laid_G h _ _ hm, e1, pre_app z _ _ _ hni, sm_filter]
      refine main (updI b (j : Int) (G_ l z 12 (k : Int) + sm_ z (S.take i))) (fun x => ?_) (by rw [updI, if_pos rfl, hG]) (fun K hK => ?_)
      · unfold updI
        by_cases e : x = (j : Int)
        · rw [if_pos e]; exact .inr (by rw [e, hG])
        · rw [if_neg e]; exact .inl rfl
      · simp only [impl_allocate.l0]
        rw [if_pos (by omega), if_pos (by omega), if_pos (by omega), hrd, if_pos (by omega), mkO_len, if_pos (by omega), mkO_rd _ _ _ j j1, if_pos (by show rd z (j : Int) > 0; omega), Int.toNat_natCast, mkO_set, obs, mkO_rd _ _ _ j j1]
        dsimp only
        rw [hst1, wr _ (by omega) (by omega), Int.add_assoc]
theorem ip_eq {l : List ND} {z : List Int} (h : Zok l z) (hz : z.length = l.length) : ∀ (n : Nat) (c : Nat), c < l.length → l.length - c ≤ n → ∀ b : Int → Int, b (c : Int) = G_ l z 12 (c : Int) → Iv_ z b →
    ∃ b', (∀ K, 600 + 30 * n ≤ K → impl_allocate.f K l (mkO l.length z b) (c : Int) = some (mkO l.length z b')) ∧ Ga_ l z b b' ∧ ∀ m, Dn_ l z b' m (c : Int) := by
  have tl := tree_len h.1
  intro n
  induction n with
  | zero => intro c h0 h1; omega
  | succ n ih =>
    intro c c0 c1 b hb hv
    obtain ⟨kn, km⟩ := kids_ch h.1 (c : Int) (by omega) (by omega)
    have kl := kids_len11 h.1 (c : Int) (by omega) (by omega)
    have hp : ((kids_ l (c : Int)).mergeSort (lex_ z)).Perm (kids_ l (c : Int)) := List.mergeSort_perm _ _
    have hml : ((kids_ l (c : Int)).mergeSort (lex_ z)).length = (kids_ l (c : Int)).length := hp.length_eq
    have hord := sorted_ord h (c : Int) ((kids_ l (c : Int)).mergeSort (lex_ z)) ((hp.nodup_iff).2 kn) (fun x => by rw [hp.mem_iff]; exact km x) (lex_srt z _)
    obtain ⟨b', e2, g2, d2⟩ := ip0 h c c0 ((kids_ l (c : Int)).mergeSort (lex_ z)) (by omega) (fun x hx => (km x).1 (hp.mem_iff.1 hx)) hord (600 + 30 * n) (fun c' h1 h2 b' h3 h4 => ih c' (by omega) (by omega) b' h3 h4) (kids_ l (c : Int)).length 0 b (by omega) hv
    refine ⟨b', fun K hK => ?_, g2, fun m => ?_⟩
    · obtain ⟨K, rfl⟩ : ∃ m, K = m + 1 := ⟨K - 1, by omega⟩
      simp only [impl_allocate.f]
      rw [ikids_eq l _ (by omega) K (by omega), obs]
      unfold slices_SortFunc_int_int_impl_allocate_1.f
      rw [le_lex _ z b hz, mkO_len, if_pos (by
        rw [Bool.and_eq_true, decide_eq_true_eq, List.all_eq_true]
        exact ⟨by omega, fun x hx => decide_eq_true (by obtain ⟨j, e, j0, j1, _⟩ := ch_mem l _ _ ((km x).1 hx); omega)⟩), obs, if_pos (by omega), if_pos (by omega), mkO_rd _ _ _ c c0, hb]
      have := e2 K (by omega)
      rw [List.take_zero, hml] at this
      simpa [sm_] using this
    · cases m with
      | zero => trivial
      | succ m =>
        exact fun d d0 d1 d3 => by
          have := d2 (d : Int) (by rw [List.drop_zero]; exact hp.mem_iff.2 ((km _).2 (ch_of l _ d d0 d1 d3)))
          exact ⟨this.1, this.2 m⟩
theorem mkO_snoc (n : Nat) (z : List Int) (b : Int → Int) : mkO (n + 1) z b = mkO n z b ++ [⟨rd z (n : Int), b (n : Int)⟩] := by
  unfold mkO; rw [List.range_succ, List.map_append]; rfl
def alloc_ (l : List ND) (s : List Int) : List S73 × Bool := if sizesOk_ l s = true then (if win_ l s 12 0 ≤ 65536 then (mkO l.length (wz_ l s) (G_ l (wz_ l s) 12), true) else ([], false)) else ([], false)
theorem splace_eq {l : List ND} {s : List Int} (h : sizesOk_ l s = true) (hw : win_ l s 12 0 ≤ 65536) (K : Nat) (hK : 3600 ≤ K) : spec_l24Place.f K l (mkO l.length (wz_ l s) (fun _ => 0)) 0 = some (mkO l.length (wz_ l s) (G_ l (wz_ l s) 12)) := by
  have hz := wz_ok h hw
  have tl := tree_len hz.1
  obtain ⟨b', e, g, d⟩ := sp_eq hz 12 0 (by omega) (by omega) (fun _ => 0) (by exact G_root.symm) (fun _ _ => rfl)
  have h0 : b' 0 = 0 := by rcases g 0 with e | e; exact e; exact e.trans G_root
  have := e K hK
  rw [fin_G hz h0 d] at this
  exact this
theorem iplace_eq {l : List ND} {s : List Int} (h : sizesOk_ l s = true) (hw : win_ l s 12 0 ≤ 65536) (K : Nat) (hK : 960 ≤ K) : impl_allocate.f K l (mkO l.length (wz_ l s) (fun _ => 0)) 0 = some (mkO l.length (wz_ l s) (G_ l (wz_ l s) 12)) := by
  have hz := wz_ok h hw
  have tl := tree_len hz.1
  obtain ⟨b', e, g, d⟩ := ip_eq hz (wz_len l s) 12 0 (by omega) (by omega) (fun _ => 0) (by exact G_root.symm) (fun _ _ => rfl)
  have h0 : b' 0 = 0 := by rcases g 0 with e | e; exact e; exact e.trans G_root
  have := e K hK
  rw [fin_G hz h0 d] at this
  exact this
theorem sal0_eq {l : List ND} {s : List Int} (h : sizesOk_ l s = true) (hw : win_ l s 12 0 ≤ 65536) : ∀ d i K, i + d = l.length → 4000 + d < K → spec_Allocate.l0 K l s (mkO i (wz_ l s) (fun _ => 0)) (i : Int) = some (mkO l.length (wz_ l s) (G_ l (wz_ l s) 12), true) := by
  have t := (sizes_tree h).1
  have tl := tree_len t
  intro d
  induction d with
  | zero =>
    intro i K hi hK
    obtain ⟨K, rfl⟩ : ∃ m, K = m + 1 := ⟨K - 1, by omega⟩
    obtain rfl : i = l.length := by omega
    simp only [spec_Allocate.l0]
    rw [if_neg (by omega), splace_eq h hw K (by omega), obs]
  | succ d ih =>
    intro i K hi hK
    obtain ⟨K, rfl⟩ : ∃ m, K = m + 1 := ⟨K - 1, by omega⟩
    simp only [spec_Allocate.l0]
    rw [if_pos (by omega), swin_eq h 12 (i : Int) K (by omega) (by omega) (by omega) (by omega), obs, mkO_len, if_pos (by omega), wr ((i : Int) + 1) (by omega) (by omega), show (i : Int) + 1 = ((i + 1 : Nat) : Int) by omega]
    have e := mkO_snoc i (wz_ l s) (fun _ => 0)
    rw [wz_at l s i (by omega)] at e
    rw [← e]
    exact ih (i + 1) K (by omega) (by omega)
theorem ial0_eq {l : List ND} {s : List Int} (h : sizesOk_ l s = true) (hw : win_ l s 12 0 ≤ 65536) : ∀ d i K, i + d = l.length → 4000 + d < K → impl_Allocate.l0 K l s (mkO i (wz_ l s) (fun _ => 0)) (l.length : Int) (i : Int) = some (mkO l.length (wz_ l s) (G_ l (wz_ l s) 12), true) := by
  have t := (sizes_tree h).1
  have tl := tree_len t
  intro d
  induction d with
  | zero =>
    intro i K hi hK
    obtain ⟨K, rfl⟩ : ∃ m, K = m + 1 := ⟨K - 1, by omega⟩
    obtain rfl : i = l.length := by omega
    simp only [impl_Allocate.l0]
    rw [if_neg (by omega), iplace_eq h hw K (by omega), obs]
  | succ d ih =>
    intro i K hi hK
    obtain ⟨K, rfl⟩ : ∃ m, K = m + 1 := ⟨K - 1, by omega⟩
    simp only [impl_Allocate.l0]
    rw [if_pos (by omega), iwin_eq h 12 (i : Int) K (by omega) (by omega) (by omega) (by omega), obs, mkO_len, if_pos (by omega), wr ((i : Int) + 1) (by omega) (by omega), show (i : Int) + 1 = ((i + 1 : Nat) : Int) by omega]
    have e := mkO_snoc i (wz_ l s) (fun _ => 0)
    rw [wz_at l s i (by omega)] at e
    rw [← e]
    exact ih (i + 1) K (by omega) (by omega)
theorem salloc_eq (l : List ND) (s : List Int) (hl : l.length ≤ 9223372036854775807) (K : Nat) (hK : 5000 < K) : spec_Allocate.f K l s = some (alloc_ l s) := by
  obtain ⟨K, rfl⟩ : ∃ m, K = m + 1 := ⟨K - 1, by omega⟩
  unfold spec_Allocate.f alloc_
  rw [ssizes_eq l s hl _ (by omega), obs]
  by_cases h : sizesOk_ l s = true
  · have tl := tree_len (sizes_tree h).1
    rw [if_pos h, if_pos h, swin_eq h 12 0 _ (by omega) (by omega) (by omega) (by omega), obs]
    simp only [spec_Allocate.j0]
    by_cases hw : win_ l s 12 0 ≤ 65536
    · rw [if_neg (by simp; omega), if_pos hw]
      exact sal0_eq h hw l.length 0 K (by omega) (by omega)
    · rw [if_pos (by simp; omega), if_neg hw]
  · rw [if_neg h, if_neg h]
    simp only [spec_Allocate.j0]
    rw [if_pos trivial]
theorem ialloc_eq (l : List ND) (s : List Int) (hl : l.length ≤ 9223372036854775807) (K : Nat) (hK : 5000 < K) : impl_Allocate.f K l s = some (alloc_ l s) := by
  obtain ⟨K, rfl⟩ : ∃ m, K = m + 1 := ⟨K - 1, by omega⟩
  unfold impl_Allocate.f alloc_
  rw [isizes_eq l s hl _ (by omega), obs]
  by_cases h : sizesOk_ l s = true
  · have tl := tree_len (sizes_tree h).1
    rw [if_pos h, if_pos h, iwin_eq h 12 0 _ (by omega) (by omega) (by omega) (by omega), obs]
    simp only [impl_Allocate.j0]
    by_cases hw : win_ l s 12 0 ≤ 65536
    · rw [if_neg (by simp; omega), if_pos hw]
      exact ial0_eq h hw l.length 0 K (by omega) (by omega)
    · rw [if_pos (by simp; omega), if_neg hw]
  · rw [if_neg h, if_neg h]
    simp only [impl_Allocate.j0]
    rw [if_pos trivial]
theorem and255 (x : Int) : 0 ≤ Go.bits .and .i64 x 255 ∧ Go.bits .and .i64 x 255 ≤ 255 := by
  have h1 : (BitVec.ofInt 64 x &&& BitVec.ofInt 64 255).toNat ≤ 255 := by
    rw [BitVec.toNat_and]
    exact Nat.le_trans Nat.and_le_right (by decide)
  have h2 : Go.bits .and .i64 x 255 = IntKind.i64.wrap ((BitVec.ofInt 64 x &&& BitVec.ofInt 64 255).toNat : Int) := rfl
  rw [h2, Go.IntKind.wrap_i64]
  omega
theorem byte_some (s : List Int) (i h : Int) (hs : s.length ≤ 1048576) (h0 : 0 ≤ i) (h1 : i ≤ s.length) :
    ∃ x i' h', spec_l01Byte.f s i h = some (x, i', h') ∧ 0 ≤ x ∧ x ≤ 255 ∧ 0 ≤ i' ∧ i' ≤ s.length := by
  unfold spec_l01Byte.f
  by_cases hlt : i < (s.length : Int)
  · rw [if_pos hlt, if_pos h0]
    refine ⟨_, _, _, rfl, (and255 _).1, (and255 _).2, ?_, ?_⟩ <;> rw [wr _ (by omega) (by omega)] <;> omega
  · rw [if_neg hlt]
    exact ⟨_, _, _, rfl, (and255 _).1, (and255 _).2, h0, h1⟩
theorem below_some (s : List Int) (i h n : Int) (hs : s.length ≤ 1048576) (h0 : 0 ≤ i) (h1 : i ≤ s.length) (hn : 0 < n) (hm : n ≤ 4294967296) :
    ∃ x i' h', spec_l01Below.f s i h n = some (x, i', h') ∧ 0 ≤ x ∧ x < n ∧ 0 ≤ i' ∧ i' ≤ s.length := by
  unfold spec_l01Below.f
  rw [if_neg (by omega)]
  by_cases hlt : n ≤ 256
  · rw [if_pos hlt]
    obtain ⟨x, i1, h1', e, x0, x1, i0, i2⟩ := byte_some s i h hs h0 h1
    rw [e]
    simp only [Option.bind_some]
    rw [if_neg (by omega)]
    refine ⟨_, _, _, rfl, ?_, ?_, i0, i2⟩
    · exact Int.tmod_nonneg _ x0
    · exact Int.tmod_lt_of_pos _ hn
  · rw [if_neg hlt]
    obtain ⟨x, i1, h1', e, x0, x1, i0, i2⟩ := byte_some s i h hs h0 h1
    obtain ⟨y, i3, h3', e3, y0, y1, i4, i5⟩ := byte_some s i1 h1' hs i0 i2
    obtain ⟨z, i6, h6', e6, z0, z1, i7, i8⟩ := byte_some s i3 h3' hs i4 i5
    obtain ⟨w, i9, h9', e9, w0, w1, i10, i11⟩ := byte_some s i6 h6' hs i7 i8
    simp only [e, e3, e6, e9, Option.bind_some]
    rw [if_neg (by omega)]
    refine ⟨_, _, _, rfl, ?_, ?_, i10, i11⟩
    · rw [wr (x * 16777216) (by omega) (by omega), wr (y * 65536) (by omega) (by omega), wr (z * 256) (by omega) (by omega), wr (x * 16777216 + y * 65536) (by omega) (by omega), wr (x * 16777216 + y * 65536 + z * 256) (by omega) (by omega), wr _ (by omega) (by omega)]
      exact Int.tmod_nonneg _ (by omega)
    · exact Int.tmod_lt_of_pos _ hn
theorem new_some (k : Nat) (s : List Int) (hs : s.length ≤ 1048576) (hk : 4000 < k) : ∃ h, spec_l01New.f k s = some (s, 0, h) := by
  have key : ∀ d k (h : Int) (i : Nat), i + d = 4000 → d < k → ∃ h', spec_l01New.l0 k s h (i : Int) = some (s, 0, h') := by
    intro d
    induction d with
    | zero =>
      intro k h i hi hk
      obtain ⟨k, rfl⟩ : ∃ m, k = m + 1 := ⟨k - 1, by omega⟩
      simp only [spec_l01New.l0]
      rw [if_neg (show ¬ ((i : Int) < 4000) by omega)]
      split <;> exact ⟨_, rfl⟩
    | succ d ih =>
      intro k h i hi hk
      obtain ⟨k, rfl⟩ : ∃ m, k = m + 1 := ⟨k - 1, by omega⟩
      simp only [spec_l01New.l0]
      by_cases hlt : (i : Int) < s.length
      · rw [if_pos hlt, if_pos (by omega), if_pos (by omega), wr ((i : Int) + 1) (by omega) (by omega)]
        exact ih k _ (i + 1) (by omega) (by omega)
      · rw [if_neg hlt]; exact ⟨_, rfl⟩
  exact key 4000 k _ 0 (by omega) hk
theorem pick_some (s : List Int) (i h : Int) (l : List Int) (hs : s.length ≤ 1048576) (h0 : 0 ≤ i) (h1 : i ≤ s.length) (hl : 0 < l.length) (hm : l.length ≤ 4294967296) :
    ∃ x i' h', spec_l01PickInt.f s i h l = some (x, i', h') ∧ x ∈ l ∧ 0 ≤ i' ∧ i' ≤ s.length := by
  unfold spec_l01PickInt.f
  obtain ⟨x, i1, h1', e, x0, x1, i0, i2⟩ := below_some s i h l.length hs h0 h1 (by omega) (by omega)
  rw [e]
  simp only [Option.bind_some]
  rw [if_pos x0, if_pos x1]
  refine ⟨_, _, _, rfl, ?_, i0, i2⟩
  obtain ⟨m, rfl⟩ := Int.eq_ofNat_of_zero_le x0
  rw [rd_nat _ _ (by omega)]
  exact List.getElem_mem _
theorem tree_one : tree_ [(⟨(-1), 0, 0⟩ : ND)] = true := by decide
theorem l19Tree_some (s : List Int) (hs : s.length ≤ 1048576) : ∀ (d K i : Nat) (t : List ND) (j h : Int), i + d = 10 → d + 300 < K → tree_ t = true → 0 ≤ j → j ≤ s.length →
    ∃ t' j' h', spec_l19Tree.l0 K t (i : Int) s j h = some (t', j', h') ∧ tree_ t' = true ∧ 0 ≤ j' ∧ j' ≤ s.length := by
  intro d
  induction d with
  | zero =>
    intro K i t j h hi hK ht h0 h1
    obtain ⟨K, rfl⟩ : ∃ m, K = m + 1 := ⟨K - 1, by omega⟩
    obtain ⟨x, j1, h1', e, x0, x1, i0, i2⟩ := below_some s j h 8 hs h0 h1 (by omega) (by omega)
    simp only [spec_l19Tree.l0]
    rw [e, obs, wr (3 + x) (by omega) (by omega), if_neg (by omega)]
    exact ⟨_, _, _, rfl, ht, i0, i2⟩
  | succ d ih =>
    intro K i t j h hi hK ht h0 h1
    obtain ⟨K, rfl⟩ : ∃ m, K = m + 1 := ⟨K - 1, by omega⟩
    have hl := tree_len ht
    obtain ⟨x, j1, h1', e, x0, x1, i0, i2⟩ := below_some s j h 8 hs h0 h1 (by omega) (by omega)
    simp only [spec_l19Tree.l0]
    rw [e, obs, wr (3 + x) (by omega) (by omega)]
    by_cases hlt : (i : Int) < 3 + x
    · rw [if_pos hlt]
      obtain ⟨a, j3, h3, ea, a0, a1, a2, a3⟩ := below_some s j1 h1' (t.length : Int) hs i0 i2 (by omega) (by omega)
      obtain ⟨b, j4, h4, eb, b0, b1, b2, b3⟩ := below_some s j3 h3 4 hs a2 a3 (by omega) (by omega)
      obtain ⟨c, j5, h5, ec, c0, c1, c2⟩ := pick_some s j4 h4 [0, 0, 1, 1, 2, 4] hs b2 b3 (by simp) (by simp)
      rw [ea, obs, eb, obs, ec, obs, obs, if_pos (by simp; omega), obs, obs, if_pos (by simp; omega), obs, stree_eq _ (by simp; omega) K (by omega), obs, wr ((i : Int) + 1) (by omega) (by omega), show (i : Int) + 1 = ((i + 1 : Nat) : Int) by omega]
      by_cases hok : tree_ (([] : List ND) ++ t ++ [(⟨a, b, c⟩ : ND)]) = true
      · rw [if_pos hok]
        exact ih K (i + 1) _ _ _ (by omega) (by omega) hok c1 c2
      · rw [if_neg hok]
        exact ih K (i + 1) _ _ _ (by omega) (by omega) ht c1 c2
    · rw [if_neg hlt]
      exact ⟨_, _, _, rfl, ht, i0, i2⟩
theorem pick6 (s : List Int) (i h : Int) (hs : s.length ≤ 1048576) (h0 : 0 ≤ i) (h1 : i ≤ s.length) : ∃ x i' h', spec_l01PickInt.f s i h [16, 64, 16, 256, 4096, 0] = some (x, i', h') ∧ (∀ f : Int, 0 < f → szT f x = true) ∧ 0 ≤ i' ∧ i' ≤ s.length := by
  obtain ⟨x, i', h', e, hx, a, b⟩ := pick_some s i h [16, 64, 16, 256, 4096, 0] hs h0 h1 (by simp) (by simp)
  refine ⟨x, i', h', e, fun f hf => ?_, a, b⟩
  have hp : ∀ y ∈ ([16, 64, 16, 256, 4096, 0] : List Int), decide (y = 0) || (decide (16 ≤ y ∧ y ≤ 4096) && pwF y.toNat) = true := by
    intro y hy
    simp only [List.mem_cons, List.not_mem_nil, or_false] at hy
    rcases hy with rfl | rfl | rfl | rfl | rfl | rfl <;> decide
  have := hp x hx
  unfold szT
  rw [show decide (f = 0) = false from decide_eq_false (by omega)]
  simpa using this
theorem szs_app (l : List ND) : ∀ (d k : Nat) (s u : List Int), k + d ≤ s.length → szs_ l (s ++ u) d k = szs_ l s d k := by
  intro d
  induction d with
  | zero => intro k s u _; rfl
  | succ d ih =>
    intro k s u h
    rw [szs_succ, szs_succ, ih (k + 1) s u (by omega), rd_nat (s ++ u) k (by rw [List.length_append]; omega), rd_nat s k (by omega), List.getElem_append_left (by omega)]
theorem szs_snoc (l : List ND) : ∀ (d k : Nat) (s : List Int), szs_ l s (d + 1) k = (szs_ l s d k && szT (rd_T50 l ((k + d : Nat) : Int)).f2 (rd s ((k + d : Nat) : Int))) := by
  intro d
  induction d with
  | zero => intro k s; rw [szs_succ]; simp [szs_]
  | succ d ih => intro k s; rw [szs_succ, ih (k + 1) s, szs_succ l s d k, Bool.and_assoc, show k + 1 + d = k + (d + 1) by omega]
theorem l24Sizes_some (s : List Int) (hs : s.length ≤ 1048576) (l : List ND) (t : tree_ l = true) : ∀ (d K i : Nat) (z : List Int) (j h : Int), i + d = l.length → d < K → z.length = i → szs_ l z i 0 = true → 0 ≤ j → j ≤ s.length →
    ∃ z' j' h', spec_l24Sizes.l0 K l z (i : Int) s j h = some (z', j', h') ∧ z'.length = l.length ∧ szs_ l z' l.length 0 = true := by
  have tl := tree_len t
  intro d
  induction d with
  | zero =>
    intro K i z j h hi hK hz hzs h0 h1
    obtain ⟨K, rfl⟩ : ∃ m, K = m + 1 := ⟨K - 1, by omega⟩
    obtain rfl : i = l.length := by omega
    simp only [spec_l24Sizes.l0]
    rw [if_neg (by omega)]
    exact ⟨_, _, _, rfl, hz, hzs⟩
  | succ d ih =>
    intro K i z j h hi hK hz hzs h0 h1
    obtain ⟨K, rfl⟩ : ∃ m, K = m + 1 := ⟨K - 1, by omega⟩
    obtain ⟨x, j', h', e, hx, a, b⟩ := pick6 s j h hs h0 h1
    have f2 := tree_f2 t i (by omega)
    have add : ∀ y : Int, szT (rd_T50 l (i : Int)).f2 y = true → szs_ l (z ++ [y]) (i + 1) 0 = true := fun y hy => by
      rw [szs_snoc, szs_app l i 0 z [y] (by omega), hzs, Nat.zero_add, Bool.true_and, rd_nat _ i (by simp; omega)]
      have : (z ++ [y])[i]'(by simp; omega) = y := by
        rw [List.getElem_append_right (by omega)]; simp [hz]
      rw [this]; exact hy
    simp only [spec_l24Sizes.l0]
    rw [if_pos (by omega), e, obs, if_pos (by omega), wr ((i : Int) + 1) (by omega) (by omega), show (i : Int) + 1 = ((i + 1 : Nat) : Int) by omega]
    by_cases g : (rd_T50 l (i : Int)).f2 = 0
    · rw [if_pos g, if_pos (by omega)]
      exact ih K (i + 1) _ _ _ (by omega) (by omega) (by simp [hz]) (add 0 (by unfold szT; simp)) a b
    · rw [if_neg g, if_pos (by omega)]
      exact ih K (i + 1) _ _ _ (by omega) (by omega) (by simp [hz]) (add x (hx _ (by omega))) a b
theorem drawSizes_some (k : Nat) (s : List Int) (hs : s.length ≤ 1048576) (hk : 4400 < k) : ∃ t z, spec_DrawSizes.f k s = some (t, z) ∧ sizesOk_ t z = true := by
  unfold spec_DrawSizes.f spec_l19Tree.f spec_l24Sizes.f
  obtain ⟨h, e⟩ := new_some k s hs (by omega)
  obtain ⟨t, j, h', e2, ht, j0, j1⟩ := l19Tree_some s hs 10 k 0 [(⟨(-1), 0, 0⟩ : ND)] 0 h (by omega) (by omega) tree_one (by omega) (by omega)
  have tl := tree_len ht
  obtain ⟨z, j2, h2, e3, hz, hzs⟩ := l24Sizes_some s hs t ht t.length k 0 [] j h' (by omega) (by omega) rfl rfl j0 j1
  refine ⟨t, z, ?_, ?_⟩
  · rw [e, obs]
    have e4 : (((0 : Nat) : Int)) = 0 := rfl
    rw [e4] at e2 e3
    simp only [e2, obs, e3]
  · simp only [sizesOk_, ht, hz, hzs, decide_true, Bool.and_self]
theorem al_wf {l : List ND} {z : List Int} (h : Zok l z) (j : Nat) (hj : j < l.length) : wfB (ba_ (mkO l.length z (G_ l z 12)) j) := by
  have e : ba_ (mkO l.length z (G_ l z 12)) j = ⟨rd z (j : Int), G_ l z 12 (j : Int)⟩ := mkO_rd _ _ _ j hj
  have h1 := zok_bd h (j : Int)
  have h2 := G_bd h 12 j hj
  rw [e]; unfold wfB; dsimp only; omega
theorem al_nested {l : List ND} {s : List Int} (h : sizesOk_ l s = true) (hw : win_ l s 12 0 ≤ 65536) : nested_ (mkO l.length (wz_ l s) (G_ l (wz_ l s) 12)) l = true := by
  have hz := wz_ok h hw
  have t := hz.1
  have tl := tree_len t
  unfold nested_
  rw [t, decide_eq_true (mkO_len _ _ _), Bool.true_and, Bool.true_and, nsS_iff]
  intro x x1 x2 x3
  have ex : ba_ (mkO l.length (wz_ l s) (G_ l (wz_ l s) 12)) x = ⟨rd (wz_ l s) (x : Int), G_ l (wz_ l s) 12 (x : Int)⟩ := mkO_rd _ _ _ x (by omega)
  rw [ex] at x3
  have hp := tree_parent t x (by omega) (by omega)
  obtain ⟨p, hpe⟩ : ∃ p : Nat, (rd_T50 l (x : Int)).f0 = (p : Int) := ⟨_, (Int.toNat_of_nonneg hp.1).symm⟩
  rw [hpe] at hp
  have hpl : p < l.length := by omega
  have ep : par_ (mkO l.length (wz_ l s) (G_ l (wz_ l s) 12)) l x = ba_ (mkO l.length (wz_ l s) (G_ l (wz_ l s) 12)) p := by unfold par_ nd_; rw [hpe]; rfl
  have ep2 : ba_ (mkO l.length (wz_ l s) (G_ l (wz_ l s) 12)) p = ⟨rd (wz_ l s) (p : Int), G_ l (wz_ l s) 12 (p : Int)⟩ := mkO_rd _ _ _ p (by omega)
  have inord : ∀ y : Nat, 0 < y → y < l.length → (rd_T50 l (y : Int)).f0 = (p : Int) → 0 < rd (wz_ l s) (y : Int) → (y : Int) ∈ ord_ l (wz_ l s) (p : Int) := fun y y0 y1 y2 y3 => (ord_mem _ _ _ _).2 ⟨ch_of l _ y y0 y1 y2, by rcases hz.2.1 (y : Int) with e | e; omega; exact e⟩
  have hx := inord x (by omega) (by omega) hpe x3
  have hGx := laid_G hz (p : Int) x hx
  have nn : ∀ y ∈ ord_ l (wz_ l s) (p : Int), 0 ≤ rd (wz_ l s) y := fun y _ => (zok_bd hz y).1
  have hpre := pre_le (wz_ l s) (x : Int) _ nn hx
  obtain ⟨kn, km⟩ := kids_ch t (p : Int) (by omega) (by omega)
  have hb := row_br t x (by omega) (by omega)
  rw [hpe] at hb
  have hsum := ord_le h hw (p : Int) (by omega) (by omega) kn km hb
  rw [← wz_at l s p hpl] at hsum
  constructor
  · rw [ins_iff _ _ (al_wf hz x (by omega)) (by rw [ep]; exact al_wf hz p hpl) (by rw [ex]; exact x3), ep, ep2, ex]
    dsimp only
    omega
  · rw [apS_iff]
    intro y y1 y2 y3
    have ey : ba_ (mkO l.length (wz_ l s) (G_ l (wz_ l s) 12)) y = ⟨rd (wz_ l s) (y : Int), G_ l (wz_ l s) 12 (y : Int)⟩ := mkO_rd _ _ _ y (by omega)
    rw [← Bool.not_eq_true, ov_iff _ _ (al_wf hz y (by omega)) (al_wf hz x (by omega)), ex, ey]
    dsimp only
    rintro ⟨o1, o2, o3⟩
    have hy := inord y (by omega) (by omega) (by unfold nd_ at y3; rw [y3, hpe]) o1
    have hGy := laid_G hz (p : Int) y hy
    have := pre_apart (wz_ l s) (y : Int) (x : Int) _ nn hy hx (by omega)
    omega
theorem al_mod {l : List ND} {s : List Int} (h : sizesOk_ l s = true) (hw : win_ l s 12 0 ≤ 65536) : ∀ j : Nat, j < l.length → 0 < rd (wz_ l s) (j : Int) → G_ l (wz_ l s) 12 (j : Int) % rd (wz_ l s) (j : Int) = 0 := by
  have hz := wz_ok h hw
  have t := hz.1
  intro j
  induction j using Nat.strongRecOn with
  | _ j ih =>
    intro j1 j2
    by_cases e : j = 0
    · subst e
      have : G_ l (wz_ l s) 12 ((0 : Nat) : Int) = 0 := G_root
      rw [this]; simp
    · have hp := tree_parent t j (by omega) j1
      obtain ⟨p, hpe⟩ : ∃ p : Nat, (rd_T50 l (j : Int)).f0 = (p : Int) := ⟨_, (Int.toNat_of_nonneg hp.1).symm⟩
      rw [hpe] at hp
      have hk := win_kid h j (by omega) j1
      rw [hpe, ← wz_at l s j j1, ← wz_at l s p (by omega)] at hk
      have hwj : rd (wz_ l s) (j : Int) ∈ pw2 := by rcases hz.2.1 (j : Int) with e | e; omega; exact e
      have hwp : rd (wz_ l s) (p : Int) ∈ pw2 := by rcases hz.2.1 (p : Int) with e | e; omega; exact e
      have hd := pw2_dvd _ hwj _ hwp hk
      have hi := ih p (by omega) (by omega) (by omega)
      have hj : (j : Int) ∈ ord_ l (wz_ l s) (p : Int) := (ord_mem _ _ _ _).2 ⟨ch_of l _ j (by omega) j1 hpe, hwj⟩
      rw [laid_G hz (p : Int) j hj]
      refine mod_add0 _ _ _ ?_ (pre_dvd _ _ _ (ord_pw l _ _) (fun y hy => ((ord_mem _ _ _ _).1 hy).2) hj)
      exact Int.emod_eq_zero_of_dvd (Int.dvd_trans (Int.dvd_of_emod_eq_zero hd) (Int.dvd_of_emod_eq_zero hi))
theorem sumN_tail (f : Nat → Int) : ∀ n, sumN f (n + 1) = f 0 + sumN (fun c => f (c + 1)) n := by
  intro n
  induction n with
  | zero => simp only [sumN]; omega
  | succ n ih => rw [sumN, ih]; simp only [sumN]; omega
theorem al_total {l : List ND} {s : List Int} (h : sizesOk_ l s = true) (hw : win_ l s 12 0 ≤ 65536) : sumN (fun k => rd s (k : Int)) l.length ≤ win_ l s 12 0 := by
  have hz := wz_ok h hw
  have t := hz.1
  have tl := tree_len t
  have F : ∀ k : Nat, k < l.length → sm_ (wz_ l s) (ch_ l (k : Int)) + rd s (k : Int) ≤ rd (wz_ l s) (k : Int) := fun k hk => by
    have f2 := tree_f2 t k hk
    rw [wz_at l s k hk]
    by_cases g : (rd_T50 l (k : Int)).f2 = 0
    · have hs0 : rd s (k : Int) = 0 := by
        simp only [sizesOk_, Bool.and_eq_true, decide_eq_true_eq] at h
        have := szs_at l s l.length 0 k h.2.2 (by omega) (by omega)
        simp only [szT, g, Bool.or_eq_true, Bool.and_eq_true, decide_eq_true_eq, decide_true, Bool.not_true, Bool.false_eq_true, false_and, or_false] at this
        exact this
      obtain ⟨kn, km⟩ := kids_ch t (k : Int) (by omega) (by omega)
      have := ord_le h hw (k : Int) (by omega) (by omega) kn km g
      rw [sm_ord hz (k : Int) (ch_ l (k : Int)) (ch_nodup l _) (fun c => Iff.rfl)] at this
      omega
    · have : ch_ l (k : Int) = [] := by
        cases hc : ch_ l (k : Int) with
        | nil => rfl
        | cons a r =>
          obtain ⟨j, e, j0, j1, j2⟩ := ch_mem l (k : Int) a (by rw [hc]; exact List.mem_cons_self)
          have := row_br t j j0 j1
          rw [j2] at this
          exact absurd this g
      rw [this, win_succ, if_pos (by omega)]
      simp [sm_]
  have h1 := sumN_le _ _ l.length F
  rw [sumN_add] at h1
  have h2 : sumN (fun k : Nat => sm_ (wz_ l s) (ch_ l (k : Int))) l.length = sumN (fun c : Nat => rd (wz_ l s) ((c + 1 : Nat) : Int)) (l.length - 1) := by
    have e1 : sumN (fun k : Nat => sm_ (wz_ l s) (ch_ l (k : Int))) l.length = sumN (fun k : Nat => sumN (fun c : Nat => if (rd_T50 l ((c + 1 : Nat) : Int)).f0 = (k : Int) then rd (wz_ l s) ((c + 1 : Nat) : Int) else 0) (l.length - 1)) l.length := sumN_congr _ _ _ (fun k _ => ch_sum l _ _ _ _)
    rw [e1, sumN_swap]
    refine sumN_congr _ _ _ (fun c hc => ?_)
    have hp := tree_parent t (c + 1) (by omega) (by omega)
    obtain ⟨p, hpe⟩ : ∃ p : Nat, (rd_T50 l ((c + 1 : Nat) : Int)).f0 = (p : Int) := ⟨_, (Int.toNat_of_nonneg hp.1).symm⟩
    rw [hpe] at hp ⊢
    have e2 := sumN_one p (rd (wz_ l s) ((c + 1 : Nat) : Int)) l.length
    rw [if_pos (by omega)] at e2
    refine Eq.trans (sumN_congr _ _ _ (fun k _ => ?_)) e2
    by_cases e : k = p
    · rw [if_pos e, if_pos (by omega)]
    · rw [if_neg e, if_neg (by omega)]
  have h3 := sumN_tail (fun k : Nat => rd (wz_ l s) (k : Int)) (l.length - 1)
  rw [show l.length - 1 + 1 = l.length by omega] at h3
  have h4 : rd (wz_ l s) ((0 : Nat) : Int) = win_ l s 12 0 := wz_at l s 0 (by omega)
  rw [h4] at h3
  omega
theorem iwindow_eq (l : List ND) (s : List Int) (x : Int) (hl : l.length ≤ 9223372036854775807) (K : Nat) (hK : 2500 < K) : impl_WindowSize.f K l s x = some (window_ l s x) := by
  unfold impl_WindowSize.f window_
  rw [isizes_eq l s hl K (by omega), obs]
  by_cases h : sizesOk_ l s = true
  · have tl := tree_len (sizes_tree h).1
    rw [if_pos h, if_pos h, within_eq, obs, wr ((l.length : Int) - 1) (by omega) (by omega)]
    by_cases g : 0 ≤ x ∧ x ≤ (l.length : Int) - 1
    · rw [if_pos (decide_eq_true g), if_pos g, iwin_eq h 12 x K g.1 (by omega) (by omega) (by omega), obs]
    · rw [if_neg (by simpa using g), if_neg g]
  · rw [if_neg h, if_neg h]
theorem tot_eq {l : List ND} {s : List Int} (h : sizesOk_ l s = true) : ∀ d i K, i + d = s.length → d < K → impl_TotalSize.l0 K (sumN (fun k => rd s (k : Int)) i) s (s.length : Int) (i : Int) = some (sumN (fun k => rd s (k : Int)) s.length) := by
  obtain ⟨t, hsl⟩ := sizes_tree h
  have tl := tree_len t
  have hb : ∀ i, i ≤ s.length → 0 ≤ sumN (fun k => rd s (k : Int)) i ∧ sumN (fun k => rd s (k : Int)) i ≤ 4096 * (i : Int) := by
    intro i
    induction i with
    | zero => intro _; simp [sumN]
    | succ i ih =>
      intro hi
      have := ih (by omega)
      have := sizes_at h (i : Int) (by omega) (by omega)
      simp only [sumN]; omega
  intro d
  induction d with
  | zero =>
    intro i K hi hK
    obtain ⟨K, rfl⟩ : ∃ m, K = m + 1 := ⟨K - 1, by omega⟩
    obtain rfl : i = s.length := by omega
    simp only [impl_TotalSize.l0]
    rw [if_neg (by omega)]
  | succ d ih =>
    intro i K hi hK
    obtain ⟨K, rfl⟩ : ∃ m, K = m + 1 := ⟨K - 1, by omega⟩
    have h1 := hb i (by omega)
    have h2 := sizes_at h (i : Int) (by omega) (by omega)
    simp only [impl_TotalSize.l0]
    rw [if_pos (by omega), if_pos (by omega), if_pos (by omega), wr _ (by omega) (by omega), wr ((i : Int) + 1) (by omega) (by omega), show (i : Int) + 1 = ((i + 1 : Nat) : Int) by omega]
    exact ih (i + 1) K (by omega) (by omega)
theorem wloop {l : List ND} {s : List Int} (h : sizesOk_ l s = true) (hw : win_ l s 12 0 ≤ 65536) : ∀ d i K, i + d = l.length → 3000 + d < K → laws_FnWindows.l0 K l s (mkO l.length (wz_ l s) (G_ l (wz_ l s) 12)) (i : Int) = some true := by
  obtain ⟨t, hsl⟩ := sizes_tree h
  have tl := tree_len t
  have hz := wz_ok h hw
  intro d
  induction d with
  | zero =>
    intro i K hi hK
    obtain ⟨K, rfl⟩ : ∃ m, K = m + 1 := ⟨K - 1, by omega⟩
    have ht := tot_eq h s.length 0 K (by omega) (by omega)
    have h0 : rd_T73 (mkO l.length (wz_ l s) (G_ l (wz_ l s) 12)) 0 = ⟨rd (wz_ l s) ((0 : Nat) : Int), G_ l (wz_ l s) 12 ((0 : Nat) : Int)⟩ := mkO_rd _ _ _ 0 (by omega)
    have hl := al_total h hw
    have h2 : impl_TotalSize.f K s = some (sumN (fun k => rd s (k : Int)) s.length) := ht
    simp only [laws_FnWindows.l0]
    rw [if_neg (by omega), mkO_len, if_pos (by omega), h2, obs, h0, wz_at l s 0 (by omega), hsl]
    exact congrArg some (decide_eq_true hl)
  | succ d ih =>
    intro i K hi hK
    obtain ⟨K, rfl⟩ : ∃ m, K = m + 1 := ⟨K - 1, by omega⟩
    have hwd : window_ l s (i : Int) = win_ l s 12 (i : Int) := by unfold window_; rw [if_pos h, if_pos (by omega)]
    have hn := ih (i + 1) K (by omega) (by omega)
    have hb := zok_bd hz (i : Int)
    have hG := G_bd hz 12 i (by omega)
    simp only [laws_FnWindows.l0]
    rw [if_pos (by omega), if_pos (by omega), mkO_len, if_pos (by omega), iwindow_eq l s (i : Int) (by omega) K (by omega), obs, mkO_rd _ _ _ i (by omega), hwd]
    dsimp only
    rw [if_pos (wz_at l s i (by omega)), wr ((i : Int) + 1) (by omega) (by omega), show (i : Int) + 1 = ((i + 1 : Nat) : Int) by omega, hn]
    have hmod : (if rd (wz_ l s) (i : Int) > 0 then (if rd (wz_ l s) (i : Int) = 0 then (none : Option Bool) else (if Int.tmod (G_ l (wz_ l s) 12 (i : Int)) (rd (wz_ l s) (i : Int)) = 0 then some true else some false)) else some true) = some true := by
      by_cases g : rd (wz_ l s) (i : Int) > 0
      · rw [if_pos g, if_neg (by omega), if_pos (by rw [Int.tmod_eq_emod_of_nonneg hG.1]; exact al_mod h hw i (by omega) g)]
      · rw [if_neg g]
    by_cases f2 : (rd_T50 l (i : Int)).f2 > 0
    · rw [if_pos f2, if_pos (by omega), if_pos (by rw [wz_at l s i (by omega), win_succ, if_pos f2])]
      exact hmod
    · rw [if_neg f2]
      exact hmod
theorem FnWindows : laws_FnWindows.Pure := by
  intro l0 h1 h2 hw0
  obtain ⟨k, hk⟩ : ∃ k : Nat, 1048576 < k := ⟨1048577, by omega⟩
  refine ⟨k + 1, ?_⟩
  unfold laws_FnWindows.f laws_big.f
  rw [obs]
  by_cases hb : (l0.length : Int) > 1048576
  · rw [if_pos (decide_eq_true hb)]
  · rw [if_neg (by simpa using hb)]
    obtain ⟨t, s, e, hok⟩ := drawSizes_some (k + 1) l0 (by omega) (by omega)
    have tl := tree_len (sizes_tree hok).1
    rw [e, obs, salloc_eq t s (by omega) (k + 1) (by omega), obs]
    by_cases hw : win_ t s 12 0 ≤ 65536
    · have ea : alloc_ t s = (mkO t.length (wz_ t s) (G_ t (wz_ t s) 12), true) := by unfold alloc_; rw [if_pos hok, if_pos hw]
      rw [ea, if_pos rfl, ialloc_eq t s (by omega) (k + 1) (by omega), obs, ea, if_pos rfl, mkO_len, if_pos rfl, inested_eq _ t (by omega) (k + 1) (by omega), obs, al_nested hok hw, if_pos rfl, isizes_eq t s (by omega) (k + 1) (by omega), obs, hok]
      simp only [laws_FnWindows.j0, Bool.not_true, Bool.false_eq_true, if_false]
      exact wloop hok hw t.length 0 k (by omega) (by omega)
    · have ea : alloc_ t s = ([], false) := by unfold alloc_; rw [if_pos hok, if_neg hw]
      rw [ea, if_neg (by simp)]
end Go.Proofs.Ytbbppknnkghkjaa.Pure
