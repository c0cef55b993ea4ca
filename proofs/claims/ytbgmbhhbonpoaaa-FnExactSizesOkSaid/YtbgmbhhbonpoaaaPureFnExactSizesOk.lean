/- Of every list of nodes and list of sizes: the program's SizesOk and the reference's answer alike. -/
import Derived.Test.YtbgmbhhbonpoaaaPFnExactSizesOkx6
import Derived.Test.YtbgmbhhbonpoaaaCom
import Derived.Test.YtbgmbhhbonpoaaaPow
namespace Go.Proofs.Ytbgmbhhbonpoaaa.Pure
open Go.RowKit Go.Proofs.Ytbgmbhhbonpoaaa.PFnExactSizesOk Go.Proofs.YtbgmbhhbonpoaaaW.PrintWords Go.Proofs.YtbgmbhhbonpoaaaW.PrintLast Go.Proofs.YtbgmbhhbonpoaaaW.PrintMore Go.Proofs.Ytbgmbhhbonpoaaa.Com
set_option linter.unusedVariables false
set_option linter.unusedSimpArgs false

theorem szNodeS_eq (l : List S58) (a : Int) (h0 : l.length ≤ 9223372036854775807) (h1 : 0 ≤ a) (h2 : a ≤ 1048576) :
    laws_szNodeS.f l a = some (if a < (l.length : Int) then -1 else a - (l.length : Int)) := by
  unfold laws_szNodeS.f
  rw [wr (a - (l.length : Int)) (by omega) (by omega)]
  by_cases h : a < (l.length : Int)
  · rw [if_pos (by omega), if_pos h]
  · rw [if_neg (by omega), if_neg h]

theorem toIntS_eq (k : Nat) (l : List Int) (hl : l.length ≤ 1048576) (hk : l.length < k) : laws_toIntS.f k l = some l := by
  unfold laws_toIntS.f
  rw [if_pos (by omega), if_pos (by omega)]
  have h := copy_loop laws_toIntS.l0 (fun x => x) l hl (fun k x3 i h h3 => by
      simp only [laws_toIntS.l0]
      rw [if_pos (by omega), if_pos (by omega), if_pos (by omega), rd_nat _ _ h, wr _ (by omega) (by omega)]
      rfl) (fun k x3 h3 => by
      simp only [laws_toIntS.l0]
      rw [if_neg (by omega)]) l.length k (List.replicate ((l.length : Int)).toNat 0) 0 (by omega) hk (by simp) (fun j hj => by omega)
  simpa using h

theorem eqIntS_eq (k : Nat) (a b : List Int) (hl : a.length ≤ 1048576) (hk : a.length < k) : laws_eqIntS.f k a b = some (decide (a = b)) := by
  unfold laws_eqIntS.f
  by_cases e : b.length = a.length
  · rw [if_pos (by omega)]
    have h := eq_loop laws_eqIntS.l0 a b hl e (fun k i h hx => by
        simp only [laws_eqIntS.l0]
        rw [if_pos (by omega), if_pos (by omega), if_pos (by omega), rd_nat _ _ h, rd_nat _ _ (by omega), if_neg hx]) (fun k i h hx => by
        simp only [laws_eqIntS.l0]
        rw [if_pos (by omega), if_pos (by omega), if_pos (by omega), rd_nat _ _ h, rd_nat _ _ (by omega), if_pos hx, wr _ (by omega) (by omega)]
        rfl) (fun k => by
        simp only [laws_eqIntS.l0]
        rw [if_neg (by omega)]) a.length k 0 (by omega) hk
    simpa using h
  · rw [if_neg (by omega)]
    congr 1
    symm
    rw [decide_eq_false_iff_not]
    rintro rfl
    exact e rfl

abbrev ND := S38
/-- A sibling in the same place. -/
def sib_ (p d : Int) (x : ND) : Bool := decide (x.f0 = p) && decide (x.f1 = d)
/-- Is the node n well at place k of the tree? -/
def row_ (l : List ND) (k : Nat) (n : ND) : Bool :=
  decide (0 ≤ n.f0 ∧ n.f0 < (k : Int)) && (decide ((rd_T38 l n.f0).f2 = 0) && (decide (0 ≤ n.f1 ∧ n.f1 ≤ 3) && (decide (0 ≤ n.f2 ∧ n.f2 ≤ 4) && !(l.take k).any (sib_ n.f0 n.f1))))
def rows_ (l : List ND) : Nat → Nat → Bool
  | 0, _ => true
  | d + 1, k => row_ l k (rd_T38 l (k : Int)) && rows_ l d (k + 1)
def root_ (l : List ND) : Bool := (rd_T38 l 0).f0 == (-1) && ((rd_T38 l 0).f1 == 0 && (rd_T38 l 0).f2 == 0)
def tree_ (l : List ND) : Bool := decide (1 ≤ (l.length : Int) ∧ (l.length : Int) ≤ 12) && (root_ l && rows_ l (l.length - 1) 1)
theorem tree_len {l : List ND} (h : tree_ l = true) : 1 ≤ l.length ∧ l.length ≤ 12 := by
  simp only [tree_, Bool.and_eq_true, decide_eq_true_eq] at h; omega
theorem tree_root {l : List ND} (h : tree_ l = true) : (rd_T38 l 0).f0 = -1 := by
  simp only [tree_, root_, Bool.and_eq_true, decide_eq_true_eq, beq_iff_eq] at h; exact h.2.1.1
theorem rows_row (l : List ND) : ∀ d k j, rows_ l d k = true → k ≤ j → j < k + d → row_ l j (rd_T38 l (j : Int)) = true := by
  intro d
  induction d with
  | zero => intro k j _ _ _; omega
  | succ d ih =>
    intro k j h h1 h2
    simp only [rows_, Bool.and_eq_true] at h
    by_cases e : j = k
    · subst e; exact h.1
    · exact ih (k + 1) j h.2 (by omega) (by omega)
theorem tree_row {l : List ND} (h : tree_ l = true) (j : Nat) (h0 : 0 < j) (h1 : j < l.length) : row_ l j (rd_T38 l (j : Int)) = true := by
  simp only [tree_, Bool.and_eq_true] at h
  exact rows_row l _ 1 j h.2.2 (by omega) (by omega)
theorem tree_parent {l : List ND} (h : tree_ l = true) (j : Nat) (h0 : 0 < j) (h1 : j < l.length) : 0 ≤ (rd_T38 l (j : Int)).f0 ∧ (rd_T38 l (j : Int)).f0 < (j : Int) := by
  have := tree_row h j h0 h1
  simp only [row_, Bool.and_eq_true, decide_eq_true_eq] at this
  exact this.1

theorem within_eq (a b c : Int) : impl_within.f a b c = some (decide (b ≤ a ∧ a ≤ c)) := by
  unfold impl_within.f; by_cases h : a ≥ b <;> simp [h]

theorem l01In_eq (a b c : Int) : spec_l01In.f a b c = some (decide (b ≤ a ∧ a ≤ c)) := by
  unfold spec_l01In.f; by_cases h : a ≥ b <;> simp [h]

theorem oc_eq (a : Int) : bits_OnesCount.f a = some (oc64 a) := rfl
theorem ipow_some (n : Int) : ∃ b, impl_IsPower.f n = some b := by
  unfold impl_IsPower.f
  rw [within_eq]
  simp only [Option.bind_some, oc_eq]
  split <;> exact ⟨_, rfl⟩
theorem ipow_eq (n : Nat) (h0 : 1 ≤ n) (h : n ≤ 32768) : impl_IsPower.f (n : Int) = some (pwF n) := by
  unfold impl_IsPower.f
  rw [within_eq, u64_of (by omega) (by omega)]
  simp only [Option.bind_some, oc_eq]
  rw [if_pos (by rw [decide_eq_true_iff]; omega), oc64_nat n (by omega), ← pop_pw n h0 h]
  congr 1
  rw [Bool.eq_iff_iff, beq_iff_eq, beq_iff_eq]
  omega
theorem shl_one (j : Nat) (h : j ≤ 20) : shl .i64 1 (j : Int) = ((2 ^ j : Nat) : Int) := by
  unfold shl
  rw [show min ((j : Int)).toNat IntKind.i64.bits = j by simp [IntKind.bits]; omega]
  have h2 : 2 ^ j ≤ 2 ^ 20 := Nat.pow_le_pow_right (by decide) h
  rw [Go.IntKind.wrap_i64]
  have h3 : (1 : Int) * 2 ^ j = ((2 ^ j : Nat) : Int) := by rw [Int.one_mul]; norm_cast
  rw [h3]
  have h4 : (2 : Nat) ^ 20 = 1048576 := by decide
  generalize 2 ^ j = p at *
  omega
theorem spow_l0 (n : Int) : ∀ d k (j : Nat), j + d = 21 → d < k → ∃ b, spec_IsPower.l0 k n (j : Int) = some b ∧ (b = true ↔ ∃ i : Nat, j ≤ i ∧ i ≤ 20 ∧ n = ((2 ^ i : Nat) : Int)) := by
  intro d
  induction d with
  | zero =>
    intro k j hj hk
    obtain ⟨k, rfl⟩ : ∃ m, k = m + 1 := ⟨k - 1, by omega⟩
    simp only [spec_IsPower.l0]
    rw [if_neg (by omega)]
    refine ⟨false, rfl, ⟨fun h => absurd h (by decide), ?_⟩⟩
    rintro ⟨i, h1, h2, _⟩
    omega
  | succ d ih =>
    intro k j hj hk
    obtain ⟨k, rfl⟩ : ∃ m, k = m + 1 := ⟨k - 1, by omega⟩
    simp only [spec_IsPower.l0]
    rw [if_pos (by omega), if_pos (by omega), shl_one j (by omega)]
    by_cases e : n = ((2 ^ j : Nat) : Int)
    · rw [if_pos e]
      exact ⟨true, rfl, ⟨fun _ => ⟨j, by omega, by omega, e⟩, fun _ => rfl⟩⟩
    · rw [if_neg e, wr _ (by omega) (by omega)]
      obtain ⟨b, hb, hi⟩ := ih k (j + 1) (by omega) (by omega)
      refine ⟨b, hb, hi.trans ⟨?_, ?_⟩⟩
      · rintro ⟨i, h1, h2, h3⟩
        exact ⟨i, by omega, h2, h3⟩
      · rintro ⟨i, h1, h2, h3⟩
        refine ⟨i, ?_, h2, h3⟩
        by_cases e2 : i = j
        · subst e2; exact absurd h3 e
        · omega
theorem spow_some (k : Nat) (hk : 21 < k) (n : Int) : ∃ b, spec_IsPower.f k n = some b := by
  obtain ⟨b, hb, _⟩ := spow_l0 n 21 k 0 (by omega) hk
  exact ⟨b, hb⟩
theorem spow_eq (k : Nat) (hk : 21 < k) (n : Nat) (h0 : 1 ≤ n) (h : n ≤ 1048576) : spec_IsPower.f k (n : Int) = some (pwF n) := by
  obtain ⟨b, hb, hi⟩ := spow_l0 (n : Int) 21 k 0 (by omega) hk
  have h2 : spec_IsPower.f k (n : Int) = spec_IsPower.l0 k (n : Int) ((0 : Nat) : Int) := rfl
  rw [h2, hb]
  congr 1
  rw [Bool.eq_iff_iff, hi, pwF_iff n h0 h]
  constructor
  · rintro ⟨i, _, h3, h4⟩
    exact ⟨i, h3, by exact_mod_cast h4⟩
  · rintro ⟨i, h3, h4⟩
    exact ⟨i, by omega, h3, by exact_mod_cast h4⟩

/-- As Option.bind_some, but not by rfl: rewriting with it below an 'if' with a great number keeps the kernel from unfolding that number. -/
theorem obs {α β : Type} (a : α) (f : α → Option β) : (some a).bind f = f a := by rw [Option.bind_some]

/-- The size n of a device, of a node with f functions. -/
def szT (f n : Int) : Bool := decide (n = 0) || (!decide (f = 0) && (decide (16 ≤ n ∧ n ≤ 4096) && pwF n.toNat))
def szs_ (l : List ND) (s : List Int) : Nat → Nat → Bool
  | 0, _ => true
  | d + 1, k => szT (rd_T38 l (k : Int)).f2 (rd s (k : Int)) && szs_ l s d (k + 1)
theorem szs_succ (l : List ND) (s : List Int) (d k : Nat) : szs_ l s (d + 1) k = (szT (rd_T38 l (k : Int)).f2 (rd s (k : Int)) && szs_ l s d (k + 1)) := rfl
def sizesOk_ (l : List ND) (s : List Int) : Bool := tree_ l && (decide (s.length = l.length) && szs_ l s l.length 0)
theorem bridge_eq (l : List ND) (i : Nat) (h : i < l.length) : impl_isBridge.f l (i : Int) = some ((rd_T38 l (i : Int)).f2 == 0) := by
  unfold impl_isBridge.f
  rw [if_pos (by omega), if_pos (by omega)]


def toNd (x : S58) : S38 := ⟨x.f0, x.f1, x.f2⟩
theorem rd_lnode (xs : List S58) (i : Nat) (h : i < xs.length) : rd_T58 xs (i : Int) = xs[i] := getD_nat _ _ _ h
theorem rd_inode (xs : List S38) (i : Nat) (h : i < xs.length) : rd_T38 xs (i : Int) = xs[i] := getD_nat _ _ _ h
theorem toNodeS_eq (k : Nat) (l : List S58) (hl : l.length ≤ 1048576) (hk : l.length < k) : laws_toNodeS.f k l = some (l.map toNd) := by
  unfold laws_toNodeS.f
  rw [if_pos (by omega), if_pos (by omega)]
  have h := copy_loop laws_toNodeS.l0 toNd l hl (fun k x3 i h h3 => by
      simp only [laws_toNodeS.l0]
      rw [if_pos (by omega), if_pos (by omega), rd_lnode _ _ h]
      simp only [laws_toNode.f, Option.bind_some]
      rw [if_pos (by omega), wr _ (by omega) (by omega)]
      rfl) (fun k x3 h3 => by
      simp only [laws_toNodeS.l0]
      rw [if_neg (by omega)]) l.length k (List.replicate ((l.length : Int)).toNat z38) 0 (by omega) hk (by simp) (fun j hj => by omega)
  exact h
theorem node_ext (a b : S38) (h0 : a.f0 = b.f0) (h1 : a.f1 = b.f1) (h2 : a.f2 = b.f2) : a = b := by cases a; cases b; simp_all
instance : DecidableEq S38 := fun a b => decidable_of_iff (a.f0 = b.f0 ∧ a.f1 = b.f1 ∧ a.f2 = b.f2) ⟨fun h => node_ext a b h.1 h.2.1 h.2.2, fun h => by rw [h]; exact ⟨rfl, rfl, rfl⟩⟩
theorem eqNode_eq (a b : S38) : laws_eqNode.f a.f0 a.f1 a.f2 b.f0 b.f1 b.f2 = some (decide (a = b)) := by
  unfold laws_eqNode.f
  by_cases h0 : a.f0 = b.f0
  · by_cases h1 : a.f1 = b.f1
    · by_cases h2 : a.f2 = b.f2
      · rw [if_pos h0, if_pos h1, if_pos h2]; simp [node_ext a b h0 h1 h2]
      · rw [if_pos h0, if_pos h1, if_neg h2]; simp only [Option.some.injEq]; symm; rw [decide_eq_false_iff_not]; rintro rfl; exact h2 rfl
    · rw [if_pos h0, if_neg h1]; simp only [Option.some.injEq]; symm; rw [decide_eq_false_iff_not]; rintro rfl; exact h1 rfl
  · rw [if_neg h0]; simp only [Option.some.injEq]; symm; rw [decide_eq_false_iff_not]; rintro rfl; exact h0 rfl
theorem eqNodeS_eq (k : Nat) (a b : List S38) (hl : a.length ≤ 1048576) (hk : a.length < k) : laws_eqNodeS.f k a b = some (decide (a = b)) := by
  unfold laws_eqNodeS.f
  by_cases e : b.length = a.length
  · rw [if_pos (by omega)]
    have h := eq_loop laws_eqNodeS.l0 a b hl e (fun k i h hx => by
        simp only [laws_eqNodeS.l0]
        rw [if_pos (by omega), if_pos (by omega), if_pos (by omega), rd_inode _ _ h, rd_inode _ _ (by omega), eqNode_eq]
        simp [hx]) (fun k i h hx => by
        simp only [laws_eqNodeS.l0]
        rw [if_pos (by omega), if_pos (by omega), if_pos (by omega), rd_inode _ _ h, rd_inode _ _ (by omega), eqNode_eq, wr _ (by omega) (by omega)]
        simp only [hx, decide_true, Option.bind_some, if_true]
        rfl) (fun k => by
        simp only [laws_eqNodeS.l0]
        rw [if_neg (by omega)]) a.length k 0 (by omega) hk
    simpa using h
  · rw [if_neg (by omega)]
    congr 1
    symm
    rw [decide_eq_false_iff_not]
    rintro rfl
    exact e rfl


theorem sib_root {l : List ND} (hl : 0 < l.length) (hr : (rd_T38 l 0).f0 = -1) (p d : Int) (hp : 0 ≤ p) (k : Nat) (hk : 1 ≤ k) : (l.take k).any (sib_ p d) = ((l.take k).drop 1).any (sib_ p d) := by
  cases l with
  | nil => simp at hl
  | cons x xs =>
    obtain ⟨k, rfl⟩ : ∃ m, k = m + 1 := ⟨k - 1, by omega⟩
    have hx : x.f0 = -1 := hr
    have : sib_ p d x = false := by unfold sib_; rw [hx]; rw [decide_eq_false (show ¬ (-1 : Int) = p by omega)]; rfl
    simp [this]
theorem sl1_eq (l : List ND) (k : Nat) (hk : k < l.length) (hl : l.length ≤ 12) (p d f : Int) (R : Bool) (B : Nat) (hR : ∀ K, B < K → spec_TreeOk.l0 K l ((k + 1 : Nat) : Int) = some R) :
    ∀ e K i, i + e = k → B + e + 1 < K → spec_TreeOk.l1 K l (k : Int) (i : Int) p d f = some (if ((l.take k).drop i).any (sib_ p d) then false else R) := by
  intro e
  induction e with
  | zero =>
    intro K i hi hK
    obtain ⟨K, rfl⟩ : ∃ m, K = m + 1 := ⟨K - 1, by omega⟩
    obtain rfl : i = k := by omega
    simp only [spec_TreeOk.l1]
    rw [if_neg (by omega), wr ((i : Int) + 1) (by omega) (by omega), List.drop_of_length_le (by simp; omega)]
    simpa using hR K (by omega)
  | succ e ih =>
    intro K i hi hK
    obtain ⟨K, rfl⟩ : ∃ m, K = m + 1 := ⟨K - 1, by omega⟩
    have hlt : i < (l.take k).length := by simp; omega
    have hg : (l.take k)[i] = l[i]'(by omega) := by simp
    have e1 : ((i : Int) + 1) = ((i + 1 : Nat) : Int) := by omega
    simp only [spec_TreeOk.l1]
    rw [if_pos (by omega), if_pos (by omega), if_pos (by omega), rd_inode _ _ (by omega), wr ((i : Int) + 1) (by omega) (by omega), List.drop_eq_getElem_cons hlt, hg, e1, ih K (i + 1) (by omega) (by omega)]
    rw [List.any_cons]
    by_cases h0 : (l[i]'(by omega)).f0 = p
    · by_cases h1 : (l[i]'(by omega)).f1 = d
      · rw [if_pos h0, if_pos h1]; simp [sib_, h0, h1]
      · rw [if_pos h0, if_neg h1]; simp [sib_, h0, h1]
    · rw [if_neg h0]; simp [sib_, h0]
theorem sl0_eq (l : List ND) (h1 : 1 ≤ l.length) (hl : l.length ≤ 12) (hr : (rd_T38 l 0).f0 = -1) :
    ∀ d K k, 1 ≤ k → k + d = l.length → 16 * d < K → spec_TreeOk.l0 K l (k : Int) = some (rows_ l d k) := by
  intro d
  induction d with
  | zero =>
    intro K k hk hd hK
    obtain ⟨K, rfl⟩ : ∃ m, K = m + 1 := ⟨K - 1, by omega⟩
    simp only [spec_TreeOk.l0]
    rw [if_neg (by omega)]; rfl
  | succ d ih =>
    intro K k hk hd hK
    obtain ⟨K, rfl⟩ : ∃ m, K = m + 2 := ⟨K - 2, by omega⟩
    have hx : ∀ b p d' f, spec_TreeOk.j2 (K + 1) l (k : Int) b p d' f = if b = true then some false else spec_TreeOk.l1 K l (k : Int) 1 p d' f := fun b p d' f => by simp only [spec_TreeOk.j2]
    have hin : ∀ p d' f, 0 ≤ p → spec_TreeOk.l1 K l (k : Int) 1 p d' f = some (if (l.take k).any (sib_ p d') then false else rows_ l d (k + 1)) := fun p d' f hp => by
      have h := sl1_eq l k (by omega) hl p d' f (rows_ l d (k + 1)) (16 * d) (fun K' hK' => ih K' (k + 1) (by omega) (by omega) hK') (k - 1) K 1 (by omega) (by omega)
      rw [sib_root (by omega) hr p d' hp k hk]
      exact h
    simp only [spec_TreeOk.l0]
    rw [if_pos (by omega), if_pos (by omega), wr ((k : Int) - 1) (by omega) (by omega)]
    unfold rows_ row_
    generalize rd_T38 l (k : Int) = n
    simp only [l01In_eq, Option.bind_some, hx]
    by_cases c0 : 0 ≤ n.f0 ∧ n.f0 < (k : Int)
    · rw [if_pos (by simp; omega), if_pos c0.1, if_pos (by omega), decide_eq_true c0, Bool.true_and]
      by_cases c1 : (rd_T38 l n.f0).f2 = 0
      · rw [if_pos c1, decide_eq_true c1, Bool.true_and]
        by_cases c2 : 0 ≤ n.f1 ∧ n.f1 ≤ 3
        · rw [decide_eq_true c2, if_pos rfl, Bool.true_and]
          by_cases c3 : 0 ≤ n.f2 ∧ n.f2 ≤ 4
          · rw [decide_eq_true c3, if_neg (by simp), Bool.true_and, hin _ _ _ c0.1]
            cases (l.take k).any (sib_ n.f0 n.f1) <;> simp
          · rw [decide_eq_false c3]; simp
        · rw [decide_eq_false c2]; simp
      · rw [if_neg c1, decide_eq_false c1]; simp
    · rw [if_neg (by simp; omega), decide_eq_false c0]; simp
theorem stree_eq (l : List ND) (hl : l.length ≤ 9223372036854775807) (K : Nat) (hK : 200 < K) : spec_TreeOk.f K l = some (tree_ l) := by
  obtain ⟨K, rfl⟩ : ∃ m, K = m + 1 := ⟨K - 1, by omega⟩
  unfold spec_TreeOk.f tree_
  simp only [l01In_eq, Option.bind_some, spec_TreeOk.j0]
  by_cases c : 1 ≤ (l.length : Int) ∧ (l.length : Int) ≤ 12
  · rw [decide_eq_true c, if_pos rfl, if_pos (by omega), Bool.true_and]
    by_cases hr : root_ l = true
    · have hr0 : (rd_T38 l 0).f0 = -1 := by
        simp only [root_, Bool.and_eq_true, beq_iff_eq] at hr; exact hr.1
      have h := sl0_eq l (by omega) (by omega) hr0 (l.length - 1) K 1 (by omega) (by omega) (by omega)
      have hr2 := hr
      simp only [root_, Bool.and_eq_true, beq_iff_eq] at hr2
      rw [hr, Bool.true_and, if_neg (by simp [hr2])]
      exact h
    · rw [Bool.not_eq_true] at hr
      rw [hr, if_pos, Bool.false_and]
      unfold root_ at hr
      revert hr
      cases (rd_T38 l 0).f0 == -1 <;> cases (rd_T38 l 0).f1 == 0 <;> cases (rd_T38 l 0).f2 == 0 <;> simp
  · rw [decide_eq_false c, if_neg (by simp), Bool.false_and]; simp

theorem ssz_step (k : Nat) (hk : 21 < k) (f n : Int) (X : Option Bool) : (if n = 0 then X else (if f = 0 then (some false) else ((spec_IsPower.f k n).bind fun t133 => (if t133 = true then ((spec_l01In.f n 16 4096).bind fun t135 => (if t135 = true then X else (some false))) else (some false))))) = if szT f n = true then X else some false := by
  unfold szT
  by_cases h0 : n = 0
  · simp [h0]
  · rw [if_neg h0]
    by_cases h1 : f = 0
    · simp [h0, h1]
    · rw [if_neg h1, l01In_eq]
      by_cases h2 : 16 ≤ n ∧ n ≤ 4096
      · obtain ⟨m, rfl⟩ := Int.eq_ofNat_of_zero_le (show 0 ≤ n by omega)
        rw [spow_eq k hk m (by omega) (by omega)]
        simp only [obs, decide_eq_true h2, decide_eq_false h0, decide_eq_false h1, if_true, Bool.false_or, Bool.not_false, Bool.true_and, Int.toNat_natCast]
      · obtain ⟨b, hb⟩ := spow_some k hk n
        rw [hb]
        simp only [obs, decide_eq_false h2, decide_eq_false h0, Bool.false_and, Bool.and_false, Bool.false_or, Bool.false_eq_true, if_false]
        split <;> rfl
theorem ssz_eq (l : List ND) (s : List Int) (hs : s.length = l.length) (hl : l.length ≤ 12) : ∀ d K k, k + d = l.length → d + 30 < K → spec_SizesOk.l0 K l s (k : Int) = some (szs_ l s d k) := by
  intro d
  induction d with
  | zero =>
    intro K k hk hK
    obtain ⟨K, rfl⟩ : ∃ m, K = m + 1 := ⟨K - 1, by omega⟩
    simp only [spec_SizesOk.l0]
    rw [if_neg (by omega)]; rfl
  | succ d ih =>
    intro K k hk hK
    obtain ⟨K, rfl⟩ : ∃ m, K = m + 1 := ⟨K - 1, by omega⟩
    simp only [spec_SizesOk.l0]
    rw [if_pos (by omega), if_pos (by omega), if_pos (by omega), wr ((k : Int) + 1) (by omega) (by omega), show (k : Int) + 1 = ((k + 1 : Nat) : Int) by omega, ih K (k + 1) (by omega) (by omega), ssz_step K (by omega)]
    rw [szs_succ]
    cases szT (rd_T38 l (k : Int)).f2 (rd s (k : Int)) <;> simp
theorem ssizes_eq (l : List ND) (s : List Int) (hl : l.length ≤ 9223372036854775807) (K : Nat) (hK : 200 < K) : spec_SizesOk.f K l s = some (sizesOk_ l s) := by
  obtain ⟨K, rfl⟩ : ∃ m, K = m + 1 := ⟨K - 1, by omega⟩
  unfold spec_SizesOk.f sizesOk_
  rw [stree_eq l hl _ hK, obs]
  simp only [spec_SizesOk.j0]
  cases h : tree_ l
  · simp
  · have := tree_len h
    rw [if_pos rfl]
    by_cases e : s.length = l.length
    · rw [if_neg (by simp [e])]
      have h2 := ssz_eq l s e (by omega) l.length K 0 (by omega) (by omega)
      simp only [decide_eq_true e, Bool.true_and]
      exact h2
    · rw [if_pos (by simp; omega)]; simp [e]





theorem il0_eq (l : List ND) (h1 : 1 ≤ l.length) (hl : l.length ≤ 12) :
    ∀ d K (j : Nat), j + 1 + d = l.length → 2 * d < K → impl_TreeOk.l0 K l (l.drop 1) ((l.drop 1).length : Int) (j : Int) = some (rows_ l d (j + 1)) := by
  intro d
  have hd1 : (l.drop 1).length = l.length - 1 := by simp
  induction d with
  | zero =>
    intro K j hd hK
    obtain ⟨K, rfl⟩ : ∃ m, K = m + 1 := ⟨K - 1, by omega⟩
    simp only [impl_TreeOk.l0]
    rw [if_neg (by omega)]; rfl
  | succ d ih =>
    intro K j hd hK
    obtain ⟨K, rfl⟩ : ∃ m, K = m + 2 := ⟨K - 2, by omega⟩
    have e1 : ((j : Int) + 1) = ((j + 1 : Nat) : Int) := by omega
    have hrd : rd_T38 (l.drop 1) (j : Int) = rd_T38 l ((j + 1 : Nat) : Int) := by
      rw [rd_inode _ _ (by omega), rd_inode _ _ (by omega)]
      simp [Nat.add_comm]
    have hrt : ∀ p : Int, 0 ≤ p → p < ((j + 1 : Nat) : Int) → rd_T38 (l.take (j + 1)) p = rd_T38 l p := by
      intro p hp0 hp1
      obtain ⟨q, rfl⟩ : ∃ q : Nat, p = (q : Int) := ⟨p.toNat, by omega⟩
      rw [rd_inode _ _ (by simp; omega), rd_inode _ _ (by omega)]
      simp
    have hx : ∀ b p d' f, impl_TreeOk.j2 (K + 1) l (l.take (j + 1)) (l.drop 1) ((l.drop 1).length : Int) (j : Int) b p d' f = if b = true then some false else some (if (l.take (j + 1)).any (sib_ p d') then false else rows_ l d (j + 1 + 1)) := fun b p d' f => by
      simp only [impl_TreeOk.j2, impl_Node_impl_TreeOk_1.f, Option.bind_some]
      rw [wr ((j : Int) + 1) (by omega) (by omega), e1, ih K (j + 1) (by omega) (by omega)]
      unfold sib_
      cases b <;> cases (l.take (j + 1)).any (fun x => decide (x.f0 = p) && decide (x.f1 = d')) <;> simp
    simp only [impl_TreeOk.l0]
    rw [if_pos (by omega), if_pos (by omega), if_pos (by omega), wr ((j : Int) + 1) (by omega) (by omega), if_pos (by omega), if_pos (by omega), e1]
    rw [hrd, Int.toNat_natCast]
    unfold rows_ row_
    generalize hn : rd_T38 l ((j + 1 : Nat) : Int) = n
    simp only [within_eq, Option.bind_some, hx]
    have ht : ((l.take (j + 1)).length : Int) = ((j + 1 : Nat) : Int) := by simp; omega
    by_cases c0 : 0 ≤ n.f0 ∧ n.f0 < ((j + 1 : Nat) : Int)
    · rw [if_pos (by simp; omega), if_pos c0.1, if_pos (by rw [ht]; omega), decide_eq_true c0, Bool.true_and, hrt _ c0.1 c0.2]
      by_cases c1 : (rd_T38 l n.f0).f2 = 0
      · rw [if_pos c1, decide_eq_true c1, Bool.true_and]
        by_cases c2 : 0 ≤ n.f1 ∧ n.f1 ≤ 3
        · rw [decide_eq_true c2, if_pos rfl, Bool.true_and]
          by_cases c3 : 0 ≤ n.f2 ∧ n.f2 ≤ 4
          · rw [decide_eq_true c3, if_neg (by simp), Bool.true_and]
            cases (l.take (j + 1)).any (sib_ n.f0 n.f1) <;> simp
          · rw [decide_eq_false c3]; simp
        · rw [decide_eq_false c2]; simp
      · rw [if_neg c1, decide_eq_false c1]; simp
    · rw [if_neg (by simp; omega), decide_eq_false c0]; simp
theorem itree_eq (l : List ND) (hl : l.length ≤ 9223372036854775807) (K : Nat) (hK : 200 < K) : impl_TreeOk.f K l = some (tree_ l) := by
  obtain ⟨K, rfl⟩ : ∃ m, K = m + 1 := ⟨K - 1, by omega⟩
  unfold impl_TreeOk.f tree_
  simp only [within_eq, Option.bind_some, impl_TreeOk.j0]
  by_cases c : 1 ≤ (l.length : Int) ∧ (l.length : Int) ≤ 12
  · rw [decide_eq_true c, if_pos rfl, if_pos (by omega), Bool.true_and, if_pos (show (1 : Int) ≤ (l.length : Int) from c.1)]
    have h := il0_eq l (by omega) (by omega) (l.length - 1) K 0 (by omega) (by omega)
    by_cases hr : root_ l = true
    · have hr2 := hr
      simp only [root_, Bool.and_eq_true, beq_iff_eq] at hr2
      rw [hr, Bool.true_and, if_neg (by simp [hr2])]
      exact h
    · rw [Bool.not_eq_true] at hr
      rw [hr, if_pos, Bool.false_and]
      unfold root_ at hr
      revert hr
      cases (rd_T38 l 0).f0 == -1 <;> cases (rd_T38 l 0).f1 == 0 <;> cases (rd_T38 l 0).f2 == 0 <;> simp
  · rw [decide_eq_false c, if_neg (by simp), Bool.false_and]; simp

theorem isz_step (g : Bool) (f n : Int) (hg : g = (f == 0)) (X : Option Bool) : (if n = 0 then X else ((some g).bind fun t164 => (if t164 = true then (some false) else ((impl_IsPower.f n).bind fun t165 => (if t165 = true then ((impl_within.f n 16 4096).bind fun t166 => (if t166 = true then X else (some false))) else (some false)))))) = if szT f n = true then X else some false := by
  unfold szT
  by_cases h0 : n = 0
  · simp [h0]
  · rw [if_neg h0, obs, hg]
    by_cases h1 : f = 0
    · simp [h0, h1]
    · rw [if_neg (by simpa using h1), within_eq]
      by_cases h2 : 16 ≤ n ∧ n ≤ 4096
      · obtain ⟨m, rfl⟩ := Int.eq_ofNat_of_zero_le (show 0 ≤ n by omega)
        rw [ipow_eq m (by omega) (by omega)]
        simp only [obs, decide_eq_true h2, decide_eq_false h0, decide_eq_false h1, if_true, Bool.false_or, Bool.not_false, Bool.true_and, Int.toNat_natCast]
      · obtain ⟨b, hb⟩ := ipow_some n
        rw [hb]
        simp only [obs, decide_eq_false h2, decide_eq_false h0, Bool.false_and, Bool.and_false, Bool.false_or, Bool.false_eq_true, if_false]
        split <;> rfl
theorem isz_eq (l : List ND) (s : List Int) (hs : s.length = l.length) (hl : l.length ≤ 12) : ∀ d K k, k + d = l.length → d + 30 < K → impl_SizesOk.l0 K l s (s.length : Int) (k : Int) = some (szs_ l s d k) := by
  intro d
  induction d with
  | zero =>
    intro K k hk hK
    obtain ⟨K, rfl⟩ : ∃ m, K = m + 1 := ⟨K - 1, by omega⟩
    simp only [impl_SizesOk.l0]
    rw [if_neg (by omega)]; rfl
  | succ d ih =>
    intro K k hk hK
    obtain ⟨K, rfl⟩ : ∃ m, K = m + 1 := ⟨K - 1, by omega⟩
    simp only [impl_SizesOk.l0]
    rw [if_pos (by omega), if_pos (by omega), if_pos (by omega), wr ((k : Int) + 1) (by omega) (by omega), show (k : Int) + 1 = ((k + 1 : Nat) : Int) by omega, ih K (k + 1) (by omega) (by omega), bridge_eq l k (by omega), isz_step _ _ _ rfl]
    rw [szs_succ]
    cases szT (rd_T38 l (k : Int)).f2 (rd s (k : Int)) <;> simp
theorem isizes_eq (l : List ND) (s : List Int) (hl : l.length ≤ 9223372036854775807) (K : Nat) (hK : 200 < K) : impl_SizesOk.f K l s = some (sizesOk_ l s) := by
  obtain ⟨K, rfl⟩ : ∃ m, K = m + 1 := ⟨K - 1, by omega⟩
  unfold impl_SizesOk.f sizesOk_
  rw [itree_eq l hl _ hK, obs]
  simp only [impl_SizesOk.j0]
  cases h : tree_ l
  · simp
  · have := tree_len h
    rw [if_pos rfl]
    by_cases e : s.length = l.length
    · rw [if_neg (by simp [e])]
      have h2 := isz_eq l s e (by omega) l.length K 0 (by omega) (by omega)
      simp only [decide_eq_true e, Bool.true_and]
      exact h2
    · rw [if_pos (by simp; omega)]; simp [e]

theorem FnExactSizesOk (l0 : List (S58)) (l1 : List Int)
    (h0 : l0.length ≤ 9223372036854775807) (h1 : (∀ y ∈ l0, ((Lit.int .i64 y.f0).wf = true) ∧ ((Lit.int .i64 y.f1).wf = true) ∧ ((Lit.int .i64 y.f2).wf = true))) (h2 : l1.length ≤ 9223372036854775807) (h3 : (∀ y ∈ l1, (Lit.int .i64 y).wf = true)) :
    ∃ k, laws_FnExactSizesOk.f k l0 l1 = some true := by
  obtain ⟨k, hk⟩ : ∃ k : Nat, 1048576 < k := ⟨1048577, by omega⟩
  refine ⟨k, ?_⟩
  unfold laws_FnExactSizesOk.f
  by_cases hb1 : (l1.length : Int) > 1048576
  · rw [if_pos hb1]
  · rw [if_neg hb1, szNodeS_eq l0 1048576 h0 (by omega) (by omega)]
    by_cases hb : (1048576 : Int) < (l0.length : Int)
    · simp [hb]
    · have hl : l0.length ≤ 1048576 := by omega
      have hm : (l0.map toNd).length ≤ 1048576 := by simpa using hl
      simp only [if_neg hb, obs]
      rw [if_neg (by omega)]
      simp only [toNodeS_eq k l0 hl (by omega), toIntS_eq k l1 (by omega) (by omega), obs, ssizes_eq _ l1 (by omega : (l0.map toNd).length ≤ 9223372036854775807) k (by omega), isizes_eq _ l1 (by omega : (l0.map toNd).length ≤ 9223372036854775807) k (by omega), eqNodeS_eq k _ _ hm (by omega), eqIntS_eq k l1 l1 (by omega) (by omega)]
      simp

end Go.Proofs.Ytbgmbhhbonpoaaa.Pure
