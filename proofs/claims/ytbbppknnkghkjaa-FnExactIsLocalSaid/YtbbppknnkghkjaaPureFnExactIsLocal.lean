/- Of every tree, every numbering and every two numbers: the program's IsLocal and the reference's are one function. -/
import Derived.Test.YtbbppknnkghkjaaPFnExactIsLocalx22
import Derived.Test.YtbbppknnkghkjaaCom
namespace Go.Proofs.Ytbbppknnkghkjaa.Pure
open Go.RowKit Go.Proofs.Ytbbppknnkghkjaa.PFnExactIsLocal Go.Proofs.YtbbppknnkghkjaaW.PrintWords Go.Proofs.YtbbppknnkghkjaaW.PrintLast Go.Proofs.YtbbppknnkghkjaaW.PrintMore Go.Proofs.Ytbbppknnkghkjaa.Com
set_option linter.unusedVariables false
set_option linter.unusedSimpArgs false
theorem within_eq (a b c : Int) : impl_within.f a b c = some (decide (b ≤ a ∧ a ≤ c)) := by
 unfold impl_within.f; by_cases h : a ≥ b <;> simp [h]
def bus_ (id : Int) : Int := id / 16
def dev_ (id : Int) : Int := id / 4 % 4
def fun_ (id : Int) : Int := id % 4
theorem tdiv_w (id c : Int) (h0 : 0 ≤ id) (h1 : id ≤ 255) (hc : 0 < c) : wrap64 (Int.tdiv id c) = id / c := by
 rw [Int.tdiv_eq_ediv_of_nonneg h0]
 have h2 : 0 ≤ id / c := Int.ediv_nonneg h0 (by omega)
 have h3 : id / c ≤ id := Int.ediv_le_self c h0
 exact wr _ (by omega) (by omega)
abbrev ND := S50
def sib_ (p d : Int) (x : ND) : Bool := decide (x.f0 = p) && decide (x.f1 = d)
def row_ (l : List ND) (k : Nat) (n : ND) : Bool :=
 decide (0 ≤ n.f0 ∧ n.f0 < (k : Int)) && (decide ((rd_T50 l n.f0).f2 = 0) && (decide (0 ≤ n.f1 ∧ n.f1 ≤ 3) && (decide (0 ≤ n.f2 ∧ n.f2 ≤ 4) && !(l.take k).any (sib_ n.f0 n.f1))))
def rows_ (l : List ND) : Nat → Nat → Bool
 | 0, _ => true
 | d + 1, k => row_ l k (rd_T50 l (k : Int)) && rows_ l d (k + 1)
def root_ (l : List ND) : Bool := (rd_T50 l 0).f0 == (-1) && ((rd_T50 l 0).f1 == 0 && (rd_T50 l 0).f2 == 0)
def tree_ (l : List ND) : Bool := decide (1 ≤ (l.length : Int) ∧ (l.length : Int) ≤ 12) && (root_ l && rows_ l (l.length - 1) 1)
theorem tree_len {l : List ND} (h : tree_ l = true) : 1 ≤ l.length ∧ l.length ≤ 12 := by
 simp only [tree_, Bool.and_eq_true, decide_eq_true_eq] at h; omega
theorem tree_root {l : List ND} (h : tree_ l = true) : (rd_T50 l 0).f0 = -1 := by
 simp only [tree_, root_, Bool.and_eq_true, decide_eq_true_eq, beq_iff_eq] at h; exact h.2.1.1
theorem rows_row (l : List ND) : ∀ d k j, rows_ l d k = true → k ≤ j → j < k + d → row_ l j (rd_T50 l (j : Int)) = true := by
 intro d
 induction d with
 | zero => intro k j _ _ _; omega
 | succ d ih =>
  intro k j h h1 h2
  simp only [rows_, Bool.and_eq_true] at h
  by_cases e : j = k
  ·subst e; exact h.1
  ·exact ih (k + 1) j h.2 (by omega) (by omega)
theorem tree_row {l : List ND} (h : tree_ l = true) (j : Nat) (h0 : 0 < j) (h1 : j < l.length) : row_ l j (rd_T50 l (j : Int)) = true := by
 simp only [tree_, Bool.and_eq_true] at h
 exact rows_row l _ 1 j h.2.2 (by omega) (by omega)
theorem tree_parent {l : List ND} (h : tree_ l = true) (j : Nat) (h0 : 0 < j) (h1 : j < l.length) : 0 ≤ (rd_T50 l (j : Int)).f0 ∧ (rd_T50 l (j : Int)).f0 < (j : Int) := by
 have := tree_row h j h0 h1
 simp only [row_, Bool.and_eq_true, decide_eq_true_eq] at this
 exact this.1
def up_ (l : List ND) : Nat → Int → List Int
 | 0, _ => []
 | d + 1, x => if 0 ≤ x then x :: up_ l d (rd_T50 l x).f0 else []
def isn_ (l : List ND) (x : Int) : Bool := tree_ l && decide (0 ≤ x ∧ x < (l.length : Int))
def path_ (l : List ND) (x : Int) : List Int := if isn_ l x = true then (up_ l 13 x).reverse else []
theorem up_len (l : List ND) : ∀ d x, (up_ l d x).length ≤ d := by
 intro d
 induction d with
 | zero => intro x; simp [up_]
 | succ d ih =>
  intro x
  unfold up_
  split
  ·have := ih (rd_T50 l x).f0; simp; omega
  ·simp
theorem path_len (l : List ND) (x : Int) : (path_ l x).length ≤ 13 := by
 unfold path_
 split
 ·rw [List.length_reverse]; exact up_len l 13 x
 ·simp
theorem parent_lt {l : List ND} (h : tree_ l = true) (x : Int) (h0 : 0 ≤ x) (h1 : x < (l.length : Int)) : -1 ≤ (rd_T50 l x).f0 ∧ (rd_T50 l x).f0 < x := by
 obtain ⟨j, rfl⟩ : ∃ j : Nat, x = (j : Int) := ⟨x.toNat, by omega⟩
 by_cases hj : j = 0
 ·subst hj; have := tree_root h; have e : (((0 : Nat) : Int)) = 0 := rfl; rw [e, this]; omega
 ·have := tree_parent h j (by omega) (by omega); omega
theorem isn_tree {l : List ND} {x : Int} (h : isn_ l x = true) : tree_ l = true ∧ 0 ≤ x ∧ x < (l.length : Int) := by
 simpa only [isn_, Bool.and_eq_true, decide_eq_true_eq] using h
def ixs_ (l : List ND) (p : ND → Bool) : Nat → Nat → List Int
 | 0, _ => []
 | d + 1, i => if p (rd_T50 l (i : Int)) = true then (i : Int) :: ixs_ l p d (i + 1) else ixs_ l p d (i + 1)
def kid_ (x d : Int) (n : ND) : Bool := decide (n.f0 = x) && decide (n.f1 = d)
def kidsAt_ (l : List ND) (x d : Int) : List Int := ixs_ l (kid_ x d) (l.length - 1) 1
def kids_ (l : List ND) (x : Int) : List Int := if isn_ l x = true then kidsAt_ l x 0 ++ (kidsAt_ l x 1 ++ (kidsAt_ l x 2 ++ kidsAt_ l x 3)) else []
theorem ixs_succ (l : List ND) (p : ND → Bool) (d i : Nat) : ixs_ l p (d + 1) i = if p (rd_T50 l (i : Int)) = true then (i : Int) :: ixs_ l p d (i + 1) else ixs_ l p d (i + 1) := rfl
theorem ixs_len (l : List ND) (p : ND → Bool) : ∀ d i, (ixs_ l p d i).length ≤ d := by
 intro d
 induction d with
 | zero => intro i; simp [ixs_]
 | succ d ih => intro i; have := ih (i + 1); rw [ixs_succ]; split <;> simp <;> omega
theorem ixs_mem (l : List ND) (p : ND → Bool) : ∀ d i (y : Int), y ∈ ixs_ l p d i → (i : Int) ≤ y ∧ y < ((i + d : Nat) : Int) ∧ p (rd_T50 l y) = true := by
 intro d
 induction d with
 | zero => intro i y h; simp [ixs_] at h
 | succ d ih =>
  intro i y h
  rw [ixs_succ] at h
  split at h
  ·rename_i hp
   rcases List.mem_cons.1 h with rfl | h
   ·exact ⟨by omega, by omega, hp⟩
   ·obtain ⟨a, b, c⟩ := ih _ _ h; exact ⟨by omega, by omega, c⟩
  ·obtain ⟨a, b, c⟩ := ih _ _ h; exact ⟨by omega, by omega, c⟩
theorem ixs_filter (l : List ND) (p q : ND → Bool) : ∀ d i, (ixs_ l p d i).filter (fun y => q (rd_T50 l y)) = ixs_ l (fun n => p n && q n) d i := by
 intro d
 induction d with
 | zero => intro i; rfl
 | succ d ih =>
  intro i
  rw [ixs_succ, ixs_succ]
  cases hp : p (rd_T50 l (i : Int)) <;> cases hq : q (rd_T50 l (i : Int)) <;> simp [ih, hq]
theorem kidsAt_len (l : List ND) (x d : Int) (hl : l.length ≤ 12) : (kidsAt_ l x d).length ≤ 12 := by
 have := ixs_len l (kid_ x d) (l.length - 1) 1; unfold kidsAt_; omega
theorem kids_len (l : List ND) (x : Int) : (kids_ l x).length ≤ 48 := by
 unfold kids_
 split
 ·rename_i h
  obtain ⟨t, _⟩ := isn_tree h
  have t1 := (tree_len t).2
  have z0 := kidsAt_len l x 0 t1; have z1 := kidsAt_len l x 1 t1; have z2 := kidsAt_len l x 2 t1; have z3 := kidsAt_len l x 3 t1
  simp; omega
 ·simp
theorem ixs_skip (l : List ND) (p : ND → Bool) : ∀ e d i, (∀ j : Nat, i ≤ j → j < i + e → p (rd_T50 l (j : Int)) = false) → ixs_ l p (e + d) i = ixs_ l p d (i + e) := by
 intro e
 induction e with
 | zero => intro d i _; rw [Nat.zero_add]; rfl
 | succ e ih =>
  intro d i h
  rw [show e + 1 + d = (e + d) + 1 by omega, ixs_succ, if_neg (by rw [h i (by omega) (by omega)]; simp), ih d (i + 1) (fun j h1 h2 => h j (by omega) (by omega))]
  rw [show i + 1 + e = i + (e + 1) by omega]
theorem kidsAt_skip (l : List ND) (h : tree_ l = true) (x c : Int) (h0 : 0 ≤ x) (h1 : x < (l.length : Int)) : kidsAt_ l x c = ixs_ l (kid_ x c) (l.length - 1 - x.toNat) (x.toNat + 1) := by
 unfold kidsAt_
 rw [show l.length - 1 = x.toNat + (l.length - 1 - x.toNat) by omega, ixs_skip l _ x.toNat _ 1 (fun j h2 h3 => by
  have := tree_parent h j (by omega) (by omega)
  unfold kid_
  rw [decide_eq_false (by omega)]; rfl)]
 rw [show x.toNat + (l.length - 1 - x.toNat) - x.toNat = l.length - 1 - x.toNat by omega, Nat.add_comm 1]
theorem kids_mem (l : List ND) (h : tree_ l = true) (x y : Int) (h0 : 0 ≤ x) (h1 : x < (l.length : Int)) (hy : y ∈ kids_ l x) : x < y ∧ y < (l.length : Int) := by
 have hk : ∀ c, y ∈ kidsAt_ l x c → x < y ∧ y < (l.length : Int) := fun c hc => by
  rw [kidsAt_skip l h x c h0 h1] at hc
  have := ixs_mem _ _ _ _ _ hc
  omega
 unfold kids_ at hy
 split at hy
 ·rcases List.mem_append.1 hy with hy | hy
  ·exact hk 0 hy
  ·rcases List.mem_append.1 hy with hy | hy
   ·exact hk 1 hy
   ·rcases List.mem_append.1 hy with hy | hy
    ·exact hk 2 hy
    ·exact hk 3 hy
 ·simp at hy
theorem one_le_pow (m : Nat) : (1 : Int) ≤ 2 ^ m := by
 have h : (0 : Int) < 2 ^ m := Int.pow_pos (by omega)
 omega
def bd_ (y : Int) : Int := 2 ^ (11 - y.toNat) * 4096
theorem bd_half (y : Int) (h0 : 0 ≤ y) (h1 : y < 11) : bd_ y = bd_ (y + 1) * 2 := by
 unfold bd_
 rw [show 11 - y.toNat = (11 - (y + 1).toNat) + 1 by omega, Int.pow_succ]
 rw [Int.mul_assoc, Int.mul_assoc]; rfl
theorem bd_pos (y : Int) : 4096 ≤ bd_ y := by
 unfold bd_
 have h1 : (1 : Int) ≤ 2 ^ (11 - y.toNat) := one_le_pow _
 omega
theorem bsum_le (l : List ND) (x : Int) (hl : l.length ≤ 12) : ∀ d i, i + d = l.length → ((ixs_ l (kid_ x 0) d i).map bd_).sum + ((ixs_ l (kid_ x 1) d i).map bd_).sum + ((ixs_ l (kid_ x 2) d i).map bd_).sum + ((ixs_ l (kid_ x 3) d i).map bd_).sum ≤ (if i < 12 then 2 * bd_ (i : Int) - 4096 else 0) := by
 intro d
 induction d with
 | zero => intro i h; have := bd_pos (i : Int); simp [ixs_]; split <;> omega
 | succ d ih =>
  intro i h
  have h1 := ih (i + 1) (by omega)
  have hb : (if i + 1 < 12 then 2 * bd_ ((i + 1 : Nat) : Int) - 4096 else 0) ≤ bd_ (i : Int) - 4096 := by
   split
   ·have := bd_half (i : Int) (by omega) (by omega); rw [show ((i + 1 : Nat) : Int) = (i : Int) + 1 by omega]; omega
   ·have := bd_pos (i : Int); omega
  have hp := bd_pos (i : Int)
  rw [if_pos (by omega), ixs_succ, ixs_succ, ixs_succ, ixs_succ]
  simp only [kid_]
  by_cases a : (rd_T50 l (i : Int)).f0 = x
  ·by_cases b0 : (rd_T50 l (i : Int)).f1 = 0
   ·simp [a, b0]; omega
   ·by_cases b1 : (rd_T50 l (i : Int)).f1 = 1
    ·simp [a, b1]; omega
    ·by_cases b2 : (rd_T50 l (i : Int)).f1 = 2
     ·simp [a, b2]; omega
     ·by_cases b3 : (rd_T50 l (i : Int)).f1 = 3
      ·simp [a, b3]; omega
      ·simp [a, b0, b1, b2, b3]; omega
  ·simp [a]; omega
theorem sum_le (f g : Int → Int) : ∀ ks : List Int, (∀ y ∈ ks, 0 ≤ f y ∧ f y ≤ g y) → 0 ≤ (ks.map f).sum ∧ (ks.map f).sum ≤ (ks.map g).sum := by
 intro ks
 induction ks with
 | nil => intro _; simp
 | cons a t ih =>
  intro h
  have := ih (fun y hy => h y (List.mem_cons_of_mem _ hy))
  have := h a (List.mem_cons_self)
  simp only [List.map_cons, List.sum_cons]; omega
theorem drop_sum (f : Int → Int) (ks : List Int) (i : Nat) (h : i < ks.length) : ((ks.drop i).map f).sum = f ks[i] + ((ks.drop (i + 1)).map f).sum := by
 rw [List.drop_eq_getElem_cons h, List.map_cons, List.sum_cons]
theorem drop_sum_nn (f : Int → Int) (ks : List Int) (h : ∀ y ∈ ks, 0 ≤ f y) (i : Nat) : 0 ≤ ((ks.drop i).map f).sum :=
 (sum_le f f (ks.drop i) (fun y hy => ⟨h y (List.mem_of_mem_drop hy), Int.le_refl _⟩)).1
theorem kids_bd2 (l : List ND) (h : tree_ l = true) (x : Int) (h0 : 0 ≤ x) (h1 : x < (l.length : Int)) : ((kids_ l x).map bd_).sum ≤ bd_ x - 4096 := by
 have t := (tree_len h).2
 have hi : isn_ l x = true := by simp [isn_, h]; omega
 have hs := bsum_le l x t (l.length - 1 - x.toNat) (x.toNat + 1) (by omega)
 unfold kids_
 rw [if_pos hi, kidsAt_skip l h x 0 h0 h1, kidsAt_skip l h x 1 h0 h1, kidsAt_skip l h x 2 h0 h1, kidsAt_skip l h x 3 h0 h1]
 simp only [List.map_append, List.sum_append]
 have hp := bd_pos x
 split at hs
 ·have := bd_half x h0 (by omega)
  rw [show ((x.toNat + 1 : Nat) : Int) = x + 1 by omega] at hs
  omega
 ·omega
theorem tree_f2 {l : List ND} (h : tree_ l = true) (j : Nat) (h1 : j < l.length) : 0 ≤ (rd_T50 l (j : Int)).f2 ∧ (rd_T50 l (j : Int)).f2 ≤ 4 := by
 by_cases hj : j = 0
 ·subst hj
  simp only [tree_, root_, Bool.and_eq_true, decide_eq_true_eq, beq_iff_eq] at h
  have e : (((0 : Nat) : Int)) = 0 := rfl
  rw [e, h.2.1.2.2]; omega
 ·have := tree_row h j (by omega) h1
  simp only [row_, Bool.and_eq_true, decide_eq_true_eq] at this
  exact this.2.2.2.1
theorem obs {α β : Type} (a : α) (f : α → Option β) : (some a).bind f = f a := by rw [Option.bind_some]
abbrev VT := Int × List Int × List Int × List Int
def vstep_ (l : List ND) (b : Int) (V : Int → Int → List Int → List Int → List Int → VT) (a : VT) (c : Int) : VT :=
 if (rd_T50 l c).f2 = 0 then V c (a.1 + 1) (a.2.1.set c.toNat b) a.2.2.1 a.2.2.2 else (a.1, a.2.1.set c.toNat b, a.2.2.1, a.2.2.2)
def vis_ (l : List ND) : Nat → Int → Int → List Int → List Int → List Int → VT
 | 0, _, b, B, S, L => (b, B, S, L)
 | n + 1, k, b, B, S, L =>
  (((kids_ l k).foldl (vstep_ l b (vis_ l n)) (b, B, S.set k.toNat b, L)).1, ((kids_ l k).foldl (vstep_ l b (vis_ l n)) (b, B, S.set k.toNat b, L)).2.1, ((kids_ l k).foldl (vstep_ l b (vis_ l n)) (b, B, S.set k.toNat b, L)).2.2.1,
   ((kids_ l k).foldl (vstep_ l b (vis_ l n)) (b, B, S.set k.toNat b, L)).2.2.2.set k.toNat ((kids_ l k).foldl (vstep_ l b (vis_ l n)) (b, B, S.set k.toNat b, L)).1)
def vend_ (k : Int) (r : VT) : VT := (r.1, r.2.1, r.2.2.1, r.2.2.2.set k.toNat r.1)
theorem vis_succ (l : List ND) (n : Nat) (k b : Int) (B S L : List Int) : vis_ l (n + 1) k b B S L = vend_ k ((kids_ l k).foldl (vstep_ l b (vis_ l n)) (b, B, S.set k.toNat b, L)) := rfl
theorem rd_set (xs : List Int) (i : Nat) (v j : Int) : rd (xs.set i v) j = if j.toNat = i ∧ i < xs.length then v else rd xs j := by
 unfold rd
 rw [List.getD_eq_getElem?_getD, List.getD_eq_getElem?_getD, List.getElem?_set]
 by_cases e : i = j.toNat
 ·subst e
  by_cases h : j.toNat < xs.length
  ·simp [h]
  ·simp [h]
 ·rw [if_neg e, if_neg (fun h => e h.1.symm)]
def vlen_ (N : Nat) (a : VT) : Prop := a.2.1.length = N ∧ a.2.2.1.length = N ∧ a.2.2.2.length = N
def vok_ (N : Nat) (k b : Int) (S : List Int) (r : VT) : Prop := vlen_ N r ∧ b ≤ r.1 ∧ r.1 ≤ b + bd_ k - 1 ∧ ∀ j, 0 ≤ j → j < k → rd r.2.2.1 j = rd S j
theorem vfold_ok (l : List ND) (b k : Int) (N : Nat) (V : Int → Int → List Int → List Int → List Int → VT) : ∀ (ks : List Int) (a : VT), (∀ c ∈ ks, k < c ∧ ∀ b' B S L, vlen_ N (b', B, S, L) → vok_ N c b' S (V c b' B S L)) → vlen_ N a →
  vlen_ N (ks.foldl (vstep_ l b V) a) ∧ a.1 ≤ (ks.foldl (vstep_ l b V) a).1 ∧ (ks.foldl (vstep_ l b V) a).1 ≤ a.1 + (ks.map bd_).sum ∧ ∀ j, 0 ≤ j → j ≤ k → rd (ks.foldl (vstep_ l b V) a).2.2.1 j = rd a.2.2.1 j := by
 intro ks
 induction ks with
 | nil => intro a _ ha; exact ⟨ha, Int.le_refl _, by simp, fun _ _ _ => rfl⟩
 | cons c t ih =>
  intro a hV ha
  have hc := hV c List.mem_cons_self
  have hp := bd_pos c
  have hlen : vlen_ N (a.1 + 1, a.2.1.set c.toNat b, a.2.2.1, a.2.2.2) := ⟨by simp only [List.length_set]; exact ha.1, ha.2.1, ha.2.2⟩
  simp only [List.foldl_cons, List.map_cons, List.sum_cons]
  by_cases g : (rd_T50 l c).f2 = 0
  ·have e : vstep_ l b V a c = V c (a.1 + 1) (a.2.1.set c.toNat b) a.2.2.1 a.2.2.2 := by unfold vstep_; rw [if_pos g]
   rw [e]
   obtain ⟨h1, h2, h3, h4⟩ := hc.2 (a.1 + 1) (a.2.1.set c.toNat b) a.2.2.1 a.2.2.2 hlen
   obtain ⟨i1, i2, i3, i4⟩ := ih (V c (a.1 + 1) (a.2.1.set c.toNat b) a.2.2.1 a.2.2.2) (fun d hd => hV d (List.mem_cons_of_mem _ hd)) h1
   exact ⟨i1, by omega, by omega, fun j j0 j1 => (i4 j j0 j1).trans (h4 j j0 (by omega))⟩
  ·have e : vstep_ l b V a c = (a.1, a.2.1.set c.toNat b, a.2.2.1, a.2.2.2) := by unfold vstep_; rw [if_neg g]
   rw [e]
   obtain ⟨i1, i2, i3, i4⟩ := ih (a.1, a.2.1.set c.toNat b, a.2.2.1, a.2.2.2) (fun d hd => hV d (List.mem_cons_of_mem _ hd)) ⟨hlen.1, hlen.2.1, hlen.2.2⟩
   exact ⟨i1, i2, by omega, i4⟩
theorem vis_ok (l : List ND) (h : tree_ l = true) (N : Nat) : ∀ (n : Nat) (k b : Int) (B S L : List Int), 0 ≤ k → k < (l.length : Int) → vlen_ N (b, B, S, L) → vok_ N k b S (vis_ l n k b B S L) := by
 intro n
 induction n with
 | zero => intro k b B S L _ _ hl; have := bd_pos k; exact ⟨hl, by show b ≤ b; omega, by show b ≤ b + bd_ k - 1; omega, fun _ _ _ => rfl⟩
 | succ n ih =>
  intro k b B S L h0 h1 hl
  have hs := kids_bd2 l h k h0 h1
  obtain ⟨i1, i2, i3, i4⟩ := vfold_ok l b k N (vis_ l n) (kids_ l k) (b, B, S.set k.toNat b, L) (fun c hc => by
   have := kids_mem l h k c h0 h1 hc
   exact ⟨this.1, fun b' B S L hl => ih c b' B S L (by omega) this.2 hl⟩) ⟨hl.1, by simp only [List.length_set]; exact hl.2.1, hl.2.2⟩
  rw [vis_succ]
  unfold vend_
  refine ⟨⟨i1.1, i1.2.1, by simp only [List.length_set]; exact i1.2.2⟩, i2, by simp only at i3 ⊢; omega, fun j j0 j1 => ?_⟩
  rw [i4 j j0 (by omega)]
  show rd (S.set k.toNat b) j = rd S j
  rw [rd_set, if_neg (by omega)]
def cov_ (l : List ND) : Nat → Int → List Int
 | 0, _ => []
 | n + 1, k => (kids_ l k).flatMap fun c => c :: (if (rd_T50 l c).f2 = 0 then cov_ l n c else [])
theorem cov_succ (l : List ND) (n : Nat) (k : Int) : cov_ l (n + 1) k = (kids_ l k).flatMap fun c => c :: (if (rd_T50 l c).f2 = 0 then cov_ l n c else []) := rfl
theorem cov_iff (l : List ND) (n : Nat) (k x : Int) : x ∈ cov_ l (n + 1) k ↔ ∃ c ∈ kids_ l k, x = c ∨ (rd_T50 l c).f2 = 0 ∧ x ∈ cov_ l n c := by
 rw [cov_succ, List.mem_flatMap]
 constructor
 ·rintro ⟨c, hc, hx⟩
  refine ⟨c, hc, ?_⟩
  rcases List.mem_cons.1 hx with rfl | hx
  ·exact .inl rfl
  ·split at hx
   ·exact .inr ⟨by assumption, hx⟩
   ·simp at hx
 ·rintro ⟨c, hc, rfl | ⟨g, hx⟩⟩
  ·exact ⟨x, hc, List.mem_cons_self⟩
  ·exact ⟨c, hc, List.mem_cons_of_mem _ (by rw [if_pos g]; exact hx)⟩
theorem cov_mono (l : List ND) : ∀ (n : Nat) (k x : Int), x ∈ cov_ l n k → x ∈ cov_ l (n + 1) k := by
 intro n
 induction n with
 | zero => intro k x h; simp [cov_] at h
 | succ n ih =>
  intro k x h
  obtain ⟨c, hc, e⟩ := (cov_iff l n k x).1 h
  exact (cov_iff l (n + 1) k x).2 ⟨c, hc, e.imp id (fun e => ⟨e.1, ih c x e.2⟩)⟩
theorem cov_le (l : List ND) (n m : Nat) (h : n ≤ m) (k x : Int) (hx : x ∈ cov_ l n k) : x ∈ cov_ l m k := by
 induction h with
 | refl => exact hx
 | step _ ih => exact cov_mono l _ k x ih
theorem cov_kid (l : List ND) : ∀ (n : Nat) (k x y : Int), x ∈ cov_ l n k → (rd_T50 l x).f2 = 0 → y ∈ kids_ l x → y ∈ cov_ l (n + 1) k := by
 intro n
 induction n with
 | zero => intro k x y h; simp [cov_] at h
 | succ n ih =>
  intro k x y h g hy
  obtain ⟨c, hc, e⟩ := (cov_iff l n k x).1 h
  refine (cov_iff l (n + 1) k y).2 ⟨c, hc, ?_⟩
  rcases e with rfl | ⟨g2, e⟩
  ·exact .inr ⟨g, (cov_iff l n x y).2 ⟨y, hy, .inl rfl⟩⟩
  ·exact .inr ⟨g2, ih c x y e g hy⟩
theorem isn_of {l : List ND} {x : Int} (h : tree_ l = true) (h0 : 0 ≤ x) (h1 : x < (l.length : Int)) : isn_ l x = true := by
 unfold isn_; rw [h, Bool.true_and, decide_eq_true_eq]; exact ⟨h0, h1⟩
theorem ixs_of (l : List ND) (p : ND → Bool) : ∀ (d i j : Nat), i ≤ j → j < i + d → p (rd_T50 l (j : Int)) = true → (j : Int) ∈ ixs_ l p d i := by
 intro d
 induction d with
 | zero => intro i j _ _ _; omega
 | succ d ih =>
  intro i j h1 h2 h3
  rw [ixs_succ]
  by_cases e : j = i
  ·subst e; rw [if_pos h3]; exact List.mem_cons_self
  ·have := ih (i + 1) j (by omega) (by omega) h3
   split
   ·exact List.mem_cons_of_mem _ this
   ·exact this
theorem kids_of (l : List ND) (h : tree_ l = true) (j : Nat) (h0 : 0 < j) (h1 : j < l.length) : (j : Int) ∈ kids_ l (rd_T50 l (j : Int)).f0 := by
 have hp := tree_parent h j h0 h1
 have hr := tree_row h j h0 h1
 simp only [row_, Bool.and_eq_true, decide_eq_true_eq] at hr
 have hd := hr.2.2.1
 unfold kids_
 rw [if_pos (isn_of h hp.1 (by omega))]
 have hk : ∀ c : Int, (rd_T50 l (j : Int)).f1 = c → (j : Int) ∈ kidsAt_ l (rd_T50 l (j : Int)).f0 c := fun c hc => ixs_of l _ (l.length - 1) 1 j (by omega) (by omega) (by unfold kid_; rw [hc]; simp)
 by_cases c0 : (rd_T50 l (j : Int)).f1 = 0
 ·exact List.mem_append.2 (.inl (hk 0 c0))
 ·by_cases c1 : (rd_T50 l (j : Int)).f1 = 1
  ·exact List.mem_append.2 (.inr (List.mem_append.2 (.inl (hk 1 c1))))
  ·by_cases c2 : (rd_T50 l (j : Int)).f1 = 2
   ·exact List.mem_append.2 (.inr (List.mem_append.2 (.inr (List.mem_append.2 (.inl (hk 2 c2))))))
   ·exact List.mem_append.2 (.inr (List.mem_append.2 (.inr (List.mem_append.2 (.inr (hk 3 (by omega)))))))
theorem cov_all (l : List ND) (h : tree_ l = true) : ∀ (j : Nat), 0 < j → j < l.length → (j : Int) ∈ cov_ l j 0 := by
 intro j
 induction j using Nat.strongRecOn with
 | _ j ih =>
  intro h0 h1
  have hp := tree_parent h j h0 h1
  have hk := kids_of l h j h0 h1
  have hr := tree_row h j h0 h1
  simp only [row_, Bool.and_eq_true, decide_eq_true_eq] at hr
  obtain ⟨q, hq⟩ : ∃ q : Nat, (rd_T50 l (j : Int)).f0 = (q : Int) := ⟨(rd_T50 l (j : Int)).f0.toNat, by omega⟩
  rw [hq] at hk hp hr
  obtain ⟨i, rfl⟩ : ∃ i, j = i + 1 := ⟨j - 1, by omega⟩
  by_cases e : q = 0
  ·subst e
   exact (cov_iff l i 0 _).2 ⟨_, hk, .inl rfl⟩
  ·exact cov_le l (q + 1) (i + 1) (by omega) 0 _ (cov_kid l q 0 (q : Int) _ (ih q (by omega) (by omega) (by omega)) hr.2.1 hk)
theorem vis_two (l : List ND) : ∀ (n : Nat) (k b : Int) (B1 B2 S L : List Int), B1.length = B2.length → (vis_ l n k b B1 S L).1 = (vis_ l n k b B2 S L).1 ∧ (vis_ l n k b B1 S L).2.2 = (vis_ l n k b B2 S L).2.2 ∧ (vis_ l n k b B1 S L).2.1.length = (vis_ l n k b B2 S L).2.1.length ∧
  ∀ j, 0 ≤ j → (rd B1 j = rd B2 j ∨ j ∈ cov_ l n k) → (∀ x ∈ cov_ l n k, 0 ≤ x) → rd (vis_ l n k b B1 S L).2.1 j = rd (vis_ l n k b B2 S L).2.1 j := by
 intro n
 induction n with
 | zero => intro k b B1 B2 S L hl; exact ⟨rfl, rfl, hl, fun j _ h _ => h.elim id (fun h => by simp [cov_] at h)⟩
 | succ n ih =>
  intro k b B1 B2 S L hl
  have fold : ∀ (ks : List Int) (a : Int) (B1 B2 S L : List Int), B1.length = B2.length → (ks.foldl (vstep_ l b (vis_ l n)) (a, B1, S, L)).1 = (ks.foldl (vstep_ l b (vis_ l n)) (a, B2, S, L)).1 ∧ (ks.foldl (vstep_ l b (vis_ l n)) (a, B1, S, L)).2.2 = (ks.foldl (vstep_ l b (vis_ l n)) (a, B2, S, L)).2.2 ∧
    (ks.foldl (vstep_ l b (vis_ l n)) (a, B1, S, L)).2.1.length = (ks.foldl (vstep_ l b (vis_ l n)) (a, B2, S, L)).2.1.length ∧ ∀ j, 0 ≤ j → (rd B1 j = rd B2 j ∨ ∃ c ∈ ks, j = c ∨ (rd_T50 l c).f2 = 0 ∧ j ∈ cov_ l n c) → (∀ c ∈ ks, 0 ≤ c ∧ ((rd_T50 l c).f2 = 0 → ∀ x ∈ cov_ l n c, 0 ≤ x)) →
     rd (ks.foldl (vstep_ l b (vis_ l n)) (a, B1, S, L)).2.1 j = rd (ks.foldl (vstep_ l b (vis_ l n)) (a, B2, S, L)).2.1 j := by
   intro ks
   induction ks with
   | nil => intro a B1 B2 S L hl; exact ⟨rfl, rfl, hl, fun j _ h _ => h.elim id (fun ⟨c, hc, _⟩ => by simp at hc)⟩
   | cons c t iht =>
    intro a B1 B2 S L hl
    have hset : ∀ j, 0 ≤ j → 0 ≤ c → (rd B1 j = rd B2 j ∨ j = c) → rd (B1.set c.toNat b) j = rd (B2.set c.toNat b) j := fun j j0 c0 hj => by
     rw [rd_set, rd_set, hl]
     by_cases e : j.toNat = c.toNat ∧ c.toNat < B2.length
     ·rw [if_pos e, if_pos e]
     ·rw [if_neg e, if_neg e]
      rcases hj with hj | hj
      ·exact hj
      ·subst hj
       have : ¬ j.toNat < B2.length := fun h => e ⟨rfl, h⟩
       unfold rd
       rw [List.getD_eq_getElem?_getD, List.getD_eq_getElem?_getD, List.getElem?_eq_none (by omega), List.getElem?_eq_none (by omega)]
    have hl' : (B1.set c.toNat b).length = (B2.set c.toNat b).length := by simp [hl]
    simp only [List.foldl_cons]
    by_cases g : (rd_T50 l c).f2 = 0
    ·have e1 : vstep_ l b (vis_ l n) (a, B1, S, L) c = vis_ l n c (a + 1) (B1.set c.toNat b) S L := by unfold vstep_; rw [if_pos g]
     have e2 : vstep_ l b (vis_ l n) (a, B2, S, L) c = vis_ l n c (a + 1) (B2.set c.toNat b) S L := by unfold vstep_; rw [if_pos g]
     obtain ⟨h1, h2, h3, h4⟩ := ih c (a + 1) (B1.set c.toNat b) (B2.set c.toNat b) S L hl'
     rw [e1, e2]
     generalize vis_ l n c (a + 1) (B1.set c.toNat b) S L = r1 at h1 h2 h3 h4 ⊢
     generalize vis_ l n c (a + 1) (B2.set c.toNat b) S L = r2 at h1 h2 h3 h4 ⊢
     obtain ⟨a1, b1, s1, l1⟩ := r1
     obtain ⟨a2, b2, s2, l2⟩ := r2
     simp only [Prod.mk.injEq] at h1 h2 h3 h4
     obtain ⟨rfl, rfl⟩ := h2
     subst h1
     obtain ⟨i1, i2, i3, i4⟩ := iht a1 b1 b2 s1 l1 h3
     refine ⟨i1, i2, i3, fun j j0 hj hc => i4 j j0 ?_ (fun d hd => hc d (List.mem_cons_of_mem _ hd))⟩
     have hcc := hc c List.mem_cons_self
     rcases hj with hj | ⟨d, hd, hj⟩
     ·exact .inl (h4 j j0 (.inl (hset j j0 hcc.1 (.inl hj))) (hcc.2 g))
     ·rcases List.mem_cons.1 hd with rfl | hd
      ·rcases hj with hj | ⟨_, hj⟩
       ·exact .inl (h4 j j0 (.inl (hset j j0 hcc.1 (.inr hj))) (hcc.2 g))
       ·exact .inl (h4 j j0 (.inr hj) (hcc.2 g))
      ·exact .inr ⟨d, hd, hj⟩
    ·have e1 : vstep_ l b (vis_ l n) (a, B1, S, L) c = (a, B1.set c.toNat b, S, L) := by unfold vstep_; rw [if_neg g]
     have e2 : vstep_ l b (vis_ l n) (a, B2, S, L) c = (a, B2.set c.toNat b, S, L) := by unfold vstep_; rw [if_neg g]
     rw [e1, e2]
     obtain ⟨i1, i2, i3, i4⟩ := iht a (B1.set c.toNat b) (B2.set c.toNat b) S L hl'
     refine ⟨i1, i2, i3, fun j j0 hj hc => i4 j j0 ?_ (fun d hd => hc d (List.mem_cons_of_mem _ hd))⟩
     have hcc := hc c List.mem_cons_self
     rcases hj with hj | ⟨d, hd, hj⟩
     ·exact .inl (hset j j0 hcc.1 (.inl hj))
     ·rcases List.mem_cons.1 hd with rfl | hd
      ·rcases hj with hj | ⟨g2, _⟩
       ·exact .inl (hset j j0 hcc.1 (.inr hj))
       ·exact absurd g2 g
      ·exact .inr ⟨d, hd, hj⟩
  obtain ⟨i1, i2, i3, i4⟩ := fold (kids_ l k) b B1 B2 (S.set k.toNat b) L hl
  rw [vis_succ, vis_succ]
  unfold vend_
  refine ⟨i1, ?_, i3, fun j j0 hj hx => i4 j j0 (hj.imp id (fun hj => (cov_iff l n k j).1 hj)) (fun c hc => ⟨hx c ((cov_iff l n k c).2 ⟨c, hc, .inl rfl⟩), fun g x hx' => hx x ((cov_iff l n k x).2 ⟨c, hc, .inr ⟨g, hx'⟩⟩)⟩)⟩
  simp only [i1, i2]
theorem cov_pos (l : List ND) (h : tree_ l = true) : ∀ (n : Nat) (k : Int), 0 ≤ k → k < (l.length : Int) → ∀ x ∈ cov_ l n k, 0 ≤ x := by
 intro n
 induction n with
 | zero => intro k _ _ x hx; simp [cov_] at hx
 | succ n ih =>
  intro k h0 h1 x hx
  obtain ⟨c, hc, e⟩ := (cov_iff l n k x).1 hx
  have := kids_mem l h k c h0 h1 hc
  rcases e with rfl | ⟨_, e⟩
  ·omega
  ·exact ih c (by omega) this.2 x e
def cp_ : List Int → List Int → Nat
 | x :: xs, y :: ys => if x = y then cp_ xs ys + 1 else 0
 | _, _ => 0
theorem cp_le (a b : List Int) : cp_ a b ≤ a.length ∧ cp_ a b ≤ b.length := by
 induction a generalizing b with
 | nil => simp [cp_]
 | cons x xs ih =>
  cases b with
  | nil => simp [cp_]
  | cons y ys =>
   unfold cp_
   have := ih ys
   split <;> simp <;> omega
def btw_ (x y : List Int) : List Int := if x.length = 0 ∨ y.length = 0 then [] else (x.drop (cp_ x y - 1)).reverse ++ y.drop (cp_ x y)
theorem up_head (l : List ND) (h : tree_ l = true) : ∀ (d : Nat) (x : Int), 0 ≤ x → x < (d : Int) → x < (l.length : Int) → ∃ r, (up_ l d x).reverse = 0 :: r := by
 intro d
 induction d with
 | zero => intro x h0 h1; omega
 | succ d ih =>
  intro x h0 h1 h2
  unfold up_
  rw [if_pos h0]
  have hp := parent_lt h x h0 h2
  by_cases hz : 0 ≤ (rd_T50 l x).f0
  ·obtain ⟨r, e⟩ := ih _ hz (by omega) (by omega)
   exact ⟨r ++ [x], by rw [List.reverse_cons, e]; rfl⟩
  ·have hx : x = 0 := by
    apply Classical.byContradiction
    intro hn
    obtain ⟨j, rfl⟩ : ∃ j : Nat, x = (j : Int) := ⟨x.toNat, by omega⟩
    have := tree_parent h j (by omega) (by omega)
    omega
   subst hx
   have : up_ l d (rd_T50 l 0).f0 = [] := by
    cases d with
    | zero => rfl
    | succ d => unfold up_; rw [if_neg hz]
   rw [this]; exact ⟨[], rfl⟩
theorem path_head (l : List ND) (x : Int) (h : isn_ l x = true) : ∃ r, path_ l x = 0 :: r := by
 obtain ⟨h1, h2, h3⟩ := isn_tree h
 have := tree_len h1
 unfold path_
 rw [if_pos h]
 exact up_head l h1 13 x h2 (by omega) h3
theorem path_none (l : List ND) (x : Int) (h : ¬ isn_ l x = true) : path_ l x = [] := by unfold path_; rw [if_neg h]
def pa_ (t : List ND) (x : Int) : Int := (rd_T50 t x).f0
abbrev F_ (l : List ND) (x : Int) : Int := (rd_T50 l x).f2
def sub_ (l : List ND) (n : Nat) (c : Int) : List Int := c :: (if (rd_T50 l c).f2 = 0 then cov_ l n c else [])
theorem cov_sub (l : List ND) (n : Nat) (k : Int) : cov_ l (n + 1) k = (kids_ l k).flatMap (sub_ l n) := rfl
theorem kids_at (l : List ND) (k c : Int) (hc : c ∈ kids_ l k) : ∃ d, 0 ≤ d ∧ d ≤ 3 ∧ c ∈ kidsAt_ l k d := by
 unfold kids_ at hc
 split at hc
 ·simp only [List.mem_append] at hc
  rcases hc with h | h | h | h
  ·exact ⟨0, by omega, by omega, h⟩
  ·exact ⟨1, by omega, by omega, h⟩
  ·exact ⟨2, by omega, by omega, h⟩
  ·exact ⟨3, by omega, by omega, h⟩
 ·simp at hc
theorem kidsAt_is (l : List ND) (k d c : Int) (hc : c ∈ kidsAt_ l k d) : pa_ l c = k ∧ (rd_T50 l c).f1 = d := by
 have := (ixs_mem _ _ _ _ _ hc).2.2
 simp only [kid_, Bool.and_eq_true, decide_eq_true_eq] at this
 exact this
theorem kids_pa (l : List ND) (k c : Int) (hc : c ∈ kids_ l k) : pa_ l c = k := by
 obtain ⟨d, _, _, h⟩ := kids_at l k c hc
 exact (kidsAt_is l k d c h).1
theorem ixs_nodup (l : List ND) (p : ND → Bool) : ∀ d i, (ixs_ l p d i).Nodup := by
 intro d
 induction d with
 | zero => intro i; simp [ixs_]
 | succ d ih =>
  intro i
  rw [ixs_succ]
  split
  ·refine List.nodup_cons.2 ⟨fun h => ?_, ih (i + 1)⟩
   have := (ixs_mem _ _ _ _ _ h).1; omega
  ·exact ih (i + 1)
theorem kids_nodup (l : List ND) (k : Int) : (kids_ l k).Nodup := by
 unfold kids_
 split
 ·have hn : ∀ d, (kidsAt_ l k d).Nodup := fun d => ixs_nodup l _ _ _
  have hd : ∀ d e x, x ∈ kidsAt_ l k d → x ∈ kidsAt_ l k e → d = e := fun d e x h1 h2 => (kidsAt_is l k d x h1).2.symm.trans (kidsAt_is l k e x h2).2
  refine List.nodup_append.2 ⟨hn 0, List.nodup_append.2 ⟨hn 1, List.nodup_append.2 ⟨hn 2, hn 3, ?_⟩, ?_⟩, ?_⟩
  ·rintro x h1 y h2 rfl; have := hd _ _ _ h1 h2; omega
  ·rintro x h1 y h2 rfl
   rcases List.mem_append.1 h2 with h2 | h2 <;> (have := hd _ _ _ h1 h2; omega)
  ·rintro x h1 y h2 rfl
   rcases List.mem_append.1 h2 with h2 | h2
   ·have := hd _ _ _ h1 h2; omega
   ·rcases List.mem_append.1 h2 with h2 | h2 <;> (have := hd _ _ _ h1 h2; omega)
 ·simp
theorem cov_range (l : List ND) (h : tree_ l = true) : ∀ (n : Nat) (k : Int), 0 ≤ k → k < (l.length : Int) → ∀ x ∈ cov_ l n k, k < x ∧ x < (l.length : Int) := by
 intro n
 induction n with
 | zero => intro k _ _ x hx; simp [cov_] at hx
 | succ n ih =>
  intro k h0 h1 x hx
  obtain ⟨c, hc, e⟩ := (cov_iff l n k x).1 hx
  have := kids_mem l h k c h0 h1 hc
  rcases e with rfl | ⟨_, e⟩
  ·exact this
  ·have := ih c (by omega) (by omega) x e; omega
theorem sub_iff (l : List ND) (n : Nat) (c x : Int) : x ∈ sub_ l n c ↔ x = c ∨ (rd_T50 l c).f2 = 0 ∧ x ∈ cov_ l n c := by
 unfold sub_
 rw [List.mem_cons]
 split
 ·rename_i g; simp [g]
 ·rename_i g; simp [g]
theorem cov_pa (l : List ND) : ∀ (n : Nat) (k x : Int), x ∈ cov_ l n k → pa_ l x = k ∨ pa_ l x ∈ cov_ l n k := by
 intro n
 induction n with
 | zero => intro k x hx; simp [cov_] at hx
 | succ n ih =>
  intro k x hx
  obtain ⟨c, hc, e⟩ := (cov_iff l n k x).1 hx
  rcases e with rfl | ⟨g, e⟩
  ·exact .inl (kids_pa l k x hc)
  ·right
   rcases ih c x e with h | h
   ·exact (cov_iff l n k _).2 ⟨c, hc, .inl h⟩
   ·exact (cov_iff l n k _).2 ⟨c, hc, .inr ⟨g, h⟩⟩
theorem sub_pa (l : List ND) (n : Nat) (k c x : Int) (hc : c ∈ kids_ l k) (hx : x ∈ sub_ l n c) : pa_ l x = k ∨ pa_ l x ∈ sub_ l n c := by
 rcases (sub_iff l n c x).1 hx with rfl | ⟨g, e⟩
 ·exact .inl (kids_pa l k x hc)
 ·right
  rcases cov_pa l n c x e with h | h
  ·exact (sub_iff l n c _).2 (.inl h)
  ·exact (sub_iff l n c _).2 (.inr ⟨g, h⟩)
def anc_ (l : List ND) : Nat → Int → Int
 | 0, x => x
 | d + 1, x => pa_ l (anc_ l d x)
theorem anc_add (l : List ND) (d : Nat) : ∀ (e : Nat) (x : Int), anc_ l (d + e) x = anc_ l e (anc_ l d x) := by
 intro e
 induction e with
 | zero => intro x; rfl
 | succ e ih => intro x; show pa_ l (anc_ l (d + e) x) = pa_ l _; rw [ih]
theorem anc_le (l : List ND) (h : tree_ l = true) : ∀ (d : Nat) (x : Int), -1 ≤ x → x < (l.length : Int) → -1 ≤ anc_ l d x ∧ anc_ l d x ≤ x := by
 intro d
 induction d with
 | zero => intro x h0 h1; exact ⟨h0, Int.le_refl _⟩
 | succ d ih =>
  intro x h0 h1
  have := ih x h0 h1
  show -1 ≤ pa_ l (anc_ l d x) ∧ pa_ l (anc_ l d x) ≤ x
  by_cases e : anc_ l d x = -1
  ·have e2 : pa_ l (-1) = -1 := tree_root h
   rw [e, e2]; omega
  ·have := parent_lt h (anc_ l d x) (by omega) (by omega)
   unfold pa_; omega
theorem sub_anc (l : List ND) : ∀ (n : Nat) (c x : Int), x ∈ sub_ l n c → ∃ d, anc_ l d x = c := by
 intro n
 induction n with
 | zero =>
  intro c x hx
  rcases (sub_iff l 0 c x).1 hx with rfl | ⟨_, e⟩
  ·exact ⟨0, rfl⟩
  ·simp [cov_] at e
 | succ n ih =>
  intro c x hx
  rcases (sub_iff l (n + 1) c x).1 hx with rfl | ⟨_, e⟩
  ·exact ⟨0, rfl⟩
  ·rw [cov_sub, List.mem_flatMap] at e
   obtain ⟨c2, hc2, e⟩ := e
   obtain ⟨d, hd⟩ := ih c2 x e
   exact ⟨d + 1, by show pa_ l (anc_ l d x) = c; rw [hd]; exact kids_pa l c c2 hc2⟩
theorem anc_one (l : List ND) (h : tree_ l = true) (k c1 c2 x : Int) (k0 : 0 ≤ k) (k1 : k < (l.length : Int)) (h1 : c1 ∈ kids_ l k) (h2 : c2 ∈ kids_ l k) (d1 d2 : Nat) (e1 : anc_ l d1 x = c1) (e2 : anc_ l d2 x = c2) (hd : d1 ≤ d2) : c1 = c2 := by
 obtain ⟨e, rfl⟩ : ∃ e, d2 = d1 + e := ⟨d2 - d1, by omega⟩
 rw [anc_add, e1] at e2
 cases e with
 | zero => exact e2
 | succ e =>
  rw [Nat.add_comm e 1, anc_add] at e2
  have e3 : anc_ l 1 c1 = k := kids_pa l k c1 h1
  rw [e3] at e2
  have := (anc_le l h e k (by omega) k1).2
  have := kids_mem l h k c2 k0 k1 h2
  omega
theorem sub_disj (l : List ND) (h : tree_ l = true) (k c1 c2 x : Int) (n m : Nat) (k0 : 0 ≤ k) (k1 : k < (l.length : Int)) (h1 : c1 ∈ kids_ l k) (h2 : c2 ∈ kids_ l k) (x1 : x ∈ sub_ l n c1) (x2 : x ∈ sub_ l m c2) : c1 = c2 := by
 obtain ⟨d1, e1⟩ := sub_anc l n c1 x x1
 obtain ⟨d2, e2⟩ := sub_anc l m c2 x x2
 rcases Nat.le_total d1 d2 with hd | hd
 ·exact anc_one l h k c1 c2 x k0 k1 h1 h2 d1 d2 e1 e2 hd
 ·exact (anc_one l h k c2 c1 x k0 k1 h2 h1 d2 d1 e2 e1 hd).symm
def nbr_ (l : List ND) (U : List Int) : Int := ((U.filter (fun x => decide (F_ l x = 0))).length : Int)
structure ff_ (l : List ND) (k b : Int) (U : List Int) (a r : VT) : Prop where
 le : a.1 ≤ r.1
 out : ∀ j, 0 ≤ j → j ∉ U → rd r.2.1 j = rd a.2.1 j ∧ rd r.2.2.1 j = rd a.2.2.1 j ∧ rd r.2.2.2 j = rd a.2.2.2 j
 bus : ∀ x ∈ U, pa_ l x = k → rd r.2.1 x = b
 up : ∀ x ∈ U, pa_ l x ≠ k → rd r.2.1 x = rd r.2.2.1 (pa_ l x) ∧ (F_ l x = 0 → rd r.2.2.1 (pa_ l x) < rd r.2.2.1 x ∧ rd r.2.2.2 x ≤ rd r.2.2.2 (pa_ l x))
 leaf : ∀ x ∈ U, F_ l x ≠ 0 → rd r.2.2.1 x = rd a.2.2.1 x ∧ rd r.2.2.2 x = rd a.2.2.2 x
 brg : ∀ x ∈ U, F_ l x = 0 → a.1 < rd r.2.2.1 x ∧ rd r.2.2.1 x ≤ rd r.2.2.2 x ∧ rd r.2.2.2 x ≤ r.1
 sib : ∀ x ∈ U, ∀ y ∈ U, F_ l x = 0 → F_ l y = 0 → x ≠ y → pa_ l x = pa_ l y → rd r.2.2.2 x < rd r.2.2.1 y ∨ rd r.2.2.2 y < rd r.2.2.1 x
 inj : ∀ x ∈ U, ∀ y ∈ U, F_ l x = 0 → F_ l y = 0 → rd r.2.2.1 x = rd r.2.2.1 y → x = y
 cnt : r.1 = a.1 + nbr_ l U
theorem ff_comp {l : List ND} {k b : Int} {U1 U2 : List Int} {a m r : VT} (f1 : ff_ l k b U1 a m) (f2 : ff_ l k b U2 m r) (hd : ∀ x ∈ U1, x ∉ U2) (p1 : ∀ x ∈ U1, 0 ≤ x ∧ (pa_ l x = k ∨ pa_ l x ∈ U1)) (p2 : ∀ x ∈ U2, 0 ≤ x ∧ (pa_ l x = k ∨ pa_ l x ∈ U2)) : ff_ l k b (U1 ++ U2) a r := by
 have o2 : ∀ x ∈ U1, rd r.2.1 x = rd m.2.1 x ∧ rd r.2.2.1 x = rd m.2.2.1 x ∧ rd r.2.2.2 x = rd m.2.2.2 x := fun x hx => f2.out x (p1 x hx).1 (hd x hx)
 have o1 : ∀ x ∈ U2, rd m.2.1 x = rd a.2.1 x ∧ rd m.2.2.1 x = rd a.2.2.1 x ∧ rd m.2.2.2 x = rd a.2.2.2 x := fun x hx => f1.out x (p2 x hx).1 (fun h => hd x h hx)
 have h12 := f1.le
 have h23 := f2.le
 have b1 : ∀ x ∈ U1, F_ l x = 0 → a.1 < rd r.2.2.1 x ∧ rd r.2.2.1 x ≤ rd r.2.2.2 x ∧ rd r.2.2.2 x ≤ m.1 := fun x hx g => by
  have o := o2 x hx; rw [o.2.1, o.2.2]; exact f1.brg x hx g
 have cross : ∀ x ∈ U1, ∀ y ∈ U2, F_ l x = 0 → F_ l y = 0 → rd r.2.2.2 x < rd r.2.2.1 y := fun x hx y hy gx gy => by
  have := b1 x hx gx; have := f2.brg y hy gy; omega
 refine ⟨by omega, fun j j0 hj => ?_, fun x hx hp => ?_, fun x hx hp => ?_, fun x hx g => ?_, fun x hx g => ?_, fun x hx y hy gx gy hne hp => ?_, fun x hx y hy gx gy he => ?_, ?_⟩
 ·rw [List.mem_append, not_or] at hj
  have e2 := f2.out j j0 hj.2; have e1 := f1.out j j0 hj.1
  exact ⟨e2.1.trans e1.1, e2.2.1.trans e1.2.1, e2.2.2.trans e1.2.2⟩
 ·rcases List.mem_append.1 hx with hx | hx
  ·rw [(o2 x hx).1]; exact f1.bus x hx hp
  ·exact f2.bus x hx hp
 ·rcases List.mem_append.1 hx with hx | hx
  ·have hq : pa_ l x ∈ U1 := (p1 x hx).2.resolve_left hp
   have o := o2 x hx; have q := o2 _ hq
   rw [o.1, o.2.1, o.2.2, q.2.1, q.2.2]; exact f1.up x hx hp
  ·exact f2.up x hx hp
 ·rcases List.mem_append.1 hx with hx | hx
  ·have o := o2 x hx; rw [o.2.1, o.2.2]; exact f1.leaf x hx g
  ·have o := o1 x hx; rw [← o.2.1, ← o.2.2]; exact f2.leaf x hx g
 ·rcases List.mem_append.1 hx with hx | hx
  ·have := b1 x hx g; omega
  ·have := f2.brg x hx g; omega
 ·rcases List.mem_append.1 hx with hx | hx <;> rcases List.mem_append.1 hy with hy | hy
  ·have o := o2 x hx; have q := o2 y hy
   rw [o.2.1, o.2.2, q.2.1, q.2.2]; exact f1.sib x hx y hy gx gy hne hp
  ·exact .inl (cross x hx y hy gx gy)
  ·exact .inr (cross y hy x hx gy gx)
  ·exact f2.sib x hx y hy gx gy hne hp
 ·rcases List.mem_append.1 hx with hx | hx <;> rcases List.mem_append.1 hy with hy | hy
  ·have o := o2 x hx; have q := o2 y hy
   rw [o.2.1, q.2.1] at he; exact f1.inj x hx y hy gx gy he
  ·have := cross x hx y hy gx gy; have := b1 x hx gx; omega
  ·have := cross y hy x hx gy gx; have := b1 y hy gy; omega
  ·exact f2.inj x hx y hy gx gy he
 ·have c1 := f1.cnt; have c2 := f2.cnt
  unfold nbr_ at *
  rw [List.filter_append, List.length_append]; omega
structure vf_ (l : List ND) (n : Nat) (k b : Int) (B S L : List Int) (r : VT) : Prop where
 top : rd r.2.2.1 k = b
 last : rd r.2.2.2 k = r.1
 le : b ≤ r.1
 out : ∀ j, 0 ≤ j → j ∉ cov_ l n k → rd r.2.1 j = rd B j ∧ (j ≠ k → rd r.2.2.1 j = rd S j ∧ rd r.2.2.2 j = rd L j)
 up : ∀ x ∈ cov_ l n k, rd r.2.1 x = rd r.2.2.1 (pa_ l x) ∧ (F_ l x = 0 → rd r.2.2.1 (pa_ l x) < rd r.2.2.1 x ∧ rd r.2.2.2 x ≤ rd r.2.2.2 (pa_ l x))
 leaf : ∀ x ∈ cov_ l n k, F_ l x ≠ 0 → rd r.2.2.1 x = rd S x ∧ rd r.2.2.2 x = rd L x
 brg : ∀ x ∈ cov_ l n k, F_ l x = 0 → b < rd r.2.2.1 x ∧ rd r.2.2.1 x ≤ rd r.2.2.2 x ∧ rd r.2.2.2 x ≤ r.1
 sib : ∀ x ∈ cov_ l n k, ∀ y ∈ cov_ l n k, F_ l x = 0 → F_ l y = 0 → x ≠ y → pa_ l x = pa_ l y → rd r.2.2.2 x < rd r.2.2.1 y ∨ rd r.2.2.2 y < rd r.2.2.1 x
 inj : ∀ x ∈ cov_ l n k, ∀ y ∈ cov_ l n k, F_ l x = 0 → F_ l y = 0 → rd r.2.2.1 x = rd r.2.2.1 y → x = y
 cnt : r.1 = b + nbr_ l (cov_ l n k)
theorem ff_one (l : List ND) (h : tree_ l = true) (n : Nat) (k b c : Int) (a : VT) (k0 : 0 ≤ k) (k1 : k < (l.length : Int)) (hc : c ∈ kids_ l k) (ha : vlen_ l.length a)
  (hv : vf_ l n c (a.1 + 1) (a.2.1.set c.toNat b) a.2.2.1 a.2.2.2 (vis_ l n c (a.1 + 1) (a.2.1.set c.toNat b) a.2.2.1 a.2.2.2)) : ff_ l k b (sub_ l n c) a (vstep_ l b (vis_ l n) a c) := by
 have hm := kids_mem l h k c k0 k1 hc
 have hp := kids_pa l k c hc
 have hs : ∀ j, 0 ≤ j → rd (a.2.1.set c.toNat b) j = if j = c then b else rd a.2.1 j := fun j j0 => by
  rw [rd_set]
  have := ha.1
  by_cases e : j = c
  ·rw [if_pos e, if_pos ⟨by rw [e], by omega⟩]
  ·rw [if_neg e, if_neg (by omega)]
 by_cases g : (rd_T50 l c).f2 = 0
 ·have e : vstep_ l b (vis_ l n) a c = vis_ l n c (a.1 + 1) (a.2.1.set c.toNat b) a.2.2.1 a.2.2.2 := by unfold vstep_; rw [if_pos g]
  rw [e]
  generalize vis_ l n c (a.1 + 1) (a.2.1.set c.toNat b) a.2.2.1 a.2.2.2 = r at hv ⊢
  have hr := cov_range l h n c (by omega) hm.2
  have hcc : c ∉ cov_ l n c := fun hx => by have := hr c hx; omega
  have hle := hv.le
  have hnk : ∀ x ∈ cov_ l n c, pa_ l x ≠ k := fun x hx => by
   rcases cov_pa l n c x hx with q | q
   ·omega
   ·have := hr _ q; omega
  have hB := hv.out c (by omega) hcc
  have hne0 : ∀ x ∈ cov_ l n c, x ≠ c := fun x hx e => hcc (e ▸ hx)
  refine ⟨by omega, fun j j0 hj => ?_, fun x hx hp => ?_, fun x hx hp => ?_, fun x hx gx => ?_, fun x hx gx => ?_, fun x hx y hy gx gy hne hq => ?_, fun x hx y hy gx gy he => ?_, ?_⟩
  ·rw [sub_iff, not_or] at hj
   have hj2 : j ∉ cov_ l n c := fun h => hj.2 ⟨g, h⟩
   have o := hv.out j j0 hj2
   rw [hs j j0, if_neg hj.1] at o
   exact ⟨o.1, o.2 hj.1⟩
  ·rcases (sub_iff l n c x).1 hx with rfl | ⟨_, hx⟩
   ·rw [hB.1, hs x (by omega), if_pos rfl]
   ·exact absurd hp (hnk x hx)
  ·rcases (sub_iff l n c x).1 hx with rfl | ⟨_, hx⟩
   ·omega
   ·exact hv.up x hx
  ·rcases (sub_iff l n c x).1 hx with rfl | ⟨_, hx⟩
   ·exact absurd g gx
   ·exact hv.leaf x hx gx
  ·rcases (sub_iff l n c x).1 hx with rfl | ⟨_, hx⟩
   ·rw [hv.top, hv.last]; omega
   ·have := hv.brg x hx gx; omega
  ·rcases (sub_iff l n c x).1 hx with ex | ⟨_, hx⟩ <;> rcases (sub_iff l n c y).1 hy with ey | ⟨_, hy⟩
   ·exact absurd (ex.trans ey.symm) hne
   ·subst ex; have := hnk y hy; omega
   ·subst ey; have := hnk x hx; omega
   ·exact hv.sib x hx y hy gx gy hne hq
  ·rcases (sub_iff l n c x).1 hx with ex | ⟨_, hx⟩ <;> rcases (sub_iff l n c y).1 hy with ey | ⟨_, hy⟩
   ·exact ex.trans ey.symm
   ·subst ex; have := hv.brg y hy gy; have := hv.top; omega
   ·subst ey; have := hv.brg x hx gx; have := hv.top; omega
   ·exact hv.inj x hx y hy gx gy he
  ·have := hv.cnt
   have e2 : nbr_ l (sub_ l n c) = 1 + nbr_ l (cov_ l n c) := by
    unfold nbr_ sub_
    rw [if_pos g, List.filter_cons, if_pos (by rw [decide_eq_true_eq]; exact g), List.length_cons]; omega
   omega
 ·have e : vstep_ l b (vis_ l n) a c = (a.1, a.2.1.set c.toNat b, a.2.2.1, a.2.2.2) := by unfold vstep_; rw [if_neg g]
  rw [e]
  have e1 : sub_ l n c = [c] := by unfold sub_; rw [if_neg g]
  have hx1 : ∀ x, x ∈ sub_ l n c → x = c := fun x hx => by rw [e1] at hx; simpa using hx
  refine ⟨Int.le_refl _, fun j j0 hj => ?_, fun x hx hp => ?_, fun x hx hq => ?_, fun x hx gx => ⟨rfl, rfl⟩, fun x hx gx => ?_, fun x hx y hy gx gy hne hq => ?_, fun x hx y hy gx gy he => ?_, ?_⟩
  ·rw [e1, List.mem_singleton] at hj
   exact ⟨by rw [hs j j0, if_neg hj], rfl, rfl⟩
  ·obtain rfl := hx1 x hx
   rw [hs x (by omega), if_pos rfl]
  ·obtain rfl := hx1 x hx
   exact absurd hp hq
  ·obtain rfl := hx1 x hx
   exact absurd gx g
  ·exact absurd ((hx1 x hx).trans (hx1 y hy).symm) hne
  ·exact (hx1 x hx).trans (hx1 y hy).symm
  ·rw [e1]
   unfold nbr_
   rw [List.filter_cons, if_neg (by rw [decide_eq_true_eq]; exact g)]
   simp
theorem ff_fold (l : List ND) (h : tree_ l = true) (n : Nat) (k b : Int) (k0 : 0 ≤ k) (k1 : k < (l.length : Int))
  (hvf : ∀ c ∈ kids_ l k, ∀ b' B S L, vlen_ l.length (b', B, S, L) → vf_ l n c b' B S L (vis_ l n c b' B S L)) :
  ∀ (ks : List Int) (a : VT), (∀ c ∈ ks, c ∈ kids_ l k) → ks.Nodup → vlen_ l.length a → ff_ l k b (ks.flatMap (sub_ l n)) a (ks.foldl (vstep_ l b (vis_ l n)) a) := by
 intro ks
 induction ks with
 | nil =>
  intro a _ _ _
  refine ⟨Int.le_refl _, fun j _ _ => ⟨rfl, rfl, rfl⟩, ?_, ?_, ?_, ?_, ?_, ?_, ?_⟩
  ·intro x hx; simp at hx
  ·intro x hx; simp at hx
  ·intro x hx; simp at hx
  ·intro x hx; simp at hx
  ·intro x hx; simp at hx
  ·intro x hx; simp at hx
  ·simp [nbr_]
 | cons c t ih =>
  intro a hk hn ha
  have hc := hk c List.mem_cons_self
  have hm := kids_mem l h k c k0 k1 hc
  have hset : vlen_ l.length (a.1 + 1, a.2.1.set c.toNat b, a.2.2.1, a.2.2.2) := ⟨by simp only [List.length_set]; exact ha.1, ha.2.1, ha.2.2⟩
  have f1 := ff_one l h n k b c a k0 k1 hc ha (hvf c hc _ _ _ _ hset)
  have hlen : vlen_ l.length (vstep_ l b (vis_ l n) a c) := by
   unfold vstep_
   split
   ·exact (vis_ok l h l.length n c (a.1 + 1) _ _ _ (by omega) hm.2 hset).1
   ·exact ⟨hset.1, hset.2.1, hset.2.2⟩
  have hk2 : ∀ d ∈ t, d ∈ kids_ l k := fun d hd => hk d (List.mem_cons_of_mem _ hd)
  have f2 := ih (vstep_ l b (vis_ l n) a c) hk2 (List.nodup_cons.1 hn).2 hlen
  rw [List.flatMap_cons, List.foldl_cons]
  have rng : ∀ d ∈ kids_ l k, ∀ x ∈ sub_ l n d, 0 ≤ x := fun d hd x hx => by
   have hm := kids_mem l h k d k0 k1 hd
   rcases (sub_iff l n d x).1 hx with rfl | ⟨_, hx⟩
   ·omega
   ·have := cov_range l h n d (by omega) hm.2 x hx; omega
  refine ff_comp f1 f2 (fun x hx h2 => ?_) (fun x hx => ⟨rng c hc x hx, sub_pa l n k c x hc hx⟩) (fun x hx => ?_)
  ·obtain ⟨d, hd, hx2⟩ := List.mem_flatMap.1 h2
   have := sub_disj l h k c d x n n k0 k1 hc (hk2 d hd) hx hx2
   subst this
   exact (List.nodup_cons.1 hn).1 hd
  ·obtain ⟨d, hd, hx2⟩ := List.mem_flatMap.1 hx
   exact ⟨rng d (hk2 d hd) x hx2, (sub_pa l n k d x (hk2 d hd) hx2).imp id (fun q => List.mem_flatMap.2 ⟨d, hd, q⟩)⟩
theorem vis_vf (l : List ND) (h : tree_ l = true) : ∀ (n : Nat) (k b : Int) (B S L : List Int), 0 ≤ k → k < (l.length : Int) → (l.length : Int) - k ≤ (n : Int) → vlen_ l.length (b, B, S, L) → vf_ l n k b B S L (vis_ l n k b B S L) := by
 intro n
 induction n with
 | zero => intro k b B S L h0 h1 h2; omega
 | succ n ih =>
  intro k b B S L h0 h1 h2 hl
  have hset : vlen_ l.length (b, B, S.set k.toNat b, L) := ⟨hl.1, by simp only [List.length_set]; exact hl.2.1, hl.2.2⟩
  have f := ff_fold l h n k b h0 h1 (fun c hc b' B S L hl => by
   have := kids_mem l h k c h0 h1 hc
   exact ih c b' B S L (by omega) this.2 (by omega) hl) (kids_ l k) (b, B, S.set k.toNat b, L) (fun c hc => hc) (kids_nodup l k) hset
  have hlen := (vfold_ok l b k l.length (vis_ l n) (kids_ l k) (b, B, S.set k.toNat b, L) (fun c hc => by
   have := kids_mem l h k c h0 h1 hc
   exact ⟨this.1, fun b' B S L hl => vis_ok l h l.length n c b' B S L (by omega) this.2 hl⟩) hset).1
  rw [← cov_sub] at f
  rw [vis_succ]
  generalize (kids_ l k).foldl (vstep_ l b (vis_ l n)) (b, B, S.set k.toNat b, L) = r at f hlen
  have hr := cov_range l h (n + 1) k h0 h1
  have hkk : k ∉ cov_ l (n + 1) k := fun hx => by have := hr k hx; omega
  have ok := f.out k h0 hkk
  have hS : rd (S.set k.toNat b) k = b := by rw [rd_set, if_pos ⟨rfl, by have := hl.2.1; simp only at this; omega⟩]
  have hS2 : ∀ j, 0 ≤ j → j ≠ k → rd (S.set k.toNat b) j = rd S j := fun j j0 hj => by rw [rd_set, if_neg (by omega)]
  have hL : ∀ j, 0 ≤ j → rd (r.2.2.2.set k.toNat r.1) j = if j = k then r.1 else rd r.2.2.2 j := fun j j0 => by
   rw [rd_set]
   have := hlen.2.2
   by_cases e : j = k
   ·rw [if_pos e, if_pos ⟨by rw [e], by omega⟩]
   ·rw [if_neg e, if_neg (by omega)]
  have hLc : ∀ x ∈ cov_ l (n + 1) k, rd (r.2.2.2.set k.toNat r.1) x = rd r.2.2.2 x := fun x hx => by
   have := hr x hx
   rw [hL x (by omega), if_neg (by omega)]
  simp only at ok
  unfold vend_
  refine ⟨?_, ?_, f.le, fun j j0 hj => ⟨(f.out j j0 hj).1, fun hne => ?_⟩, fun x hx => ?_, fun x hx g => ?_, fun x hx g => ?_, fun x hx y hy gx gy hne hp => ?_, fun x hx y hy gx gy he => ?_, f.cnt⟩
  ·simp only; rw [ok.2.1, hS]
  ·simp only; rw [hL k h0, if_pos rfl]
  ·have o := f.out j j0 hj
   simp only at o ⊢
   rw [hL j j0, if_neg hne, o.2.1, o.2.2, hS2 j j0 hne]; exact ⟨rfl, rfl⟩
  ·have hx0 := hr x hx
   simp only
   rw [hLc x hx]
   by_cases hp : pa_ l x = k
   ·have hb := f.bus x hx hp
    rw [hb, hp, hL k h0, if_pos rfl, ok.2.1, hS]
    exact ⟨rfl, fun g => by have := f.brg x hx g; simp only at this; omega⟩
   ·have hq := (cov_pa l (n + 1) k x hx).resolve_left hp
    rw [hLc _ hq]
    exact f.up x hx hp
  ·have hx0 := hr x hx
   have o := f.leaf x hx g
   simp only at o ⊢
   rw [hLc x hx, o.1, o.2, hS2 x (by omega) (by omega)]; exact ⟨rfl, rfl⟩
  ·simp only
   rw [hLc x hx]; exact f.brg x hx g
  ·simp only
   rw [hLc x hx, hLc y hy]; exact f.sib x hx y hy gx gy hne hp
  ·exact f.inj x hx y hy gx gy he
def none_ (l : List ND) : List Int := List.replicate l.length (-1)
def enum_ (l : List ND) : List Int × List Int × List Int × Bool :=
 if tree_ l = true then (if (vis_ l 12 0 0 (none_ l) (none_ l) (none_ l)).1 > 15 then ([], [], [], false) else ((vis_ l 12 0 0 (none_ l) (none_ l) (none_ l)).2.1, (vis_ l 12 0 0 (none_ l) (none_ l) (none_ l)).2.2.1, (vis_ l 12 0 0 (none_ l) (none_ l) (none_ l)).2.2.2, true)) else ([], [], [], false)
theorem none_len (l : List ND) : (none_ l).length = l.length := by simp [none_]
theorem bd0 : bd_ 0 = 8388608 := by decide
theorem cov_nodup (l : List ND) (h : tree_ l = true) : ∀ (n : Nat) (k : Int), 0 ≤ k → k < (l.length : Int) → (cov_ l n k).Nodup := by
 intro n
 induction n with
 | zero => intro k _ _; simp [cov_]
 | succ n ih =>
  intro k k0 k1
  rw [cov_sub]
  have go : ∀ ks : List Int, (∀ c ∈ ks, c ∈ kids_ l k) → ks.Nodup → (ks.flatMap (sub_ l n)).Nodup := by
   intro ks
   induction ks with
   | nil => intro _ _; simp
   | cons c t iht =>
    intro hk hn
    have hc := hk c List.mem_cons_self
    have hm := kids_mem l h k c k0 k1 hc
    have hk2 : ∀ d ∈ t, d ∈ kids_ l k := fun d hd => hk d (List.mem_cons_of_mem _ hd)
    rw [List.flatMap_cons]
    refine List.nodup_append.2 ⟨?_, iht hk2 (List.nodup_cons.1 hn).2, ?_⟩
    ·unfold sub_
     refine List.nodup_cons.2 ⟨fun hx => ?_, ?_⟩
     ·split at hx
      ·have := cov_range l h n c (by omega) hm.2 c hx; omega
      ·simp at hx
     ·split
      ·exact ih c (by omega) hm.2
      ·simp
    ·rintro x h1 y h2 rfl
     obtain ⟨d, hd, hx2⟩ := List.mem_flatMap.1 h2
     have := sub_disj l h k c d x n n k0 k1 hc (hk2 d hd) h1 hx2
     subst this
     exact (List.nodup_cons.1 hn).1 hd
  exact go (kids_ l k) (fun c hc => hc) (kids_nodup l k)
def brs_ (l : List ND) : List Int := ixs_ l (fun n => decide (n.f2 = 0)) (l.length - 1) 1
theorem in_cov (l : List ND) (h : tree_ l = true) (x : Int) (h0 : 0 < x) (h1 : x < (l.length : Int)) : x ∈ cov_ l 12 0 := by
 have t := tree_len h
 obtain ⟨j, rfl⟩ : ∃ j : Nat, x = (j : Int) := ⟨x.toNat, by omega⟩
 exact cov_le l j 12 (by omega) 0 _ (cov_all l h j (by omega) (by omega))
theorem nbr_brs (l : List ND) (h : tree_ l = true) : nbr_ l (cov_ l 12 0) = ((brs_ l).length : Int) := by
 have t := tree_len h
 unfold nbr_
 have hp : ((cov_ l 12 0).filter (fun x => decide (F_ l x = 0))).Perm (brs_ l) := by
  refine (List.perm_ext_iff_of_nodup (List.Pairwise.filter _ (cov_nodup l h 12 0 (by omega) (by omega))) (ixs_nodup l _ _ _)).2 (fun x => ?_)
  rw [List.mem_filter, decide_eq_true_eq]
  constructor
  ·rintro ⟨hx, g⟩
   have hr := cov_range l h 12 0 (by omega) (by omega) x hx
   obtain ⟨j, rfl⟩ : ∃ j : Nat, x = (j : Int) := ⟨x.toNat, by omega⟩
   exact ixs_of l _ (l.length - 1) 1 j (by omega) (by omega) (by rw [decide_eq_true_eq]; exact g)
  ·intro hx
   have := ixs_mem l _ _ _ x hx
   exact ⟨in_cov l h x (by omega) (by omega), by simpa using this.2.2⟩
 rw [hp.length_eq]
structure ef_ (l : List ND) (E : List Int × List Int × List Int × Bool) : Prop where
 ok : E.2.2.2 = true
 len : E.1.length = l.length ∧ E.2.1.length = l.length ∧ E.2.2.1.length = l.length
 b0 : rd E.1 0 = -1
 s0 : rd E.2.1 0 = 0
 l0 : rd E.2.2.1 0 = ((brs_ l).length : Int)
 up : ∀ x, 0 < x → x < (l.length : Int) → rd E.1 x = rd E.2.1 (pa_ l x) ∧ (F_ l x = 0 → rd E.2.1 (pa_ l x) < rd E.2.1 x ∧ rd E.2.2.1 x ≤ rd E.2.2.1 (pa_ l x))
 leaf : ∀ x, 0 < x → x < (l.length : Int) → F_ l x ≠ 0 → rd E.2.1 x = -1 ∧ rd E.2.2.1 x = -1
 brg : ∀ x, 0 < x → x < (l.length : Int) → F_ l x = 0 → 0 < rd E.2.1 x ∧ rd E.2.1 x ≤ rd E.2.2.1 x ∧ rd E.2.2.1 x ≤ rd E.2.2.1 0
 sib : ∀ x y, 0 < x → x < (l.length : Int) → 0 < y → y < (l.length : Int) → F_ l x = 0 → F_ l y = 0 → x ≠ y → pa_ l x = pa_ l y → rd E.2.2.1 x < rd E.2.1 y ∨ rd E.2.2.1 y < rd E.2.1 x
 inj : ∀ x y, 0 < x → x < (l.length : Int) → 0 < y → y < (l.length : Int) → F_ l x = 0 → F_ l y = 0 → rd E.2.1 x = rd E.2.1 y → x = y
theorem rd_none (l : List ND) (x : Int) (h0 : 0 ≤ x) (h1 : x < (l.length : Int)) : rd (none_ l) x = -1 := by
 obtain ⟨j, rfl⟩ : ∃ j : Nat, x = (j : Int) := ⟨x.toNat, by omega⟩
 rw [rd_nat _ j (by rw [none_len]; omega)]
 simp [none_]
theorem enum_ef (l : List ND) (h : tree_ l = true) : ef_ l (enum_ l) := by
 have t := tree_len h
 have hn := none_len l
 have v := vis_vf l h 12 0 0 (none_ l) (none_ l) (none_ l) (by omega) (by omega) (by omega) ⟨hn, hn, hn⟩
 have ho := (vis_ok l h l.length 12 0 0 (none_ l) (none_ l) (none_ l) (by omega) (by omega) ⟨hn, hn, hn⟩).1
 have hc := v.cnt
 have hb := nbr_brs l h
 have hbl := ixs_len l (fun n => decide (n.f2 = 0)) (l.length - 1) 1
 have hbl2 : ((brs_ l).length : Int) ≤ 11 := by unfold brs_; omega
 unfold enum_
 rw [if_pos h]
 generalize vis_ l 12 0 0 (none_ l) (none_ l) (none_ l) = r at v ho hc
 rw [if_neg (by omega)]
 have hr := cov_range l h 12 0 (by omega) (by omega)
 have h00 : (0 : Int) ∉ cov_ l 12 0 := fun hx => by have := hr 0 hx; omega
 have hi := in_cov l h
 refine ⟨rfl, ho, ?_, v.top, ?_, fun x x0 x1 => ?_, fun x x0 x1 g => ?_, fun x x0 x1 g => ?_, fun x y x0 x1 y0 y1 gx gy hne hp => ?_, fun x y x0 x1 y0 y1 gx gy he => ?_⟩
 ·have := (v.out 0 (by omega) h00).1
  simp only; rw [this, rd_none l 0 (by omega) (by omega)]
 ·have := v.last
  simp only; omega
 ·exact v.up x (hi x x0 x1)
 ·have := v.leaf x (hi x x0 x1) g
  rw [rd_none l x (by omega) x1] at this
  exact this
 ·have := v.brg x (hi x x0 x1) g
  have := v.last
  simp only; omega
 ·exact v.sib x (hi x x0 x1) y (hi y y0 y1) gx gy hne hp
 ·exact v.inj x (hi x x0 x1) y (hi y y0 y1) gx gy he
def nums_ (l : List ND) (B S L : List Int) : Bool := (enum_ l).2.2.2 && (decide ((enum_ l).1 = B) && (decide ((enum_ l).2.1 = S) && decide ((enum_ l).2.2.1 = L)))
theorem nums_tree {l : List ND} {B S L : List Int} (h : nums_ l B S L = true) : tree_ l = true ∧ ef_ l (B, S, L, true) := by
 simp only [nums_, Bool.and_eq_true, decide_eq_true_eq] at h
 obtain ⟨h1, h2, h3, h4⟩ := h
 have ht : tree_ l = true := by
  by_cases e : tree_ l = true
  ·exact e
  ·unfold enum_ at h1; rw [if_neg e] at h1; simp at h1
 have e := enum_ef l ht
 refine ⟨ht, ?_⟩
 have q : enum_ l = (B, S, L, true) := by rw [← h2, ← h3, ← h4, ← h1]
 rw [q] at e
 exact e
theorem enum_len (l : List ND) : (enum_ l).1.length ≤ 1000 ∧ (enum_ l).2.1.length ≤ 1000 ∧ (enum_ l).2.2.1.length ≤ 1000 := by
 by_cases h : tree_ l = true
 ·have t := tree_len h
  have e := (enum_ef l h).len
  omega
 ·unfold enum_; rw [if_neg h]; simp
def mkid_ (b d f : Int) : Int := if (0 ≤ b ∧ b ≤ 15) ∧ (0 ≤ d ∧ d ≤ 3) ∧ (0 ≤ f ∧ f ≤ 3) then b * 16 + d * 4 + f else -1
def fn_ (F f : Int) : Bool := decide (0 ≤ f ∧ f ≤ mx (F - 1) 0)
def nid_ (l : List ND) (B : List Int) (k f : Int) : Int := if (1 ≤ k ∧ k < (l.length : Int)) ∧ fn_ (F_ l k) f = true then mkid_ (rd B k) (rd_T50 l k).f1 f else -1
theorem F_bd {l : List ND} (h : tree_ l = true) (k : Int) (h0 : 0 ≤ k) (h1 : k < (l.length : Int)) : 0 ≤ F_ l k ∧ F_ l k ≤ 4 := by
 obtain ⟨j, rfl⟩ : ∃ j : Nat, k = (j : Int) := ⟨k.toNat, by omega⟩
 exact tree_f2 h j (by omega)
def hit_ (l : List ND) (S L : List Int) (id k c : Int) : Bool := if rd S k = bus_ id then decide ((rd_T50 l c).f1 = dev_ id) else decide (0 ≤ rd S c ∧ rd S c ≤ bus_ id ∧ bus_ id ≤ rd L c)
def next_ (l : List ND) (S L : List Int) (id k : Int) : Option Int := (kids_ l k).find? (hit_ l S L id k)
def down_ (l : List ND) (S L : List Int) (id : Int) : Nat → List Int → Int → List Int
 | 0, _, _ => []
 | n + 1, out, k => match next_ l S L id k with
  | none => []
  | some c => if rd S k = bus_ id then (if fn_ (F_ l c) (fun_ id) = true then out ++ [k] ++ [c] else []) else down_ l S L id n (out ++ [k]) c
theorem down_succ (l : List ND) (S L : List Int) (id : Int) (n : Nat) (out : List Int) (k : Int) : down_ l S L id (n + 1) out k = match next_ l S L id k with
  | none => []
  | some c => if rd S k = bus_ id then (if fn_ (F_ l c) (fun_ id) = true then out ++ [k] ++ [c] else []) else down_ l S L id n (out ++ [k]) c := rfl
def downto_ (l : List ND) (B S L : List Int) (id : Int) : List Int := if nums_ l B S L = true ∧ 0 ≤ id ∧ id ≤ 255 then down_ l S L id 12 [] 0 else []
theorem down_len (l : List ND) (S L : List Int) (id : Int) : ∀ (n : Nat) (out : List Int) (k : Int), (down_ l S L id n out k).length ≤ out.length + n + 1 := by
 intro n
 induction n with
 | zero => intro out k; simp [down_]
 | succ n ih =>
  intro out k
  rw [down_succ]
  cases next_ l S L id k with
  | none => simp
  | some c =>
   simp only
   split
   ·split <;> simp
   ·have := ih (out ++ [k]) c; simp only [List.length_append, List.length_cons, List.length_nil] at this; omega
theorem downto_len (l : List ND) (B S L : List Int) (id : Int) : (downto_ l B S L id).length ≤ 20 := by
 unfold downto_
 split
 ·have := down_len l S L id 12 [] 0; simp at this; omega
 ·simp
theorem next_mem {l : List ND} {S L : List Int} {id k c : Int} (h : next_ l S L id k = some c) : c ∈ kids_ l k ∧ hit_ l S L id k c = true := ⟨List.mem_of_find?_eq_some h, List.find?_some h⟩
def route_ (l : List ND) (B S L : List Int) (a id : Int) : List Int := if (downto_ l B S L id).length = 0 then [] else btw_ (path_ l a) (path_ l (rd (downto_ l B S L id) (((downto_ l B S L id).length : Int) - 1)))
def local_ (l : List ND) (B S L : List Int) (a b : Int) : Bool := decide (0 < (route_ l B S L a (if nums_ l B S L = true then nid_ l B b 0 else -1)).length) && (decide (a = 0) || !decide ((0 : Int) ∈ route_ l B S L a (if nums_ l B S L = true then nid_ l B b 0 else -1)))
theorem btw_len (l : List ND) (a b : Int) : (btw_ (path_ l a) (path_ l b)).length ≤ 30 := by
 have hp := path_len l a
 have hp2 := path_len l b
 unfold btw_
 split
 ·simp
 ·simp; omega
theorem route_len (l : List ND) (B S L : List Int) (a id : Int) : (route_ l B S L a id).length ≤ 30 := by
 unfold route_
 split
 ·simp
 ·exact btw_len l a _
theorem rd_inode (xs : List S50) (i : Nat) (h : i < xs.length) : rd_T50 xs (i : Int) = xs[i] := getD_nat _ _ _ h
theorem il0_eq (l : List ND) (h1 : 1 ≤ l.length) (hl : l.length ≤ 12) :
  ∀ d K (j : Nat), j + 1 + d = l.length → 2 * d < K → impl_TreeOk.l0 K l (l.drop 1) ((l.drop 1).length : Int) (j : Int) = some (rows_ l d (j + 1)) := by
 intro d
 have hd1 : (l.drop 1).length = l.length - 1 := by simp
 induction d with
 | zero =>
  intro K j hd hK
  obtain ⟨K, rfl⟩ : ∃ m, K = m + 1 := ⟨K - 1, by omega⟩
  simp only [impl_TreeOk.l0]
  rw [if_neg (by omega)]; rfl
 | succ d ih =>
  intro K j hd hK
  obtain ⟨K, rfl⟩ : ∃ m, K = m + 2 := ⟨K - 2, by omega⟩
  have e1 : ((j : Int) + 1) = ((j + 1 : Nat) : Int) := by omega
  have hrd : rd_T50 (l.drop 1) (j : Int) = rd_T50 l ((j + 1 : Nat) : Int) := by
   rw [rd_inode _ _ (by omega), rd_inode _ _ (by omega)]
   simp [Nat.add_comm]
  have hrt : ∀ p : Int, 0 ≤ p → p < ((j + 1 : Nat) : Int) → rd_T50 (l.take (j + 1)) p = rd_T50 l p := by
   intro p hp0 hp1
   obtain ⟨q, rfl⟩ : ∃ q : Nat, p = (q : Int) := ⟨p.toNat, by omega⟩
   rw [rd_inode _ _ (by simp; omega), rd_inode _ _ (by omega)]
   simp
  have hx : ∀ b p d' f, impl_TreeOk.j2 (K + 1) l (l.take (j + 1)) (l.drop 1) ((l.drop 1).length : Int) (j : Int) b p d' f = if b = true then some false else some (if (l.take (j + 1)).any (sib_ p d') then false else rows_ l d (j + 1 + 1)) := fun b p d' f => by
   simp only [impl_TreeOk.j2, impl_Node_impl_TreeOk_1.f, Option.bind_some]
   rw [wr ((j : Int) + 1) (by omega) (by omega), e1, ih K (j + 1) (by omega) (by omega)]
   unfold sib_
   cases b <;> cases (l.take (j + 1)).any (fun x => decide (x.f0 = p) && decide (x.f1 = d')) <;> simp
  simp only [impl_TreeOk.l0]
  rw [if_pos (by omega), if_pos (by omega), if_pos (by omega), wr ((j : Int) + 1) (by omega) (by omega), if_pos (by omega), if_pos (by omega), e1]
  rw [hrd, Int.toNat_natCast]
  unfold rows_ row_
  generalize hn : rd_T50 l ((j + 1 : Nat) : Int) = n
  simp only [within_eq, Option.bind_some, hx]
  have ht : ((l.take (j + 1)).length : Int) = ((j + 1 : Nat) : Int) := by simp; omega
  by_cases c0 : 0 ≤ n.f0 ∧ n.f0 < ((j + 1 : Nat) : Int)
  ·rw [if_pos (by simp; omega), if_pos c0.1, if_pos (by rw [ht]; omega), decide_eq_true c0, Bool.true_and, hrt _ c0.1 c0.2]
   by_cases c1 : (rd_T50 l n.f0).f2 = 0
   ·rw [if_pos c1, decide_eq_true c1, Bool.true_and]
    by_cases c2 : 0 ≤ n.f1 ∧ n.f1 ≤ 3
    ·rw [decide_eq_true c2, if_pos rfl, Bool.true_and]
     by_cases c3 : 0 ≤ n.f2 ∧ n.f2 ≤ 4
     ·rw [decide_eq_true c3, if_neg (by simp), Bool.true_and]
      cases (l.take (j + 1)).any (sib_ n.f0 n.f1) <;> simp
     ·rw [decide_eq_false c3]; simp
    ·rw [decide_eq_false c2]; simp
   ·rw [if_neg c1, decide_eq_false c1]; simp
  ·rw [if_neg (by simp; omega), decide_eq_false c0]; simp
theorem itree_eq (l : List ND) (hl : l.length ≤ 9223372036854775807) (K : Nat) (hK : 200 < K) : impl_TreeOk.f K l = some (tree_ l) := by
 obtain ⟨K, rfl⟩ : ∃ m, K = m + 1 := ⟨K - 1, by omega⟩
 unfold impl_TreeOk.f tree_
 simp only [within_eq, Option.bind_some, impl_TreeOk.j0]
 by_cases c : 1 ≤ (l.length : Int) ∧ (l.length : Int) ≤ 12
 ·rw [decide_eq_true c, if_pos rfl, if_pos (by omega), Bool.true_and, if_pos (show (1 : Int) ≤ (l.length : Int) from c.1)]
  have h := il0_eq l (by omega) (by omega) (l.length - 1) K 0 (by omega) (by omega)
  by_cases hr : root_ l = true
  ·have hr2 := hr
   simp only [root_, Bool.and_eq_true, beq_iff_eq] at hr2
   rw [hr, Bool.true_and, if_neg (by simp [hr2])]
   exact h
  ·rw [Bool.not_eq_true] at hr
   rw [hr, if_pos, Bool.false_and]
   unfold root_ at hr
   revert hr
   cases (rd_T50 l 0).f0 == -1 <;> cases (rd_T50 l 0).f1 == 0 <;> cases (rd_T50 l 0).f2 == 0 <;> simp
 ·rw [decide_eq_false c, if_neg (by simp), Bool.false_and]; simp
theorem isNode_eq (l : List ND) (x : Int) (hl : l.length ≤ 9223372036854775807) (K : Nat) (hK : 200 < K) : impl_isNode.f K l x = some (isn_ l x) := by
 unfold impl_isNode.f isn_
 rw [itree_eq l hl K hK, obs]
 cases h : tree_ l
 ·simp
 ·have := tree_len h
  rw [if_pos rfl, within_eq, obs, wr ((l.length : Int) - 1) (by omega) (by omega), Bool.true_and]
  congr 1
  rw [Bool.eq_iff_iff, decide_eq_true_eq, decide_eq_true_eq]; omega
theorem ikid0_eq (l : List ND) (x : Int) (hl : l.length ≤ 12) : ∀ (d K i : Nat) (out : List Int), i + d = l.length → d < K → out.length + d ≤ 1000 → impl_ChildrenOf.l0 K x out l (l.length : Int) (i : Int) l = slices_SortFunc_int_int_impl_ChildrenOf_1.f (out ++ ixs_ l (fun n => decide (n.f0 = x)) d i) l := by
 intro d
 induction d with
 | zero =>
  intro K i out h hK ho
  obtain ⟨K, rfl⟩ : ∃ m, K = m + 1 := ⟨K - 1, by omega⟩
  simp only [impl_ChildrenOf.l0]
  rw [if_neg (by omega)]; simp [ixs_]
 | succ d ih =>
  intro K i out h hK ho
  obtain ⟨K, rfl⟩ : ∃ m, K = m + 1 := ⟨K - 1, by omega⟩
  simp only [impl_ChildrenOf.l0]
  rw [if_pos (by omega), if_pos (by omega), if_pos (by omega), ixs_succ, wr ((i : Int) + 1) (by omega) (by omega), show (i : Int) + 1 = ((i + 1 : Nat) : Int) by omega]
  by_cases a : (rd_T50 l (i : Int)).f0 = x
  ·rw [if_pos a, if_pos (by omega), ih K (i + 1) _ (by omega) (by omega) (by simp; omega), if_pos (by simp [a])]
   simp
  ·rw [if_neg a, ih K (i + 1) _ (by omega) (by omega) (by omega), if_neg (by simp [a])]
theorem any_take (l : List ND) (p : ND → Bool) (j i : Nat) (hi : i < j) (hj : j ≤ l.length) (h : (l.take j).any p = false) : p (rd_T50 l (i : Int)) = false := by
 rw [List.any_eq_false] at h
 have := h (rd_T50 l (i : Int)) (by rw [rd_inode l i (by omega)]; exact List.mem_take_iff_getElem.2 ⟨i, by omega, rfl⟩)
 simpa using this
theorem all_nodup (l : List ND) (h : tree_ l = true) (x : Int) (hx : 0 ≤ x) : ∀ d i, i + d = l.length → ((ixs_ l (fun n => decide (n.f0 = x)) d i).map (slices_SortFunc_int_int_impl_ChildrenOf_1.key l)).Nodup := by
 intro d
 induction d with
 | zero => intro i _; simp [ixs_]
 | succ d ih =>
  intro i hi
  rw [ixs_succ]
  split
  ·rename_i hp
   rw [List.map_cons, List.nodup_cons]
   refine ⟨?_, ih (i + 1) (by omega)⟩
   intro hm
   obtain ⟨y, hy, e⟩ := List.mem_map.1 hm
   obtain ⟨y0, y1, y2⟩ := ixs_mem _ _ _ _ _ hy
   obtain ⟨j, rfl⟩ : ∃ j : Nat, y = (j : Int) := ⟨y.toNat, by omega⟩
   have hr := tree_row h j (by omega) (by omega)
   simp only [row_, Bool.and_eq_true, Bool.not_eq_true'] at hr
   have := any_take l _ j i (by omega) (by omega) hr.2.2.2.2
   simp only [sib_, slices_SortFunc_int_int_impl_ChildrenOf_1.key] at this e hp y2
   simp only [decide_eq_true_eq] at hp y2
   rw [y2, hp, e] at this
   simp at this
  ·exact ih (i + 1) (by omega)
theorem ikids_eq (l : List ND) (x : Int) (hl : l.length ≤ 9223372036854775807) (K : Nat) (hK : 500 < K) : impl_ChildrenOf.f K l x = some (kids_ l x) := by
 unfold impl_ChildrenOf.f kids_
 rw [obs, isNode_eq l x hl K (by omega), obs]
 by_cases h : isn_ l x = true
 ·obtain ⟨t, g0, g1⟩ := isn_tree h
  obtain ⟨t0, t1⟩ := tree_len t
  have hlen := ixs_len l (fun n => decide (n.f0 = x)) l.length 0
  have hw := ikid0_eq l x t1 l.length K 0 [] (by omega) (by omega) (by simp; omega)
  simp only [List.nil_append, Int.natCast_zero] at hw
  rw [if_pos h, if_pos h]
  refine Eq.trans hw ?_
  unfold slices_SortFunc_int_int_impl_ChildrenOf_1.f
  have hroot := tree_root t
  have hall : (ixs_ l (fun n => decide (n.f0 = x)) l.length 0).all (fun y => decide (0 ≤ y ∧ y < (l.length : Int) ∧ 0 ≤ slices_SortFunc_int_int_impl_ChildrenOf_1.key l y ∧ slices_SortFunc_int_int_impl_ChildrenOf_1.key l y ≤ 3)) = true := by
   rw [List.all_eq_true]
   intro y hy
   obtain ⟨y0, y1, y2⟩ := ixs_mem _ _ _ _ _ hy
   obtain ⟨j, rfl⟩ : ∃ j : Nat, y = (j : Int) := ⟨y.toNat, by omega⟩
   simp only [decide_eq_true_eq] at y2
   have hj : 0 < j := by
    rcases Nat.eq_zero_or_pos j with rfl | hj
    ·rw [show ((0 : Nat) : Int) = 0 by rfl, hroot] at y2; omega
    ·exact hj
   have hr := tree_row t j hj (by omega)
   simp only [row_, Bool.and_eq_true, decide_eq_true_eq] at hr
   simp only [slices_SortFunc_int_int_impl_ChildrenOf_1.key]
   exact decide_eq_true ⟨by omega, by omega, hr.2.2.1.1, hr.2.2.1.2⟩
  rw [if_pos (by
   rw [hall, decide_eq_true (all_nodup l t x g0 l.length 0 (by omega)), decide_eq_true (show (ixs_ l (fun n => decide (n.f0 = x)) l.length 0).length ≤ 12 by omega)]; rfl)]
  have hf : ∀ c : Int, (ixs_ l (fun n => decide (n.f0 = x)) l.length 0).filter (fun y => decide (slices_SortFunc_int_int_impl_ChildrenOf_1.key l y = c)) = kidsAt_ l x c := fun c => by
   have e := ixs_filter l (fun n => decide (n.f0 = x)) (fun n => decide (n.f1 = c)) l.length 0
   refine e.trans ?_
   obtain ⟨m, hm⟩ : ∃ m, l.length = m + 1 := ⟨l.length - 1, by omega⟩
   unfold kidsAt_
   rw [hm, ixs_succ, if_neg (by simp [hroot]; omega)]
   rfl
  rw [hf, hf, hf, hf]
 ·rw [if_neg h, if_neg h]
theorem iv_loop (l : List ND) (hlen : l.length ≤ 12) (k b : Int) (k0 : 0 ≤ k) (k1 : k < (l.length : Int)) (N : Nat) (hN : N = l.length) (ks : List Int) (hn : ks.length ≤ 48) (V : Int → Int → List Int → List Int → List Int → VT) (R : Nat)
  (hk : ∀ c ∈ ks, k < c ∧ c < (l.length : Int)) (hok : ∀ c ∈ ks, ∀ b' B S L, vlen_ N (b', B, S, L) → vok_ N c b' S (V c b' B S L))
  (hV : ∀ c ∈ ks, ∀ K b' B S L, R ≤ K → vlen_ N (b', B, S, L) → 0 ≤ b' → b' + bd_ c ≤ 16777217 → impl_numberer_visit.f K l B S L b' c b' = some ((V c b' B S L).1, (V c b' B S L).1, (V c b' B S L).2.1, (V c b' B S L).2.2.1, (V c b' B S L).2.2.2)) :
  ∀ (d K i : Nat) (a : VT), i + d = ks.length → R + d < K → vlen_ N a → 0 ≤ a.1 → a.1 + ((ks.drop i).map bd_).sum ≤ 16777216 →
   impl_numberer_visit.l0 K k b a.1 ks (ks.length : Int) (i : Int) l a.2.1 a.2.2.1 a.2.2.2 a.1 = some (((ks.drop i).foldl (vstep_ l b V) a).1, vend_ k ((ks.drop i).foldl (vstep_ l b V) a)) := by
 have hbr : ∀ c : Int, 0 ≤ c → c < (l.length : Int) → impl_isBridge.f l c = some ((rd_T50 l c).f2 == 0) := fun c c0 c1 => by unfold impl_isBridge.f; rw [if_pos c0, if_pos c1]
 intro d
 induction d with
 | zero =>
  intro K i a hi hK ha h0 hb
  obtain ⟨K, rfl⟩ : ∃ m, K = m + 1 := ⟨K - 1, by omega⟩
  simp only [impl_numberer_visit.l0]
  rw [if_neg (by omega), if_pos k0, if_pos (by rw [ha.2.2]; omega), List.drop_of_length_le (by omega)]
  rfl
 | succ d ih =>
  intro K i a hi hK ha h0 hb
  obtain ⟨K, rfl⟩ : ∃ m, K = m + 1 := ⟨K - 1, by omega⟩
  have hi' : i < ks.length := by omega
  have hc := hk ks[i] (List.getElem_mem hi')
  have hds := drop_sum bd_ ks i hi'
  have hnn := drop_sum_nn bd_ ks (fun y _ => by have := bd_pos y; omega) (i + 1)
  have hp := bd_pos ks[i]
  have hset : vlen_ N (a.1 + 1, a.2.1.set (ks[i]).toNat b, a.2.2.1, a.2.2.2) := ⟨by simp only [List.length_set]; exact ha.1, ha.2.1, ha.2.2⟩
  rw [List.drop_eq_getElem_cons hi', List.foldl_cons]
  simp only [impl_numberer_visit.l0]
  rw [if_pos (by omega), if_pos (by omega), if_pos (by omega), rd_nat ks i hi', if_pos (by omega), if_pos (by rw [ha.1]; omega), obs, hbr ks[i] (by omega) hc.2, obs, wr ((i : Int) + 1) (by omega) (by omega), show (i : Int) + 1 = ((i + 1 : Nat) : Int) by omega]
  by_cases g : (rd_T50 l ks[i]).f2 = 0
  ·have e : vstep_ l b V a ks[i] = V ks[i] (a.1 + 1) (a.2.1.set (ks[i]).toNat b) a.2.2.1 a.2.2.2 := by unfold vstep_; rw [if_pos g]
   obtain ⟨q1, q2, q3, q4⟩ := hok ks[i] (List.getElem_mem hi') (a.1 + 1) (a.2.1.set (ks[i]).toNat b) a.2.2.1 a.2.2.2 hset
   rw [if_pos (by simpa using g), wr (a.1 + 1) (by omega) (by omega), hV ks[i] (List.getElem_mem hi') K (a.1 + 1) _ _ _ (by omega) hset (by omega) (by omega), obs, e, show mx a.1 (V ks[i] (a.1 + 1) (a.2.1.set (ks[i]).toNat b) a.2.2.1 a.2.2.2).1 = (V ks[i] (a.1 + 1) (a.2.1.set (ks[i]).toNat b) a.2.2.1 a.2.2.2).1 by unfold mx; rw [if_pos (by omega)]]
   exact ih K (i + 1) _ (by omega) (by omega) q1 (by omega) (by omega)
  ·have e : vstep_ l b V a ks[i] = (a.1, a.2.1.set (ks[i]).toNat b, a.2.2.1, a.2.2.2) := by unfold vstep_; rw [if_neg g]
   rw [if_neg (by simpa using g), e]
   exact ih K (i + 1) (a.1, a.2.1.set (ks[i]).toNat b, a.2.2.1, a.2.2.2) (by omega) (by omega) ⟨hset.1, hset.2.1, hset.2.2⟩ h0 (by simp only; omega)
theorem ivis_eq (l : List ND) (h : tree_ l = true) : ∀ (n : Nat) (K : Nat) (k b : Int) (B S L : List Int), 0 ≤ k → k < (l.length : Int) → (l.length : Int) - k ≤ (n : Int) → 700 + 100 * n < K → vlen_ l.length (b, B, S, L) → 0 ≤ b → b + bd_ k ≤ 16777216 + 4096 →
  impl_numberer_visit.f K l B S L b k b = some ((vis_ l n k b B S L).1, (vis_ l n k b B S L).1, (vis_ l n k b B S L).2.1, (vis_ l n k b B S L).2.2.1, (vis_ l n k b B S L).2.2.2) := by
 intro n
 induction n with
 | zero => intro K k b B S L h0 h1 h2; omega
 | succ n ih =>
  intro K k b B S L h0 h1 h2 hK hl hb0 hb1
  obtain ⟨K, rfl⟩ : ∃ m, K = m + 1 := ⟨K - 1, by omega⟩
  have t := tree_len h
  have hs := kids_bd2 l h k h0 h1
  have hkl := kids_len l k
  simp only [impl_numberer_visit.f]
  rw [if_pos h0, if_pos (by rw [hl.2.1]; omega), ikids_eq l k (by omega) K (by omega), obs, vis_succ]
  have e := iv_loop l t.2 k b h0 h1 l.length rfl (kids_ l k) hkl (vis_ l n) (701 + 100 * n) (fun c hc => kids_mem l h k c h0 h1 hc) (fun c hc b' B S L hl => by
    have := kids_mem l h k c h0 h1 hc
    exact vis_ok l h l.length n c b' B S L (by omega) this.2 hl) (fun c hc K' b' B S L hK' hl g0 g1 => by
    have := kids_mem l h k c h0 h1 hc
    exact ih K' c b' B S L (by omega) this.2 (by omega) (by omega) hl g0 (by omega)) (kids_ l k).length K 0 (b, B, S.set k.toNat b, L) (by omega) (by omega) ⟨hl.1, by simp only [List.length_set]; exact hl.2.1, hl.2.2⟩ hb0 (by simp only [List.drop_zero]; omega)
  rw [List.drop_zero] at e
  exact e
theorem clone0 (l : List Int) (h : l.length ≤ 17592186044416) : slices_Clone_int_int.f l = some l := by unfold slices_Clone_int_int.f; rw [if_pos h]
theorem ienum_eq (l : List ND) (hl : l.length ≤ 9223372036854775807) (K : Nat) (hK : 2500 < K) : impl_Enumerate.f K l = some (enum_ l) := by
 unfold impl_Enumerate.f enum_
 rw [itree_eq l hl K (by omega), obs]
 by_cases h : tree_ l = true
 ·have t := tree_len h
  have hn := none_len l
  have hc : slices_Clone_int_int.f (none_ l) = some (none_ l) := clone0 _ (by omega)
  have hr : slices_Repeat_int_int.f ([(-1)] : List Int) (l.length : Int) = some (none_ l) := by
   unfold slices_Repeat_int_int.f
   rw [if_pos ⟨rfl, by omega, by omega⟩]; rfl
  have hb := bd0
  rw [if_pos h, if_pos h, hr, obs, hc, obs, obs, obs, ivis_eq l h 12 K 0 0 (none_ l) (none_ l) (none_ l) (by omega) (by omega) (by omega) (by omega) ⟨hn, hn, hn⟩ (by omega) (by omega), obs]
  split <;> rfl
 ·rw [if_neg h, if_neg h]
theorem sEqual_eq (K : Nat) (a b : List Int) (ha : a.length ≤ 1000) (hK : 1000 < K) : slices_Equal_int_int.f K a b = some (decide (a = b)) := by
 unfold slices_Equal_int_int.f
 by_cases e : b.length = a.length
 ·rw [if_pos (by omega)]
  have h := eq_loop (fun k x y i => slices_Equal_int_int.l0 k x y (a.length : Int) i) a b (by omega) e (fun k i h hx => by
    simp only [slices_Equal_int_int.l0]
    rw [if_pos (by omega), if_pos (by omega), if_pos (by omega), if_pos (by omega), rd_nat _ _ h, rd_nat _ _ (by omega), if_neg hx]) (fun k i h hx => by
    simp only [slices_Equal_int_int.l0]
    rw [if_pos (by omega), if_pos (by omega), if_pos (by omega), if_pos (by omega), rd_nat _ _ h, rd_nat _ _ (by omega), if_pos hx, wr _ (by omega) (by omega)]
    rfl) (fun k => by
    simp only [slices_Equal_int_int.l0]
    rw [if_neg (by omega)]) a.length K 0 (by omega) (by omega)
  simpa using h
 ·rw [if_neg (by omega)]
  congr 1
  symm
  rw [decide_eq_false_iff_not]
  rintro rfl
  exact e rfl
theorem areNums_eq (l : List ND) (B S L : List Int) (hl : l.length ≤ 9223372036854775807) (K : Nat) (hK : 2600 < K) : impl_areNumbers.f K l B S L = some (nums_ l B S L) := by
 unfold impl_areNumbers.f nums_
 rw [ienum_eq l hl K (by omega), obs]
 obtain ⟨e1, e2, e3⟩ := enum_len l
 cases (enum_ l).2.2.2
 ·simp
 ·rw [if_pos rfl, sEqual_eq K _ B e1 (by omega), obs, Bool.true_and]
  by_cases q1 : (enum_ l).1 = B
  ·rw [if_pos (by simpa using q1), sEqual_eq K _ S e2 (by omega), obs]
   by_cases q2 : (enum_ l).2.1 = S
   ·rw [if_pos (by simpa using q2), sEqual_eq K _ L e3 (by omega), obs]
    simp [q1, q2]
   ·rw [if_neg (by simpa using q2)]; simp [q2]
  ·rw [if_neg (by simpa using q1)]; simp [q1]
theorem iund_eq (n : Nat) (B S L : List Int) (hS : S.length = n) (hL : L.length = n) (hn : n ≤ 1000) (c b : Int) (c0 : 0 ≤ c) (c1 : c < (n : Int)) : impl_IsUnder.f B S L c b = some (decide (0 ≤ rd S c ∧ rd S c ≤ b ∧ b ≤ rd L c)) := by
 unfold impl_IsUnder.f
 have hm : wrap64 (mn (S.length : Int) (L.length : Int) - 1) = (n : Int) - 1 := by
  rw [wr _ (by unfold mn; split <;> omega) (by unfold mn; split <;> omega)]
  unfold mn; split <;> omega
 rw [hm, within_eq, obs, if_pos (by rw [decide_eq_true_eq]; omega), if_pos c0, if_pos (by omega)]
 by_cases h : rd S c ≥ 0
 ·rw [if_pos h, if_pos (by omega), within_eq, obs]
  congr 1; rw [decide_eq_decide]; omega
 ·rw [if_neg h]; congr 1; symm; rw [decide_eq_false_iff_not]; omega
theorem iisid_eq (id : Int) : impl_IsId.f id = some (decide (0 ≤ id ∧ id ≤ 255)) := by
 unfold impl_IsId.f
 rw [within_eq, obs]
theorem ibus_eq (id : Int) (h : 0 ≤ id ∧ id ≤ 255) : impl_BusOf.f id = some (bus_ id) := by
 unfold impl_BusOf.f
 rw [iisid_eq, obs, if_pos (by simpa using h), tdiv_w id 16 h.1 h.2 (by omega)]; rfl
theorem idev_eq (id : Int) (h : 0 ≤ id ∧ id ≤ 255) : impl_DeviceOf.f id = some (dev_ id) := by
 unfold impl_DeviceOf.f
 rw [iisid_eq, obs, if_pos (by simpa using h), tdiv_w id 4 h.1 h.2 (by omega), Int.tmod_eq_emod_of_nonneg (by omega)]; rfl
theorem ifun_eq (id : Int) (h : 0 ≤ id ∧ id ≤ 255) : impl_FunctionOf.f id = some (fun_ id) := by
 unfold impl_FunctionOf.f
 rw [iisid_eq, obs, if_pos (by simpa using h), Int.tmod_eq_emod_of_nonneg h.1]; rfl
theorem ifn_eq {l : List ND} (h : tree_ l = true) (k f : Int) (h0 : 0 ≤ k) (h1 : k < (l.length : Int)) (x y : Int) : impl_hasFunction.f x y (F_ l k) f = some (fn_ (F_ l k) f) := by
 have := F_bd h k h0 h1
 unfold impl_hasFunction.f fn_
 rw [within_eq, obs, wr (F_ l k - 1) (by omega) (by omega)]
theorem idx_find (p : Int → Bool) : ∀ (ks : List Int) (i : Int), 0 ≤ i → (ks.find? p = none ∧ Fns.idxFrom p i ks = -1) ∨ ∃ (c : Int) (j : Nat), ks.find? p = some c ∧ Fns.idxFrom p i ks = i + j ∧ ks[j]? = some c := by
 intro ks
 induction ks with
 | nil => intro i _; exact .inl ⟨rfl, rfl⟩
 | cons x t ih =>
  intro i h0
  unfold Fns.idxFrom
  by_cases hx : p x = true
  ·rw [if_pos hx]; exact .inr ⟨x, 0, by simp [hx], by simp, by simp⟩
  ·rw [if_neg hx]
   rcases ih (i + 1) (by omega) with ⟨h1, h2⟩ | ⟨c, j, h1, h2, h3⟩
   ·exact .inl ⟨by simp [hx, h1], h2⟩
   ·exact .inr ⟨c, j + 1, by simp [hx, h1], by rw [h2]; omega, by simpa using h3⟩
theorem ilit_eq {l : List ND} {B S L : List Int} (h : nums_ l B S L = true) (id k c : Int) (hid : 0 ≤ id ∧ id ≤ 255) (c0 : 0 < c) (c1 : c < (l.length : Int)) : impl_DownToId_1.f c (rd S k == bus_ id) l id B S L (bus_ id) = some (hit_ l S L id k c) := by
 obtain ⟨ht, e⟩ := nums_tree h
 have t := tree_len ht
 have hlen := e.len
 simp only at hlen
 unfold impl_DownToId_1.f hit_
 by_cases ob : rd S k = bus_ id
 ·rw [if_pos (by simpa using ob), if_pos (by omega), if_pos c1, idev_eq id hid, obs, if_pos ob]; rfl
 ·rw [if_neg (by simpa using ob), if_neg ob]
  unfold impl_isBridge.f
  rw [if_pos (by omega), if_pos c1, obs]
  by_cases g : F_ l c = 0
  ·rw [if_pos (by simpa using g), iund_eq l.length B S L hlen.2.1 hlen.2.2 (by omega) c (bus_ id) (by omega) c1, obs]
  ·have hl := e.leaf c c0 c1 g
   simp only at hl
   rw [if_neg (by simpa using g), hl.1]
   simp
theorem idown_loop {l : List ND} {B S L : List Int} (h : nums_ l B S L = true) (id : Int) (hid : 0 ≤ id ∧ id ≤ 255) : ∀ (n : Nat) (K : Nat) (out : List Int) (k : Int), 0 ≤ k → k < (l.length : Int) → (l.length : Int) - k ≤ (n : Int) → out.length + n ≤ 30 → 700 + n < K →
  impl_DownToId.l0 K (out ++ [k]) l B S L id (bus_ id) = some (down_ l S L id n out k) := by
 obtain ⟨ht, e⟩ := nums_tree h
 have t := tree_len ht
 have hlen := e.len
 simp only at hlen
 intro n
 induction n with
 | zero => intro K out k k0 k1 hn; omega
 | succ n ih =>
  intro K out k k0 k1 hn ho hK
  obtain ⟨K, rfl⟩ : ∃ m, K = m + 1 := ⟨K - 1, by omega⟩
  have hl : ((out ++ [k]).length : Int) = (out.length : Int) + 1 := by simp
  have hw : wrap64 (((out ++ [k]).length : Int) - 1) = (out.length : Int) := by rw [hl, wr _ (by omega) (by omega)]; omega
  have hr : rd (out ++ [k]) (out.length : Int) = k := by rw [rd_nat _ _ (by simp)]; simp
  rw [impl_DownToId.l0, hw, hr, if_pos (by omega), if_pos (by rw [hl]; omega), if_pos k0, if_pos (by omega), ikids_eq l k (by omega) K (by omega), obs, down_succ]
  have hm : ∀ c ∈ kids_ l k, 0 < c ∧ c < (l.length : Int) := fun c hc => by have := kids_mem l ht k c k0 k1 hc; omega
  have hidx : slices_IndexFunc_int_int_impl_DownToId_1.f (kids_ l k) (rd S k == bus_ id) l id B S L (bus_ id) = some (Fns.idxFrom (hit_ l S L id k) 0 (kids_ l k)) := by
   unfold slices_IndexFunc_int_int_impl_DownToId_1.f
   rw [if_pos (by rw [List.all_eq_true]; intro c hc; rw [ilit_eq h id k c hid (hm c hc).1 (hm c hc).2]; rfl)]
   congr 1
   have go : ∀ (ks : List Int) (i : Int), (∀ c ∈ ks, c ∈ kids_ l k) → Fns.idxFrom (fun x => (impl_DownToId_1.f x (rd S k == bus_ id) l id B S L (bus_ id)).getD false) i ks = Fns.idxFrom (hit_ l S L id k) i ks := by
    intro ks
    induction ks with
    | nil => intro i _; rfl
    | cons x t iht =>
     intro i hx
     have hxm := hm x (hx x List.mem_cons_self)
     unfold Fns.idxFrom
     rw [ilit_eq h id k x hid hxm.1 hxm.2, iht (i + 1) (fun c hc => hx c (List.mem_cons_of_mem _ hc))]
     rfl
   exact go _ 0 (fun c hc => hc)
  rw [hidx, obs]
  unfold next_
  rcases idx_find (hit_ l S L id k) (kids_ l k) 0 (by omega) with ⟨h1, h2⟩ | ⟨c, j, h1, h2, h3⟩
  ·rw [h1, h2, if_pos (by omega)]
  ·obtain ⟨hj, hjc⟩ := List.getElem?_eq_some_iff.1 h3
   have hc := hm c (List.mem_of_getElem? h3)
   have hkk := kids_mem l ht k c k0 k1 (List.mem_of_getElem? h3)
   have hrc : rd (kids_ l k) (0 + (j : Int)) = c := by rw [Int.zero_add, rd_nat _ _ hj, hjc]
   rw [h1, h2, if_neg (by omega), if_pos (by omega), if_pos (by omega), if_pos (by simp; omega), hrc, obs]
   simp only
   by_cases ob : rd S k = bus_ id
   ·rw [if_pos ob, if_pos ob, if_pos (by omega), if_pos hc.2, ifun_eq id hid, obs]
    have hF : (rd_T50 l c).f2 = F_ l c := rfl
    rw [hF, ifn_eq ht c (fun_ id) (by omega) hc.2, obs]
    by_cases hf : fn_ (F_ l c) (fun_ id) = true
    ·rw [if_pos hf, if_pos hf]
    ·rw [if_neg hf, if_neg hf]
   ·rw [if_neg ob, if_neg ob]
    exact ih K (out ++ [k]) c (by omega) hc.2 (by omega) (by simp; omega) (by omega)
theorem idown_eq (l : List ND) (B S L : List Int) (id : Int) (hl : l.length ≤ 9223372036854775807) (K : Nat) (hK : 2700 < K) : impl_DownToId.f K l B S L id = some (downto_ l B S L id) := by
 obtain ⟨K, rfl⟩ : ∃ m, K = m + 1 := ⟨K - 1, by omega⟩
 unfold impl_DownToId.f downto_
 rw [areNums_eq l B S L hl (K + 1) (by omega), obs]
 by_cases h : nums_ l B S L = true
 ·have t := tree_len (nums_tree h).1
  rw [if_pos h, iisid_eq, obs]
  simp only [impl_DownToId.j0]
  by_cases hid : 0 ≤ id ∧ id ≤ 255
  ·rw [if_neg (by simpa using hid), if_pos ⟨h, hid⟩, ibus_eq id hid, obs]
   exact idown_loop h id hid 12 K [] 0 (by omega) (by omega) (by omega) (by simp) (by omega)
  ·rw [if_pos (by simp only [decide_eq_false hid]; rfl), if_neg (fun q => hid q.2)]
 ·rw [if_neg h, if_neg (fun q => h q.1)]
  simp only [impl_DownToId.j0]
  rw [if_pos trivial]
theorem rev_at (a : List Int) (y : Int) (b : List Int) : rd (a ++ y :: b) (a.length : Int) = y := by
 rw [rd_nat _ _ (by simp)]; simp
theorem rev_loop : ∀ (n K : Nat) (a m b : List Int), m.length ≤ n → n < K → a.length + m.length + b.length ≤ 1048576 →
  slices_Reverse_int_int.l0 K (a ++ (m ++ b)) (a.length : Int) ((a.length : Int) + (m.length : Int) - 1) = some (a ++ (m.reverse ++ b)) := by
 intro n
 induction n with
 | zero =>
  intro K a m b hm hK hl
  obtain ⟨K, rfl⟩ : ∃ q, K = q + 1 := ⟨K - 1, by omega⟩
  have : m = [] := List.eq_nil_of_length_eq_zero (by omega)
  subst this
  simp only [slices_Reverse_int_int.l0]
  rw [if_neg (by simp; omega)]; simp
 | succ n ih =>
  intro K a m b hm hK hl
  obtain ⟨K, rfl⟩ : ∃ q, K = q + 1 := ⟨K - 1, by omega⟩
  by_cases h2 : m.length < 2
  ·simp only [slices_Reverse_int_int.l0]
   rw [if_neg (by omega)]
   have : m.reverse = m := by
    cases m with
    | nil => rfl
    | cons x xs =>
     have : xs = [] := List.eq_nil_of_length_eq_zero (by simp at h2; omega)
     subst this; rfl
   rw [this]
  ·obtain ⟨y, m', rfl⟩ : ∃ y m', m = y :: m' := by
    cases m with
    | nil => simp at h2
    | cons y m' => exact ⟨y, m', rfl⟩
   obtain ⟨m2, z, rfl⟩ : ∃ m2 z, m' = m2 ++ [z] := by
    refine ⟨m'.dropLast, m'.getLast (fun e => by subst e; simp at h2), ?_⟩
    rw [List.dropLast_concat_getLast]
   simp only [List.length_cons, List.length_append, List.length_nil] at hm hl h2 ⊢
   have hj : ((a.length : Int) + ((m2.length + (0 + 1) + 1 : Nat) : Int) - 1) = ((a ++ y :: m2).length : Int) := by simp; omega
   rw [hj]
   have e0 : a ++ (y :: (m2 ++ [z]) ++ b) = a ++ y :: (m2 ++ z :: b) := by simp
   have e1 : a ++ (y :: (m2 ++ [z]) ++ b) = (a ++ y :: m2) ++ z :: b := by simp
   have r0 : rd (a ++ (y :: (m2 ++ [z]) ++ b)) (a.length : Int) = y := by rw [e0]; exact rev_at _ _ _
   have r1 : rd (a ++ (y :: (m2 ++ [z]) ++ b)) ((a ++ y :: m2).length : Int) = z := by rw [e1]; exact rev_at _ _ _
   have hlen : ((a ++ (y :: (m2 ++ [z]) ++ b)).length : Int) = (a.length : Int) + m2.length + 2 + b.length := by simp; omega
   have hjl : ((a ++ y :: m2).length : Int) = (a.length : Int) + m2.length + 1 := by simp; omega
   simp only [slices_Reverse_int_int.l0]
   rw [if_pos (by omega), if_pos (by omega), if_pos (by omega), if_pos (by omega), if_pos (by omega), r0, r1]
   have hs : ((a ++ (y :: (m2 ++ [z]) ++ b)).set (a.length : Int).toNat z).set ((a ++ y :: m2).length : Int).toNat y = (a ++ [z]) ++ (m2 ++ (y :: b)) := by
    rw [e0, Int.toNat_natCast, Int.toNat_natCast]
    have : (a ++ y :: (m2 ++ z :: b)).set a.length z = (a ++ z :: m2) ++ z :: b := by simp
    rw [this]
    have hl2 : (a ++ y :: m2).length = (a ++ z :: m2).length := by simp
    rw [hl2, List.set_append_right _ _ (Nat.le_refl _)]
    simp
   rw [hs, wr ((a.length : Int) + 1) (by omega) (by omega), wr (((a ++ y :: m2).length : Int) - 1) (by omega) (by omega)]
   have h := ih K (a ++ [z]) m2 (y :: b) (by omega) (by omega) (by simp; omega)
   have ea : (((a ++ [z]).length : Nat) : Int) = (a.length : Int) + 1 := by simp
   rw [ea] at h
   have ej : ((a ++ y :: m2).length : Int) - 1 = (a.length : Int) + 1 + (m2.length : Int) - 1 := by omega
   rw [ej, h]
   simp
theorem rev_eq (K : Nat) (l : List Int) (hl : l.length ≤ 1048576) (hK : l.length < K) : slices_Reverse_int_int.f K l = some l.reverse := by
 unfold slices_Reverse_int_int.f
 have h := rev_loop l.length K [] l [] (Nat.le_refl _) hK (by simp; omega)
 simp only [List.nil_append, List.append_nil, List.length_nil] at h
 rw [wr _ (by omega) (by omega)]
 have e : ((0 : Nat) : Int) + (l.length : Int) - 1 = (l.length : Int) - 1 := by omega
 rw [e] at h
 exact h
theorem ipl_eq (l : List ND) (h : tree_ l = true) : ∀ (d K : Nat) (x : Int) (out : List Int), -1 ≤ x → x < (d : Int) → x < (l.length : Int) → d + 1001 < K → out.length + d ≤ 1000 → impl_PathTo.l0 K l x out = some ((out ++ up_ l d x).reverse) := by
 intro d
 induction d with
 | zero =>
  intro K x out h0 h1 h2 hK ho
  obtain ⟨K, rfl⟩ : ∃ m, K = m + 1 := ⟨K - 1, by omega⟩
  simp only [impl_PathTo.l0]
  rw [if_neg (by omega), rev_eq K out (by omega) (by omega)]; simp [up_]
 | succ d ih =>
  intro K x out h0 h1 h2 hK ho
  obtain ⟨K, rfl⟩ : ∃ m, K = m + 1 := ⟨K - 1, by omega⟩
  simp only [impl_PathTo.l0]
  unfold up_
  by_cases hx : 0 ≤ x
  ·have hp := parent_lt h x hx h2
   rw [if_pos hx, if_pos hx, if_pos (by omega), if_pos h2, ih K _ _ hp.1 (by omega) (by omega) (by omega) (by simp; omega)]
   simp [hx]
  ·rw [if_neg hx, if_neg hx, rev_eq K out (by omega) (by omega)]; simp
theorem ipath_eq (l : List ND) (x : Int) (hl : l.length ≤ 9223372036854775807) (K : Nat) (hK : 2000 < K) : impl_PathTo.f K l x = some (path_ l x) := by
 unfold impl_PathTo.f path_
 rw [obs, isNode_eq l x hl K (by omega), obs]
 by_cases h : isn_ l x = true
 ·obtain ⟨h1, h2, h3⟩ := isn_tree h
  have := tree_len h1
  rw [if_pos h, if_pos h, ipl_eq l h1 13 K x [] (by omega) (by omega) h3 (by omega) (by simp)]
  simp
 ·rw [if_neg h, if_neg h]
theorem ibtend (K : Nat) (x y : List Int) (hx : x.length ≤ 100) (hy : y.length ≤ 100) (n : Nat) (h1 : 1 ≤ n) (hn : n ≤ x.length) (hn2 : n ≤ y.length) (hK : 1000 < K) :
  (if 0 ≤ (wrap64 ((n : Int) - 1)) then (if (wrap64 ((n : Int) - 1)) ≤ (x.length : Int) then ((slices_Clone_int_int.f (x.drop ((wrap64 ((n : Int) - 1)) : Int).toNat)).bind fun t249 => ((slices_Reverse_int_int.f K t249).bind fun t252 => (if 0 ≤ (n : Int) then (if (n : Int) ≤ (y.length : Int) then ((some (y.drop (n : Int).toNat : List Int)).bind fun y253 => (if t252.length + y253.length < 17592186044416 then (some (t252 ++ y253)) else (none))) else (none)) else (none)))) else (none)) else (none)) = some ((x.drop (n - 1)).reverse ++ y.drop n) := by
 rw [wr ((n : Int) - 1) (by omega) (by omega), if_pos (by omega), if_pos (by omega), clone0 _ (by simp; omega), obs, rev_eq K _ (by simp; omega) (by simp; omega), obs, if_pos (by omega), if_pos (by omega), obs, if_pos (by simp; omega)]
 simp [show ((n : Int) - 1).toNat = n - 1 by omega]
theorem ibt_eq (x y : List Int) (hx : x.length ≤ 100) (hy : y.length ≤ 100) (c : Nat) (hc1 : 1 ≤ c) (hcx : c ≤ x.length) (hcy : c ≤ y.length) :
  ∀ (d K i : Nat), i + d = x.length → d + 1001 < K → i + cp_ (x.drop i) (y.drop i) = c → impl_PathBetween.l0 K x y (i : Int) = some ((x.drop (c - 1)).reverse ++ y.drop c) := by
 intro d
 induction d with
 | zero =>
  intro K i hi hK hc
  obtain ⟨K, rfl⟩ : ∃ m, K = m + 1 := ⟨K - 1, by omega⟩
  rw [List.drop_of_length_le (by omega : x.length ≤ i)] at hc
  simp only [cp_] at hc
  simp only [impl_PathBetween.l0]
  rw [if_neg (by unfold mn; split <;> omega)]
  obtain rfl : i = c := by omega
  exact ibtend K x y hx hy i hc1 hcx hcy (by omega)
 | succ d ih =>
  intro K i hi hK hc
  obtain ⟨K, rfl⟩ : ∃ m, K = m + 1 := ⟨K - 1, by omega⟩
  simp only [impl_PathBetween.l0]
  rw [List.drop_eq_getElem_cons (by omega : i < x.length)] at hc
  by_cases hyi : i < y.length
  ·rw [List.drop_eq_getElem_cons hyi] at hc
   rw [if_pos (by unfold mn; split <;> omega), if_pos (by omega), if_pos (by omega), if_pos (by omega), rd_nat _ _ (by omega), rd_nat _ _ hyi]
   unfold cp_ at hc
   by_cases he : x[i]'(by omega) = y[i]
   ·rw [if_pos he] at hc
    rw [if_pos he, wr ((i : Int) + 1) (by omega) (by omega)]
    exact ih K (i + 1) (by omega) (by omega) (by omega)
   ·rw [if_neg he] at hc
    rw [if_neg he]
    obtain rfl : i = c := by omega
    have h := ibtend K x y hx hy i hc1 hcx hcy (by omega)
    simp only [show (0 : Int) ≤ (i : Int) from by omega, if_true] at h
    exact h
  ·rw [List.drop_of_length_le (by omega : y.length ≤ i)] at hc
   unfold cp_ at hc
   rw [if_neg (by unfold mn; split <;> omega)]
   obtain rfl : i = c := by omega
   exact ibtend K x y hx hy i hc1 hcx hcy (by omega)
theorem ibetween_eq (l : List ND) (a b : Int) (hl : l.length ≤ 9223372036854775807) (K : Nat) (hK : 3000 < K) : impl_PathBetween.f K l a b = some (btw_ (path_ l a) (path_ l b)) := by
 obtain ⟨K, rfl⟩ : ∃ m, K = m + 1 := ⟨K - 1, by omega⟩
 unfold impl_PathBetween.f
 rw [isNode_eq l a hl _ (by omega), obs]
 simp only [isNode_eq l b hl (K + 1) (by omega), obs, impl_PathBetween.j0]
 have hx := path_len l a
 have hy := path_len l b
 by_cases h0 : isn_ l a = true
 ·by_cases h1 : isn_ l b = true
  ·obtain ⟨r, e⟩ := path_head l a h0
   obtain ⟨s, f⟩ := path_head l b h1
   have hc : 1 ≤ cp_ (path_ l a) (path_ l b) := by rw [e, f]; simp [cp_]
   have hcl := cp_le (path_ l a) (path_ l b)
   rw [if_pos h0, h1, if_neg (by simp), ipath_eq l a hl K (by omega), obs, ipath_eq l b hl K (by omega), obs]
   unfold btw_
   rw [if_neg (by omega)]
   exact ibt_eq _ _ (by omega) (by omega) _ hc (by omega) (by omega) (path_ l a).length K 0 (by omega) (by omega) (by simp)
  ·rw [if_pos h0, path_none l b h1]
   rw [Bool.not_eq_true] at h1
   rw [h1]
   simp [btw_]
 ·rw [if_neg h0, path_none l a h0]
  simp [btw_]
theorem iroute_eq (l : List ND) (B S L : List Int) (a id : Int) (hl : l.length ≤ 9223372036854775807) (K : Nat) (hK : 3100 < K) : impl_RouteToId.f K l B S L a id = some (route_ l B S L a id) := by
 unfold impl_RouteToId.f route_
 have hd := downto_len l B S L id
 rw [idown_eq l B S L id hl K (by omega), obs]
 generalize downto_ l B S L id = d at hd
 by_cases h : d.length = 0
 ·rw [if_pos (by omega), if_pos h]
 ·rw [if_neg (by omega), if_neg h, wr ((d.length : Int) - 1) (by omega) (by omega), if_pos (by omega), if_pos (by omega), ibetween_eq l a _ hl K (by omega), obs]
theorem imkid_eq (b d f : Int) : impl_MakeId.f b d f = some (mkid_ b d f) := by
 unfold impl_MakeId.f mkid_
 rw [within_eq, obs]
 by_cases h0 : 0 ≤ b ∧ b ≤ 15
 ·rw [if_pos (by simpa using h0), within_eq, obs]
  by_cases h1 : 0 ≤ d ∧ d ≤ 3
  ·rw [if_pos (by simpa using h1), within_eq, obs]
   by_cases h2 : 0 ≤ f ∧ f ≤ 3
   ·rw [if_pos (by simpa using h2), if_pos ⟨h0, h1, h2⟩, wr (b * 16) (by omega) (by omega), wr (d * 4) (by omega) (by omega), wr (b * 16 + d * 4) (by omega) (by omega), wr _ (by omega) (by omega)]
   ·rw [if_neg (by simpa using h2), if_neg (fun h => h2 h.2.2)]
  ·rw [if_neg (by simpa using h1), if_neg (fun h => h1 h.2.1)]
 ·rw [if_neg (by simpa using h0), if_neg (fun h => h0 h.1)]
theorem inid_eq (l : List ND) (B S L : List Int) (k f : Int) (hl : l.length ≤ 9223372036854775807) (K : Nat) (hK : 2600 < K) : impl_NodeId.f K l B S L k f = some (if nums_ l B S L = true then nid_ l B k f else -1) := by
 unfold impl_NodeId.f nid_
 rw [areNums_eq l B S L hl K hK, obs]
 by_cases h : nums_ l B S L = true
 ·obtain ⟨ht, e⟩ := nums_tree h
  have t := tree_len ht
  have hB := e.len.1
  simp only at hB
  rw [if_pos h, if_pos h, wr ((l.length : Int) - 1) (by omega) (by omega), within_eq, obs]
  by_cases hk : 1 ≤ k ∧ k < (l.length : Int)
  ·rw [if_pos (by rw [decide_eq_true_eq]; omega), if_pos (by omega), if_pos hk.2, ifn_eq ht k f (by omega) hk.2, obs]
   by_cases hf : fn_ (F_ l k) f = true
   ·rw [if_pos hf, if_pos (by omega), imkid_eq, obs, if_pos ⟨hk, hf⟩]
   ·rw [if_neg hf, if_neg (fun q => hf q.2)]
  ·rw [if_neg (by rw [decide_eq_true_eq]; omega), if_neg (fun q => hk q.1)]
 ·rw [if_neg h, if_neg h]
def ix_ (a : Int) : Nat → List Int → Int
 | _, [] => -1
 | i, x :: xs => if a = x then i else ix_ a (i + 1) xs
theorem ix_spec (a : Int) : ∀ (xs : List Int) (i : Nat), (a ∈ xs → ∃ j : Nat, ix_ a i xs = ((i + j : Nat) : Int) ∧ xs[j]? = some a) ∧ (a ∉ xs → ix_ a i xs = -1) := by
 intro xs
 induction xs with
 | nil => intro i; exact ⟨fun h => by simp at h, fun _ => rfl⟩
 | cons x xs ih =>
  intro i
  unfold ix_
  by_cases hx : a = x
  ·rw [if_pos hx]
   exact ⟨fun _ => ⟨0, by simp, by simp [hx]⟩, fun h => absurd (by simp [hx]) h⟩
  ·rw [if_neg hx]
   refine ⟨fun h => ?_, fun h => (ih (i + 1)).2 (fun h2 => h (by simp [h2]))⟩
   obtain ⟨j, e1, e2⟩ := (ih (i + 1)).1 (by simpa [hx] using h)
   exact ⟨j + 1, by rw [e1]; congr 1; omega, by simpa using e2⟩
theorem index_eq (k : Nat) (l : List Int) (a : Int) (hl : l.length ≤ 1048576) (hk : l.length < k) : slices_Index_int_int.f k l a = some (ix_ a 0 l) := by
 have h : ∀ (d k i : Nat), i + d = l.length → d < k → slices_Index_int_int.l0 k l a (l.length : Int) (i : Int) = some (ix_ a i (l.drop i)) := by
  intro d
  induction d with
  | zero =>
   intro k i hi hk
   obtain ⟨k, rfl⟩ : ∃ m, k = m + 1 := ⟨k - 1, by omega⟩
   simp only [slices_Index_int_int.l0]
   rw [if_neg (by omega), List.drop_of_length_le (by omega)]; rfl
  | succ d ih =>
   intro k i hi hk
   obtain ⟨k, rfl⟩ : ∃ m, k = m + 1 := ⟨k - 1, by omega⟩
   simp only [slices_Index_int_int.l0]
   rw [if_pos (by omega), if_pos (by omega), if_pos (by omega), rd_nat _ _ (by omega), List.drop_eq_getElem_cons (by omega), wr ((i : Int) + 1) (by omega) (by omega)]
   unfold ix_
   by_cases hx : a = l[i]'(by omega)
   ·rw [if_pos hx, if_pos hx]
   ·rw [if_neg hx, if_neg hx]; exact ih k (i + 1) (by omega) (by omega)
 have := h l.length k 0 (by omega) hk
 unfold slices_Index_int_int.f
 simpa using this
theorem cont_eq (k : Nat) (l : List Int) (a : Int) (hl : l.length ≤ 1048576) (hk : l.length < k) : slices_Contains_int_int.f k l a = some (decide (a ∈ l)) := by
 unfold slices_Contains_int_int.f
 rw [index_eq k l a hl hk]
 simp only [Option.bind_some]
 congr 1
 rw [Bool.eq_iff_iff, decide_eq_true_eq, decide_eq_true_eq]
 by_cases h : a ∈ l
 ·obtain ⟨j, e, _⟩ := (ix_spec a l 0).1 h
  rw [e]; exact ⟨fun _ => h, fun _ => by omega⟩
 ·rw [(ix_spec a l 0).2 h]; exact ⟨fun h2 => by omega, fun h2 => absurd h2 h⟩
theorem ilocal_eq (l : List ND) (B S L : List Int) (a b : Int) (hl : l.length ≤ 9223372036854775807) (K : Nat) (hK : 3100 < K) : impl_IsLocal.f K l B S L a b = some (local_ l B S L a b) := by
 unfold impl_IsLocal.f local_
 rw [inid_eq l B S L b 0 hl K (by omega), obs, iroute_eq l B S L a _ hl K hK, obs]
 have hr := route_len l B S L a (if nums_ l B S L = true then nid_ l B b 0 else -1)
 generalize route_ l B S L a (if nums_ l B S L = true then nid_ l B b 0 else -1) = r at hr
 by_cases h : 0 < r.length
 ·rw [if_pos (by omega), decide_eq_true h]
  by_cases h2 : a = 0
  ·rw [if_pos h2]; simp [h2]
  ·rw [if_neg h2, cont_eq K r 0 (by omega) (by omega), obs]; simp [h2]
 ·rw [if_neg (by omega), decide_eq_false h]; rfl
theorem l01In_eq (a b c : Int) : spec_l01In.f a b c = some (decide (b ≤ a ∧ a ≤ c)) := by
 unfold spec_l01In.f; by_cases h : a ≥ b <;> simp [h]
theorem sib_root {l : List ND} (hl : 0 < l.length) (hr : (rd_T50 l 0).f0 = -1) (p d : Int) (hp : 0 ≤ p) (k : Nat) (hk : 1 ≤ k) : (l.take k).any (sib_ p d) = ((l.take k).drop 1).any (sib_ p d) := by
 cases l with
 | nil => simp at hl
 | cons x xs =>
  obtain ⟨k, rfl⟩ : ∃ m, k = m + 1 := ⟨k - 1, by omega⟩
  have hx : x.f0 = -1 := hr
  have : sib_ p d x = false := by unfold sib_; rw [hx]; rw [decide_eq_false (show ¬ (-1 : Int) = p by omega)]; rfl
  simp [this]
theorem sl1_eq (l : List ND) (k : Nat) (hk : k < l.length) (hl : l.length ≤ 12) (p d f : Int) (R : Bool) (B : Nat) (hR : ∀ K, B < K → spec_TreeOk.l0 K l ((k + 1 : Nat) : Int) = some R) :
  ∀ e K i, i + e = k → B + e + 1 < K → spec_TreeOk.l1 K l (k : Int) (i : Int) p d f = some (if ((l.take k).drop i).any (sib_ p d) then false else R) := by
 intro e
 induction e with
 | zero =>
  intro K i hi hK
  obtain ⟨K, rfl⟩ : ∃ m, K = m + 1 := ⟨K - 1, by omega⟩
  obtain rfl : i = k := by omega
  simp only [spec_TreeOk.l1]
  rw [if_neg (by omega), wr ((i : Int) + 1) (by omega) (by omega), List.drop_of_length_le (by simp; omega)]
  simpa using hR K (by omega)
 | succ e ih =>
  intro K i hi hK
  obtain ⟨K, rfl⟩ : ∃ m, K = m + 1 := ⟨K - 1, by omega⟩
  have hlt : i < (l.take k).length := by simp; omega
  have hg : (l.take k)[i] = l[i]'(by omega) := by simp
  have e1 : ((i : Int) + 1) = ((i + 1 : Nat) : Int) := by omega
  simp only [spec_TreeOk.l1]
  rw [if_pos (by omega), if_pos (by omega), if_pos (by omega), rd_inode _ _ (by omega), wr ((i : Int) + 1) (by omega) (by omega), List.drop_eq_getElem_cons hlt, hg, e1, ih K (i + 1) (by omega) (by omega)]
  rw [List.any_cons]
  by_cases h0 : (l[i]'(by omega)).f0 = p
  ·by_cases h1 : (l[i]'(by omega)).f1 = d
   ·rw [if_pos h0, if_pos h1]; simp [sib_, h0, h1]
   ·rw [if_pos h0, if_neg h1]; simp [sib_, h0, h1]
  ·rw [if_neg h0]; simp [sib_, h0]
theorem sl0_eq (l : List ND) (h1 : 1 ≤ l.length) (hl : l.length ≤ 12) (hr : (rd_T50 l 0).f0 = -1) :
  ∀ d K k, 1 ≤ k → k + d = l.length → 16 * d < K → spec_TreeOk.l0 K l (k : Int) = some (rows_ l d k) := by
 intro d
 induction d with
 | zero =>
  intro K k hk hd hK
  obtain ⟨K, rfl⟩ : ∃ m, K = m + 1 := ⟨K - 1, by omega⟩
  simp only [spec_TreeOk.l0]
  rw [if_neg (by omega)]; rfl
 | succ d ih =>
  intro K k hk hd hK
  obtain ⟨K, rfl⟩ : ∃ m, K = m + 2 := ⟨K - 2, by omega⟩
  have hx : ∀ b p d' f, spec_TreeOk.j2 (K + 1) l (k : Int) b p d' f = if b = true then some false else spec_TreeOk.l1 K l (k : Int) 1 p d' f := fun b p d' f => by simp only [spec_TreeOk.j2]
  have hin : ∀ p d' f, 0 ≤ p → spec_TreeOk.l1 K l (k : Int) 1 p d' f = some (if (l.take k).any (sib_ p d') then false else rows_ l d (k + 1)) := fun p d' f hp => by
   have h := sl1_eq l k (by omega) hl p d' f (rows_ l d (k + 1)) (16 * d) (fun K' hK' => ih K' (k + 1) (by omega) (by omega) hK') (k - 1) K 1 (by omega) (by omega)
   rw [sib_root (by omega) hr p d' hp k hk]
   exact h
  simp only [spec_TreeOk.l0]
  rw [if_pos (by omega), if_pos (by omega), wr ((k : Int) - 1) (by omega) (by omega)]
  unfold rows_ row_
  generalize rd_T50 l (k : Int) = n
  simp only [l01In_eq, Option.bind_some, hx]
  by_cases c0 : 0 ≤ n.f0 ∧ n.f0 < (k : Int)
  ·rw [if_pos (by simp; omega), if_pos c0.1, if_pos (by omega), decide_eq_true c0, Bool.true_and]
   by_cases c1 : (rd_T50 l n.f0).f2 = 0
   ·rw [if_pos c1, decide_eq_true c1, Bool.true_and]
    by_cases c2 : 0 ≤ n.f1 ∧ n.f1 ≤ 3
    ·rw [decide_eq_true c2, if_pos rfl, Bool.true_and]
     by_cases c3 : 0 ≤ n.f2 ∧ n.f2 ≤ 4
     ·rw [decide_eq_true c3, if_neg (by simp), Bool.true_and, hin _ _ _ c0.1]
      cases (l.take k).any (sib_ n.f0 n.f1) <;> simp
     ·rw [decide_eq_false c3]; simp
    ·rw [decide_eq_false c2]; simp
   ·rw [if_neg c1, decide_eq_false c1]; simp
  ·rw [if_neg (by simp; omega), decide_eq_false c0]; simp
theorem stree_eq (l : List ND) (hl : l.length ≤ 9223372036854775807) (K : Nat) (hK : 200 < K) : spec_TreeOk.f K l = some (tree_ l) := by
 obtain ⟨K, rfl⟩ : ∃ m, K = m + 1 := ⟨K - 1, by omega⟩
 unfold spec_TreeOk.f tree_
 simp only [l01In_eq, Option.bind_some, spec_TreeOk.j0]
 by_cases c : 1 ≤ (l.length : Int) ∧ (l.length : Int) ≤ 12
 ·rw [decide_eq_true c, if_pos rfl, if_pos (by omega), Bool.true_and]
  by_cases hr : root_ l = true
  ·have hr0 : (rd_T50 l 0).f0 = -1 := by
    simp only [root_, Bool.and_eq_true, beq_iff_eq] at hr; exact hr.1
   have h := sl0_eq l (by omega) (by omega) hr0 (l.length - 1) K 1 (by omega) (by omega) (by omega)
   have hr2 := hr
   simp only [root_, Bool.and_eq_true, beq_iff_eq] at hr2
   rw [hr, Bool.true_and, if_neg (by simp [hr2])]
   exact h
  ·rw [Bool.not_eq_true] at hr
   rw [hr, if_pos, Bool.false_and]
   unfold root_ at hr
   revert hr
   cases (rd_T50 l 0).f0 == -1 <;> cases (rd_T50 l 0).f1 == 0 <;> cases (rd_T50 l 0).f2 == 0 <;> simp
 ·rw [decide_eq_false c, if_neg (by simp), Bool.false_and]; simp
theorem l19Ok_eq (l : List ND) (x : Int) (hl : l.length ≤ 9223372036854775807) (K : Nat) (hK : 200 < K) : spec_l19Ok.f K l x = some (isn_ l x) := by
 unfold spec_l19Ok.f isn_
 rw [stree_eq l hl K hK, obs]
 cases h : tree_ l
 ·simp
 ·have := tree_len h
  rw [if_pos rfl, l01In_eq, obs, wr ((l.length : Int) - 1) (by omega) (by omega), Bool.true_and]
  congr 1
  rw [Bool.eq_iff_iff, decide_eq_true_eq, decide_eq_true_eq]; omega
theorem skid1_eq (l : List ND) (x c : Int) (c0 : 0 ≤ c) (c1 : c ≤ 3) (hl : l.length ≤ 12) : ∀ (d K i : Nat) (out : List Int), i + d = l.length → out.length + d ≤ 1000 → spec_ChildrenOf.l1 (K + d + 1) l x out c (i : Int) = spec_ChildrenOf.l0 K l x (out ++ ixs_ l (kid_ x c) d i) (c + 1) := by
 intro d
 induction d with
 | zero =>
  intro K i out h ho
  simp only [spec_ChildrenOf.l1]
  rw [if_neg (by omega), wr (c + 1) (by omega) (by omega)]; simp [ixs_]
 | succ d ih =>
  intro K i out h ho
  rw [show K + (d + 1) + 1 = (K + d + 1) + 1 by omega]
  have ih' := fun o => ih K (i + 1) o (by omega)
  generalize K + d + 1 = q at ih' ⊢
  simp only [spec_ChildrenOf.l1]
  rw [if_pos (by omega), if_pos (by omega), ixs_succ, wr ((i : Int) + 1) (by omega) (by omega), show (i : Int) + 1 = ((i + 1 : Nat) : Int) by omega]
  by_cases a : (rd_T50 l (i : Int)).f0 = x
  ·by_cases b : (rd_T50 l (i : Int)).f1 = c
   ·rw [if_pos a, if_pos b, if_pos (by omega), ih' _ (by simp; omega), if_pos (by simp [kid_, a, b])]
    simp
   ·rw [if_pos a, if_neg b, ih' _ (by omega), if_neg (by simp [kid_, b])]
  ·rw [if_neg a, ih' _ (by omega), if_neg (by simp [kid_, a])]
theorem skid0_eq (l : List ND) (x c : Int) (c0 : 0 ≤ c) (c1 : c ≤ 3) (h1 : 1 ≤ l.length) (hl : l.length ≤ 12) (K K' : Nat) (hK : K' = K + l.length + 1) (out : List Int) (ho : out.length ≤ 900) : spec_ChildrenOf.l0 K' l x out c = spec_ChildrenOf.l0 K l x (out ++ kidsAt_ l x c) (c + 1) := by
 obtain ⟨m, rfl⟩ : ∃ m, K' = m + 1 := ⟨K' - 1, by omega⟩
 simp only [spec_ChildrenOf.l0]
 rw [if_pos c1]
 have := skid1_eq l x c c0 c1 hl (l.length - 1) K 1 out (by omega) (by omega)
 rw [show K + (l.length - 1) + 1 = m by omega] at this
 exact this
theorem skids_eq (l : List ND) (x : Int) (hl : l.length ≤ 9223372036854775807) (K : Nat) (hK : 500 < K) : spec_ChildrenOf.f K l x = some (kids_ l x) := by
 unfold spec_ChildrenOf.f kids_
 rw [obs, l19Ok_eq l x hl K (by omega), obs]
 by_cases h : isn_ l x = true
 ·obtain ⟨t, g0, g1⟩ := isn_tree h
  obtain ⟨t0, t1⟩ := tree_len t
  have z0 := kidsAt_len l x 0 t1; have z1 := kidsAt_len l x 1 t1; have z2 := kidsAt_len l x 2 t1; have z3 := kidsAt_len l x 3 t1
  rw [if_pos h, if_pos h, skid0_eq l x 0 (by omega) (by omega) t0 t1 (K - (l.length + 1)) K (by omega) _ (by simp),
   show (0 : Int) + 1 = 1 by rfl, skid0_eq l x 1 (by omega) (by omega) t0 t1 (K - 2 * (l.length + 1)) _ (by omega) _ (by simp; omega),
   show (1 : Int) + 1 = 2 by rfl, skid0_eq l x 2 (by omega) (by omega) t0 t1 (K - 3 * (l.length + 1)) _ (by omega) _ (by simp; omega),
   show (2 : Int) + 1 = 3 by rfl, skid0_eq l x 3 (by omega) (by omega) t0 t1 (K - 4 * (l.length + 1)) _ (by omega) _ (by simp; omega)]
  obtain ⟨m, e⟩ : ∃ m, K - 4 * (l.length + 1) = m + 1 := ⟨K - 4 * (l.length + 1) - 1, by omega⟩
  rw [e]
  simp only [spec_ChildrenOf.l0]
  rw [if_neg (by omega)]
  simp
 ·rw [if_neg h, if_neg h]
theorem sv_loop (l : List ND) (hlen : l.length ≤ 12) (k b : Int) (k0 : 0 ≤ k) (k1 : k < (l.length : Int)) (N : Nat) (hN : N = l.length) (ks : List Int) (hn : ks.length ≤ 48) (V : Int → Int → List Int → List Int → List Int → VT) (R : Nat)
  (hk : ∀ c ∈ ks, k < c ∧ c < (l.length : Int)) (hok : ∀ c ∈ ks, ∀ b' B S L, vlen_ N (b', B, S, L) → vok_ N c b' S (V c b' B S L))
  (hV : ∀ c ∈ ks, ∀ K b' B S L, R ≤ K → vlen_ N (b', B, S, L) → 0 ≤ b' → b' + bd_ c ≤ 16777217 → spec_l20Visit.f K l B (S.set c.toNat b') L c b' = some ((V c b' B S L).1, (V c b' B S L).2.1, (V c b' B S L).2.2.1, (V c b' B S L).2.2.2)) :
  ∀ (d K i : Nat) (a : VT), i + d = ks.length → R + d < K → vlen_ N a → 0 ≤ a.1 → a.1 + ((ks.drop i).map bd_).sum ≤ 16777216 → rd a.2.2.1 k = b →
   spec_l20Visit.l0 K l k a.1 ks (i : Int) a.2.1 a.2.2.1 a.2.2.2 = some (vend_ k ((ks.drop i).foldl (vstep_ l b V) a)) := by
 intro d
 induction d with
 | zero =>
  intro K i a hi hK ha h0 hb hr
  obtain ⟨K, rfl⟩ : ∃ m, K = m + 1 := ⟨K - 1, by omega⟩
  simp only [spec_l20Visit.l0]
  rw [if_neg (by omega), if_pos k0, if_pos (by rw [ha.2.2]; omega), List.drop_of_length_le (by omega)]
  rfl
 | succ d ih =>
  intro K i a hi hK ha h0 hb hr
  obtain ⟨K, rfl⟩ : ∃ m, K = m + 1 := ⟨K - 1, by omega⟩
  have hi' : i < ks.length := by omega
  have hc := hk ks[i] (List.getElem_mem hi')
  have hds := drop_sum bd_ ks i hi'
  have hnn := drop_sum_nn bd_ ks (fun y _ => by have := bd_pos y; omega) (i + 1)
  have hp := bd_pos ks[i]
  have hset : vlen_ N (a.1 + 1, a.2.1.set (ks[i]).toNat b, a.2.2.1, a.2.2.2) := ⟨by simp only [List.length_set]; exact ha.1, ha.2.1, ha.2.2⟩
  rw [List.drop_eq_getElem_cons hi', List.foldl_cons]
  simp only [spec_l20Visit.l0]
  rw [if_pos (by omega), if_pos (by omega), if_pos k0, if_pos (by rw [ha.2.1]; omega), rd_nat ks i hi', if_pos (by omega), if_pos (by rw [ha.1]; omega), hr, obs, if_pos hc.2, wr ((i : Int) + 1) (by omega) (by omega), show (i : Int) + 1 = ((i + 1 : Nat) : Int) by omega]
  by_cases g : (rd_T50 l ks[i]).f2 = 0
  ·have e : vstep_ l b V a ks[i] = V ks[i] (a.1 + 1) (a.2.1.set (ks[i]).toNat b) a.2.2.1 a.2.2.2 := by unfold vstep_; rw [if_pos g]
   obtain ⟨q1, q2, q3, q4⟩ := hok ks[i] (List.getElem_mem hi') (a.1 + 1) (a.2.1.set (ks[i]).toNat b) a.2.2.1 a.2.2.2 hset
   rw [if_pos g, if_pos (by rw [ha.2.1]; omega), wr (a.1 + 1) (by omega) (by omega), hV ks[i] (List.getElem_mem hi') K (a.1 + 1) _ _ _ (by omega) hset (by omega) (by omega), obs, e]
   exact ih K (i + 1) _ (by omega) (by omega) q1 (by omega) (by omega) ((q4 k k0 hc.1).trans hr)
  ·have e : vstep_ l b V a ks[i] = (a.1, a.2.1.set (ks[i]).toNat b, a.2.2.1, a.2.2.2) := by unfold vstep_; rw [if_neg g]
   rw [if_neg g, e]
   exact ih K (i + 1) (a.1, a.2.1.set (ks[i]).toNat b, a.2.2.1, a.2.2.2) (by omega) (by omega) ⟨hset.1, hset.2.1, hset.2.2⟩ h0 (by simp only; omega) hr
theorem svis_eq (l : List ND) (h : tree_ l = true) : ∀ (n : Nat) (K : Nat) (k b : Int) (B S L : List Int), 0 ≤ k → k < (l.length : Int) → (l.length : Int) - k ≤ (n : Int) → 700 + 100 * n < K → vlen_ l.length (b, B, S, L) → 0 ≤ b → b + bd_ k ≤ 16777216 + 4096 →
  spec_l20Visit.f K l B (S.set k.toNat b) L k b = some ((vis_ l n k b B S L).1, (vis_ l n k b B S L).2.1, (vis_ l n k b B S L).2.2.1, (vis_ l n k b B S L).2.2.2) := by
 intro n
 induction n with
 | zero => intro K k b B S L h0 h1 h2; omega
 | succ n ih =>
  intro K k b B S L h0 h1 h2 hK hl hb0 hb1
  obtain ⟨K, rfl⟩ : ∃ m, K = m + 1 := ⟨K - 1, by omega⟩
  have t := tree_len h
  have hs := kids_bd2 l h k h0 h1
  have hkl := kids_len l k
  simp only [spec_l20Visit.f]
  rw [skids_eq l k (by omega) K (by omega), obs, vis_succ]
  have e := sv_loop l t.2 k b h0 h1 l.length rfl (kids_ l k) hkl (vis_ l n) (701 + 100 * n) (fun c hc => kids_mem l h k c h0 h1 hc) (fun c hc b' B S L hl => by
    have := kids_mem l h k c h0 h1 hc
    exact vis_ok l h l.length n c b' B S L (by omega) this.2 hl) (fun c hc K' b' B S L hK' hl g0 g1 => by
    have := kids_mem l h k c h0 h1 hc
    exact ih K' c b' B S L (by omega) this.2 (by omega) (by omega) hl g0 (by omega)) (kids_ l k).length K 0 (b, B, S.set k.toNat b, L) (by omega) (by omega) ⟨hl.1, by simp only [List.length_set]; exact hl.2.1, hl.2.2⟩ hb0 (by simp only [List.drop_zero]; omega) (by simp only; rw [rd_set, if_pos ⟨rfl, by rw [hl.2.1]; omega⟩])
  rw [List.drop_zero] at e
  exact e
theorem se_loop (l : List ND) (h : tree_ l = true) : ∀ (d K i : Nat), i + d = l.length → d + 2500 < K → spec_Enumerate.l0 K l (i : Int) (List.replicate i 0) (List.replicate i (-1)) (List.replicate i (-1)) = some (enum_ l) := by
 have t := tree_len h
 intro d
 induction d with
 | zero =>
  intro K i hi hK
  obtain ⟨K, rfl⟩ : ∃ m, K = m + 1 := ⟨K - 1, by omega⟩
  obtain rfl : i = l.length := by omega
  have hn := none_len l
  have hb := bd0
  have hB : ((List.replicate l.length (0 : Int)).set (0 : Int).toNat (-1)).length = (none_ l).length := by simp [none_]
  have e := svis_eq l h 12 K 0 0 ((List.replicate l.length (0 : Int)).set (0 : Int).toNat (-1)) (none_ l) (none_ l) (by omega) (by omega) (by omega) (by omega) ⟨by rw [hB, hn], hn, hn⟩ (by omega) (by omega)
  obtain ⟨h1, h2, h3, h4⟩ := vis_two l 12 0 0 ((List.replicate l.length (0 : Int)).set (0 : Int).toNat (-1)) (none_ l) (none_ l) (none_ l) hB
  have ho := vis_ok l h l.length 12 0 0 (none_ l) (none_ l) (none_ l) (by omega) (by omega) ⟨hn, hn, hn⟩
  have hBe : (vis_ l 12 0 0 ((List.replicate l.length (0 : Int)).set (0 : Int).toNat (-1)) (none_ l) (none_ l)).2.1 = (vis_ l 12 0 0 (none_ l) (none_ l) (none_ l)).2.1 := by
   refine List.ext_getElem h3 (fun j j0 j1 => ?_)
   have hj : j < l.length := by rw [← ho.1.1]; exact j1
   have := h4 (j : Int) (by omega) (by
    by_cases hz : j = 0
    ·subst hz
     left
     rw [rd_set, if_pos ⟨rfl, by simp; omega⟩]
     unfold none_ rd
     simp [List.getD_eq_getElem?_getD, List.getElem?_replicate, show 0 < l.length by omega]
    ·exact .inr (cov_le l j 12 (by omega) 0 _ (cov_all l h j (by omega) hj))) (cov_pos l h 12 0 (by omega) (by omega))
   rw [rd_nat _ _ j0, rd_nat _ _ j1] at this
   exact this
  have hS : (List.replicate l.length (-1 : Int)) = none_ l := rfl
  simp only [spec_Enumerate.l0]
  rw [if_neg (by omega), if_pos (by simp; omega), if_pos (by simp; omega), hS, e, obs]
  unfold enum_
  rw [if_pos h, h1, h2, hBe]
  split <;> rfl
 | succ d ih =>
  intro K i hi hK
  obtain ⟨K, rfl⟩ : ∃ m, K = m + 1 := ⟨K - 1, by omega⟩
  simp only [spec_Enumerate.l0]
  rw [if_pos (by omega), if_pos (by simp; omega), if_pos (by simp; omega), if_pos (by simp; omega), wr ((i : Int) + 1) (by omega) (by omega), show (i : Int) + 1 = ((i + 1 : Nat) : Int) by omega, ← List.replicate_succ', ← List.replicate_succ']
  exact ih K (i + 1) (by omega) (by omega)
theorem senum_eq (l : List ND) (hl : l.length ≤ 9223372036854775807) (K : Nat) (hK : 2600 < K) : spec_Enumerate.f K l = some (enum_ l) := by
 unfold spec_Enumerate.f
 rw [stree_eq l hl K (by omega), obs]
 by_cases h : tree_ l = true
 ·have t := tree_len h
  rw [if_pos h]
  exact se_loop l h l.length K 0 (by omega) (by omega)
 ·unfold enum_
  rw [if_neg h, if_neg h]
theorem l04Ints_eq (K : Nat) (a b : List Int) (ha : a.length ≤ 1000) (hK : 1000 < K) : spec_l04Ints.f K a b = some (decide (a = b)) := by
 unfold spec_l04Ints.f
 by_cases e : b.length = a.length
 ·rw [if_pos (by omega)]
  have h := eq_loop spec_l04Ints.l0 a b (by omega) e (fun k i h hx => by
    simp only [spec_l04Ints.l0]
    rw [if_pos (by omega), if_pos (by omega), if_pos (by omega), rd_nat _ _ h, rd_nat _ _ (by omega), if_neg hx]) (fun k i h hx => by
    simp only [spec_l04Ints.l0]
    rw [if_pos (by omega), if_pos (by omega), if_pos (by omega), rd_nat _ _ h, rd_nat _ _ (by omega), if_pos hx, wr _ (by omega) (by omega)]
    rfl) (fun k => by
    simp only [spec_l04Ints.l0]
    rw [if_neg (by omega)]) a.length K 0 (by omega) (by omega)
  simpa using h
 ·rw [if_neg (by omega)]
  congr 1
  symm
  rw [decide_eq_false_iff_not]
  rintro rfl
  exact e rfl
theorem l20Is_eq (l : List ND) (B S L : List Int) (hl : l.length ≤ 9223372036854775807) (K : Nat) (hK : 2600 < K) : spec_l20Is.f K l B S L = some (nums_ l B S L) := by
 unfold spec_l20Is.f nums_ spec_l20Same.f
 rw [senum_eq l hl K (by omega), obs]
 obtain ⟨e1, e2, e3⟩ := enum_len l
 cases (enum_ l).2.2.2
 ·simp
 ·rw [if_pos rfl, l04Ints_eq K _ B e1 (by omega), obs, Bool.true_and]
  by_cases q1 : (enum_ l).1 = B
  ·rw [if_pos (by simpa using q1), l04Ints_eq K _ S e2 (by omega), obs]
   by_cases q2 : (enum_ l).2.1 = S
   ·rw [if_pos (by simpa using q2), l04Ints_eq K _ L e3 (by omega), obs]
    simp [q1, q2]
   ·rw [if_neg (by simpa using q2)]; simp [q2]
  ·rw [if_neg (by simpa using q1)]; simp [q1]
theorem sund_eq (n : Nat) (B S L : List Int) (hS : S.length = n) (hL : L.length = n) (hn : n ≤ 1000) (c b : Int) (c0 : 0 ≤ c) (c1 : c < (n : Int)) : spec_IsUnder.f B S L c b = some (decide (0 ≤ rd S c ∧ rd S c ≤ b ∧ b ≤ rd L c)) := by
 unfold spec_IsUnder.f
 have hm : wrap64 (mn (S.length : Int) (L.length : Int) - 1) = (n : Int) - 1 := by
  rw [wr _ (by unfold mn; split <;> omega) (by unfold mn; split <;> omega)]
  unfold mn; split <;> omega
 rw [hm, l01In_eq, obs, if_pos (by rw [decide_eq_true_eq]; omega), if_pos c0, if_pos (by omega)]
 by_cases h : rd S c ≥ 0
 ·rw [if_pos h, if_pos (by omega), l01In_eq, obs]
  congr 1; rw [decide_eq_decide]; omega
 ·rw [if_neg h]; congr 1; symm; rw [decide_eq_false_iff_not]; omega
theorem sisid_eq (id : Int) : spec_IsId.f id = some (decide (0 ≤ id ∧ id ≤ 255)) := by
 unfold spec_IsId.f
 rw [l01In_eq, obs]
theorem sbus_eq (id : Int) (h : 0 ≤ id ∧ id ≤ 255) : spec_BusOf.f id = some (bus_ id) := by
 unfold spec_BusOf.f
 rw [sisid_eq, obs, if_pos (by simpa using h), tdiv_w id 16 h.1 h.2 (by omega)]; rfl
theorem sdev_eq (id : Int) (h : 0 ≤ id ∧ id ≤ 255) : spec_DeviceOf.f id = some (dev_ id) := by
 unfold spec_DeviceOf.f
 rw [sisid_eq, obs, if_pos (by simpa using h), tdiv_w id 4 h.1 h.2 (by omega), Int.tmod_eq_emod_of_nonneg (by omega)]; rfl
theorem sfun_eq (id : Int) (h : 0 ≤ id ∧ id ≤ 255) : spec_FunctionOf.f id = some (fun_ id) := by
 unfold spec_FunctionOf.f
 rw [sisid_eq, obs, if_pos (by simpa using h), Int.tmod_eq_emod_of_nonneg h.1]; rfl
theorem snext_loop {l : List ND} {B S L : List Int} (h : nums_ l B S L = true) (id k : Int) (hid : 0 ≤ id ∧ id ≤ 255) (k0 : 0 ≤ k) (k1 : k < (l.length : Int)) (ks : List Int) (hk : ks.length ≤ 48) (hm : ∀ c ∈ ks, 0 < c ∧ c < (l.length : Int)) : ∀ (d K i : Nat), i + d = ks.length → d < K →
  spec_l21Next.l0 K l k id ks (i : Int) B S L = some (((ks.drop i).find? (hit_ l S L id k)).getD (-1)) := by
 obtain ⟨ht, e⟩ := nums_tree h
 have t := tree_len ht
 have hlen := e.len
 simp only at hlen
 intro d
 induction d with
 | zero =>
  intro K i hi hK
  obtain ⟨K, rfl⟩ : ∃ m, K = m + 1 := ⟨K - 1, by omega⟩
  rw [spec_l21Next.l0, if_neg (by omega), List.drop_of_length_le (by omega)]; rfl
 | succ d ih =>
  intro K i hi hK
  obtain ⟨K, rfl⟩ : ∃ m, K = m + 1 := ⟨K - 1, by omega⟩
  have hi' : i < ks.length := by omega
  have hc := hm ks[i] (List.getElem_mem hi')
  have hn := ih K (i + 1) (by omega) (by omega)
  rw [spec_l21Next.l0, if_pos (by omega), if_pos k0, if_pos (by omega), sbus_eq id hid, obs, rd_nat ks i hi', wr ((i : Int) + 1) (by omega) (by omega), show (i : Int) + 1 = ((i + 1 : Nat) : Int) by omega, hn, List.drop_eq_getElem_cons hi', List.find?_cons]
  by_cases ob : rd S k = bus_ id
  ·rw [if_pos ob, if_pos (by omega), if_pos (by omega), if_pos hc.2, sdev_eq id hid, obs]
   have hh : hit_ l S L id k ks[i] = decide ((rd_T50 l ks[i]).f1 = dev_ id) := by unfold hit_; rw [if_pos ob]
   rw [hh]
   by_cases q : (rd_T50 l ks[i]).f1 = dev_ id
   ·rw [if_pos q, decide_eq_true q]; rfl
   ·rw [if_neg q, decide_eq_false q]
  ·rw [if_neg ob, if_pos (by omega), obs, sund_eq l.length B S L hlen.2.1 hlen.2.2 (by omega) ks[i] (bus_ id) (by omega) hc.2, obs]
   have hh : hit_ l S L id k ks[i] = decide (0 ≤ rd S ks[i] ∧ rd S ks[i] ≤ bus_ id ∧ bus_ id ≤ rd L ks[i]) := by unfold hit_; rw [if_neg ob]
   rw [hh]
   by_cases q : 0 ≤ rd S ks[i] ∧ rd S ks[i] ≤ bus_ id ∧ bus_ id ≤ rd L ks[i]
   ·rw [if_pos (by simpa using q), decide_eq_true q]; rfl
   ·rw [if_neg (by simpa using q), decide_eq_false q]
theorem sdown_loop {l : List ND} {B S L : List Int} (h : nums_ l B S L = true) (id : Int) (hid : 0 ≤ id ∧ id ≤ 255) : ∀ (n : Nat) (K : Nat) (out : List Int) (k : Int), 0 ≤ k → k < (l.length : Int) → (l.length : Int) - k ≤ (n : Int) → out.length + n ≤ 30 → 700 + n < K →
  spec_DownToId.l0 K l id out k B S L = some (down_ l S L id n out k) := by
 obtain ⟨ht, e⟩ := nums_tree h
 have t := tree_len ht
 have hlen := e.len
 simp only at hlen
 intro n
 induction n with
 | zero => intro K out k k0 k1 hn; omega
 | succ n ih =>
  intro K out k k0 k1 hn ho hK
  obtain ⟨K, rfl⟩ : ∃ m, K = m + 1 := ⟨K - 1, by omega⟩
  have hm : ∀ c ∈ kids_ l k, 0 < c ∧ c < (l.length : Int) := fun c hc => by have := kids_mem l ht k c k0 k1 hc; omega
  have hnx : spec_l21Next.f K l B S L k id = some ((next_ l S L id k).getD (-1)) := by
   unfold spec_l21Next.f
   have := snext_loop h id k hid k0 k1 (kids_ l k) (kids_len l k) hm (kids_ l k).length K 0 (by omega) (by have := kids_len l k; omega)
   rw [skids_eq l k (by omega) K (by omega), obs]
   exact this
  rw [spec_DownToId.l0, if_pos (by omega), obs, if_pos k0, if_pos (by omega), sbus_eq id hid, obs, hnx, obs, down_succ]
  cases q : next_ l S L id k with
  | none => simp only [Option.getD_none]; rw [if_pos (by omega)]
  | some c =>
   have hc := hm c (next_mem q).1
   have hkk := kids_mem l ht k c k0 k1 (next_mem q).1
   have hF := F_bd ht c (by omega) hc.2
   simp only [Option.getD_some]
   rw [if_neg (by omega)]
   by_cases ob : rd S k = bus_ id
   ·rw [if_pos ob, if_pos ob, sfun_eq id hid, obs, if_pos (by omega), if_pos hc.2]
    have hF2 : (rd_T50 l c).f2 = F_ l c := rfl
    have hmx : mx 1 (F_ l c) - 1 = mx (F_ l c - 1) 0 := by unfold mx; split <;> split <;> omega
    have hf0 : 0 ≤ fun_ id := by unfold fun_; omega
    rw [hF2]
    by_cases hf : fn_ (F_ l c) (fun_ id) = true
    ·rw [if_pos hf, if_neg (by unfold fn_ at hf; rw [decide_eq_true_eq] at hf; omega), if_pos (by simp; omega)]
    ·rw [if_neg hf, if_pos (by unfold fn_ at hf; rw [decide_eq_true_eq] at hf; omega)]
   ·rw [if_neg ob, if_neg ob]
    exact ih K (out ++ [k]) c (by omega) hc.2 (by omega) (by simp; omega) (by omega)
theorem sdown_eq (l : List ND) (B S L : List Int) (id : Int) (hl : l.length ≤ 9223372036854775807) (K : Nat) (hK : 2700 < K) : spec_DownToId.f K l B S L id = some (downto_ l B S L id) := by
 obtain ⟨K, rfl⟩ : ∃ m, K = m + 1 := ⟨K - 1, by omega⟩
 unfold spec_DownToId.f downto_
 rw [obs, l20Is_eq l B S L hl (K + 1) (by omega), obs]
 by_cases h : nums_ l B S L = true
 ·have t := tree_len (nums_tree h).1
  rw [if_pos h, sisid_eq, obs]
  simp only [spec_DownToId.j0]
  by_cases hid : 0 ≤ id ∧ id ≤ 255
  ·rw [if_neg (by simpa using hid), if_pos ⟨h, hid⟩]
   exact sdown_loop h id hid 12 K [] 0 (by omega) (by omega) (by omega) (by simp) (by omega)
  ·rw [if_pos (by simp only [decide_eq_false hid]; rfl), if_neg (fun q => hid q.2)]
 ·rw [if_neg h, if_neg (fun q => h q.1)]
  simp only [spec_DownToId.j0]
  rw [if_pos trivial]
theorem spl_eq (l : List ND) (h : tree_ l = true) : ∀ (d K : Nat) (x : Int) (out : List Int), -1 ≤ x → x < (d : Int) → x < (l.length : Int) → d < K → out.length + d ≤ 1000 → spec_PathTo.l0 K l x out = some ((up_ l d x).reverse ++ out) := by
 intro d
 induction d with
 | zero =>
  intro K x out h0 h1 h2 hK ho
  obtain ⟨K, rfl⟩ : ∃ m, K = m + 1 := ⟨K - 1, by omega⟩
  simp only [spec_PathTo.l0]
  rw [if_neg (by omega)]; simp [up_]
 | succ d ih =>
  intro K x out h0 h1 h2 hK ho
  obtain ⟨K, rfl⟩ : ∃ m, K = m + 1 := ⟨K - 1, by omega⟩
  simp only [spec_PathTo.l0]
  unfold up_
  by_cases hx : 0 ≤ x
  ·have hp := parent_lt h x hx h2
   rw [if_pos hx, if_pos hx, obs, if_pos (by simp; omega), if_pos h2, ih K _ _ hp.1 (by omega) (by omega) (by omega) (by simp; omega)]
   simp [hx]
  ·rw [if_neg hx, if_neg hx]; simp
theorem spath_eq (l : List ND) (x : Int) (hl : l.length ≤ 9223372036854775807) (K : Nat) (hK : 200 < K) : spec_PathTo.f K l x = some (path_ l x) := by
 unfold spec_PathTo.f path_
 rw [obs, l19Ok_eq l x hl K hK, obs]
 by_cases h : isn_ l x = true
 ·obtain ⟨h1, h2, h3⟩ := isn_tree h
  have := tree_len h1
  rw [if_pos h, if_pos h, spl_eq l h1 13 K x [] (by omega) (by omega) h3 (by omega) (by simp)]
  simp
 ·rw [if_neg h, if_neg h]
theorem sbt1_eq (x y : List Int) (n : Nat) (hx : x.length ≤ 100) (hy : y.length ≤ 100) (hn : n ≤ y.length) (h1 : 1 ≤ n) :
  ∀ (d K : Nat) (out : List Int), d ≤ x.length → n - 1 ≤ d → d - (n - 1) < K → out.length + d ≤ 1000 →
   spec_PathBetween.l1 K x y out (n : Int) ((d : Int) - 1) = some (out ++ ((x.take d).drop (n - 1)).reverse ++ y.drop n) := by
 intro d
 induction d with
 | zero =>
  intro K out hd h2 hK ho
  obtain ⟨K, rfl⟩ : ∃ m, K = m + 1 := ⟨K - 1, by omega⟩
  simp only [spec_PathBetween.l1]
  rw [wr ((n : Int) - 1) (by omega) (by omega), if_neg (by omega), if_pos (by omega), if_pos (by omega), obs, if_pos (by simp; omega)]
  simp
 | succ d ih =>
  intro K out hd h2 hK ho
  by_cases he : n - 1 = d + 1
  ·obtain ⟨K, rfl⟩ : ∃ m, K = m + 1 := ⟨K - 1, by omega⟩
   have hz : (x.take (d + 1)).drop (n - 1) = [] := List.drop_of_length_le (by simp; omega)
   simp only [spec_PathBetween.l1]
   rw [wr ((n : Int) - 1) (by omega) (by omega), if_neg (by omega), if_pos (by omega), if_pos (by omega), obs, if_pos (by simp; omega), hz]
   simp
  ·obtain ⟨K, rfl⟩ : ∃ m, K = m + 1 := ⟨K - 1, by omega⟩
   have e1 : (((d + 1 : Nat) : Int) - 1) = (d : Int) := by omega
   rw [e1]
   simp only [spec_PathBetween.l1]
   rw [wr ((n : Int) - 1) (by omega) (by omega), if_pos (by omega), if_pos (by omega), if_pos (by omega), if_pos (by omega), wr ((d : Int) - 1) (by omega) (by omega), ih K _ (by omega) (by omega) (by omega) (by simp; omega), rd_nat _ _ (by omega)]
   have : (x.take (d + 1)).drop (n - 1) = (x.take d).drop (n - 1) ++ [x[d]'(by omega)] := by
    rw [List.take_succ_eq_append_getElem (by omega), List.drop_append_of_le_length (by simp; omega)]
   rw [this]
   simp
theorem sbt0_eq (x y : List Int) (hx : x.length ≤ 100) (hy : y.length ≤ 100) (R : Option (List Int)) (c : Nat) :
  ∀ (d K i : Nat), i + d = x.length → d + 1 < K → i + cp_ (x.drop i) (y.drop i) = c → (∀ K', K ≤ K' + d + 1 → spec_PathBetween.j2 K' x y [] (c : Int) = R) → spec_PathBetween.l0 K x y [] (i : Int) = R := by
 intro d
 induction d with
 | zero =>
  intro K i hi hK hc hR
  obtain ⟨K, rfl⟩ : ∃ m, K = m + 1 := ⟨K - 1, by omega⟩
  rw [List.drop_of_length_le (by omega : x.length ≤ i)] at hc
  simp only [cp_] at hc
  simp only [spec_PathBetween.l0]
  rw [if_neg (by omega)]
  have := hR K (by omega)
  rw [← hc] at this
  simpa using this
 | succ d ih =>
  intro K i hi hK hc hR
  obtain ⟨K, rfl⟩ : ∃ m, K = m + 1 := ⟨K - 1, by omega⟩
  simp only [spec_PathBetween.l0]
  rw [if_pos (by omega)]
  rw [List.drop_eq_getElem_cons (by omega : i < x.length)] at hc
  by_cases hyi : i < y.length
  ·rw [List.drop_eq_getElem_cons hyi] at hc
   rw [if_pos (by omega), if_pos (by omega), rd_nat _ _ (by omega), rd_nat _ _ hyi]
   unfold cp_ at hc
   by_cases he : x[i]'(by omega) = y[i]
   ·rw [if_pos he] at hc
    rw [if_pos he, wr ((i : Int) + 1) (by omega) (by omega)]
    exact ih K (i + 1) (by omega) (by omega) (by omega) (fun K' hK' => hR K' (by omega))
   ·rw [if_neg he] at hc
    rw [if_neg he]
    have := hR K (by omega)
    rw [← hc] at this
    simpa using this
  ·rw [List.drop_of_length_le (by omega : y.length ≤ i)] at hc
   unfold cp_ at hc
   rw [if_neg (by omega)]
   have := hR K (by omega)
   rw [← hc] at this
   simpa using this
theorem sbetween_eq (l : List ND) (a b : Int) (hl : l.length ≤ 9223372036854775807) (K : Nat) (hK : 2000 < K) : spec_PathBetween.f K l a b = some (btw_ (path_ l a) (path_ l b)) := by
 obtain ⟨K, rfl⟩ : ∃ m, K = m + 1 := ⟨K - 1, by omega⟩
 unfold spec_PathBetween.f
 rw [spath_eq l a hl _ (by omega), obs, spath_eq l b hl _ (by omega), obs, obs]
 simp only [spec_PathBetween.j0]
 have hx := path_len l a
 have hy := path_len l b
 by_cases h0 : isn_ l a = true
 ·by_cases h1 : isn_ l b = true
  ·obtain ⟨r, e⟩ := path_head l a h0
   obtain ⟨s, f⟩ := path_head l b h1
   have hc : 1 ≤ cp_ (path_ l a) (path_ l b) := by rw [e, f]; simp [cp_]
   have hcl := cp_le (path_ l a) (path_ l b)
   have hn0 : ¬ ((path_ l a).length : Int) = 0 := by rw [e]; simp; omega
   have hn1 : ¬ ((path_ l b).length : Int) = 0 := by rw [f]; simp; omega
   rw [if_neg hn0, if_neg (by simp; rw [f]; simp)]
   unfold btw_
   rw [if_neg (by omega)]
   generalize path_ l a = x at *
   generalize path_ l b = y at *
   refine sbt0_eq x y (by omega) (by omega) _ (cp_ x y) x.length K 0 (by omega) (by omega) (by simp) (fun K' hK' => ?_)
   obtain ⟨K', rfl⟩ : ∃ m, K' = m + 1 := ⟨K' - 1, by omega⟩
   simp only [spec_PathBetween.j2]
   rw [wr ((x.length : Int) - 1) (by omega) (by omega), sbt1_eq x y (cp_ x y) (by omega) (by omega) (by omega) hc x.length K' [] (Nat.le_refl _) (by omega) (by omega) (by simp; omega)]
   simp
  ·rw [path_none l b h1]
   simp [btw_]
 ·rw [path_none l a h0]
  simp [btw_]
theorem sroute_eq (l : List ND) (B S L : List Int) (a id : Int) (hl : l.length ≤ 9223372036854775807) (K : Nat) (hK : 3100 < K) : spec_RouteToId.f K l B S L a id = some (route_ l B S L a id) := by
 unfold spec_RouteToId.f route_
 have hd := downto_len l B S L id
 rw [sdown_eq l B S L id hl K (by omega), obs]
 generalize downto_ l B S L id = d at hd
 by_cases h : d.length = 0
 ·rw [if_pos (by omega), if_pos h]; rw [List.length_eq_zero_iff.1 h]
 ·rw [if_neg (by omega), if_neg h, wr ((d.length : Int) - 1) (by omega) (by omega), if_pos (by omega), if_pos (by omega), sbetween_eq l a _ hl K (by omega), obs]
theorem smkid_eq (b d f : Int) : spec_MakeId.f b d f = some (mkid_ b d f) := by
 unfold spec_MakeId.f mkid_
 rw [l01In_eq, obs]
 by_cases h0 : 0 ≤ b ∧ b ≤ 15
 ·rw [if_pos (by simpa using h0), l01In_eq, obs]
  by_cases h1 : 0 ≤ d ∧ d ≤ 3
  ·rw [if_pos (by simpa using h1), l01In_eq, obs]
   by_cases h2 : 0 ≤ f ∧ f ≤ 3
   ·rw [if_pos (by simpa using h2), if_pos ⟨h0, h1, h2⟩, wr (b * 16) (by omega) (by omega), wr (d * 4) (by omega) (by omega), wr (b * 16 + d * 4) (by omega) (by omega), wr _ (by omega) (by omega)]
   ·rw [if_neg (by simpa using h2), if_neg (fun h => h2 h.2.2)]
  ·rw [if_neg (by simpa using h1), if_neg (fun h => h1 h.2.1)]
 ·rw [if_neg (by simpa using h0), if_neg (fun h => h0 h.1)]
theorem sid_eq {l : List ND} {B S L : List Int} (h : nums_ l B S L = true) (k f : Int) (h0 : 0 ≤ k) (h1 : k < (l.length : Int)) : spec_l20Id.f l B S L k f = some (nid_ l B k f) := by
 obtain ⟨ht, e⟩ := nums_tree h
 have t := tree_len ht
 have hB := e.len.1
 simp only at hB
 have hF := F_bd ht k h0 h1
 have hF2 : (rd_T50 l k).f2 = F_ l k := rfl
 unfold spec_l20Id.f nid_
 rw [if_pos h0, if_pos h1, hF2, wr (mx 1 (F_ l k) - 1) (by unfold mx; split <;> omega) (by unfold mx; split <;> omega), l01In_eq, obs]
 have hm : mx 1 (F_ l k) - 1 = mx (F_ l k - 1) 0 := by unfold mx; split <;> split <;> omega
 rw [hm]
 change (if fn_ (F_ l k) f = true then _ else _) = _
 by_cases hf : fn_ (F_ l k) f = true
 ·rw [if_pos hf, if_pos (by omega), smkid_eq, obs]
  by_cases hk : k = 0
  ·subst hk
   have hb := e.b0
   simp only at hb
   rw [if_neg (fun q => by omega), hb]
   unfold mkid_
   rw [if_neg (fun q => by omega)]
  ·rw [if_pos ⟨by omega, hf⟩]
 ·rw [if_neg hf, if_neg (fun q => hf q.2)]
theorem snid_eq (l : List ND) (B S L : List Int) (k f : Int) (hl : l.length ≤ 9223372036854775807) (K : Nat) (hK : 2600 < K) : spec_NodeId.f K l B S L k f = some (if nums_ l B S L = true then nid_ l B k f else -1) := by
 unfold spec_NodeId.f
 rw [l20Is_eq l B S L hl K hK, obs]
 by_cases h : nums_ l B S L = true
 ·have t := tree_len (nums_tree h).1
  rw [if_pos h, if_pos h, wr ((l.length : Int) - 1) (by omega) (by omega), l01In_eq, obs]
  by_cases hk : 0 ≤ k ∧ k < (l.length : Int)
  ·rw [if_pos (by rw [decide_eq_true_eq]; omega), sid_eq h k f hk.1 hk.2, obs]
  ·rw [if_neg (by rw [decide_eq_true_eq]; omega)]
   unfold nid_
   rw [if_neg (fun q => by omega)]
 ·rw [if_neg h, if_neg h]
theorem has_eq (k : Nat) (l : List Int) (a : Int) (hl : l.length ≤ 1048576) (hk : l.length < k) : spec_l19Has.f k l a = some (decide (a ∈ l)) := by
 have h := scan_loop (fun k (_ : Unit) i => spec_l19Has.l0 k l a i) l (fun _ x => if x = a then Sum.inr true else Sum.inl ()) (fun _ => false)
  (fun k s i h s' e => by
   have hx : ¬ l[i] = a := by intro hx; simp [hx] at e
   simp only [spec_l19Has.l0]
   rw [if_pos (by omega), if_pos (by omega), rd_nat _ _ h, if_neg hx, wr ((i : Int) + 1) (by omega) (by omega)]
   rfl)
  (fun k s i h r e => by
   have hx : l[i] = a := by
    by_cases hx : l[i] = a
    ·exact hx
    ·simp [hx] at e
   rw [if_pos hx] at e
   injection e with e
   subst e
   simp only [spec_l19Has.l0]
   rw [if_pos (by omega), if_pos (by omega), rd_nat _ _ h, if_pos hx])
  (fun k s => by
   simp only [spec_l19Has.l0]
   rw [if_neg (by omega)]) l.length k () 0 (by omega) hk
 have e : ∀ xs : List Int, runL (fun _ x => if x = a then Sum.inr true else Sum.inl ()) (fun _ => false) () xs = decide (a ∈ xs) := by
  intro xs
  induction xs with
  | nil => simp [runL]
  | cons x xs ih =>
   unfold runL
   by_cases hx : x = a
   ·rw [if_pos hx]; simp [hx]
   ·rw [if_neg hx]; simp only [ih]; simp [show ¬ a = x from fun h => hx h.symm]
 rw [e] at h
 exact h
theorem slocal_eq (l : List ND) (B S L : List Int) (a b : Int) (hl : l.length ≤ 9223372036854775807) (K : Nat) (hK : 3100 < K) : spec_IsLocal.f K l B S L a b = some (local_ l B S L a b) := by
 unfold spec_IsLocal.f local_
 rw [snid_eq l B S L b 0 hl K (by omega), obs, sroute_eq l B S L a _ hl K hK, obs]
 have hr := route_len l B S L a (if nums_ l B S L = true then nid_ l B b 0 else -1)
 generalize route_ l B S L a (if nums_ l B S L = true then nid_ l B b 0 else -1) = r at hr
 by_cases h : 0 < r.length
 ·rw [if_pos (by omega), decide_eq_true h]
  by_cases h2 : a = 0
  ·rw [if_pos h2]; simp [h2]
  ·rw [if_neg h2, has_eq K r 0 (by omega) (by omega), obs]; simp [h2]
 ·rw [if_neg (by omega), decide_eq_false h]; rfl
def toNd (x : S83) : S50 := ⟨x.f0, x.f1, x.f2⟩
theorem rd_lnode (xs : List S83) (i : Nat) (h : i < xs.length) : rd_T83 xs (i : Int) = xs[i] := getD_nat _ _ _ h
theorem toNodeS_eq (k : Nat) (l : List S83) (hl : l.length ≤ 1048576) (hk : l.length < k) : laws_toNodeS.f k l = some (l.map toNd) := by
 unfold laws_toNodeS.f
 rw [if_pos (by omega), if_pos (by omega)]
 have h := copy_loop laws_toNodeS.l0 toNd l hl (fun k x3 i h h3 => by
   simp only [laws_toNodeS.l0]
   rw [if_pos (by omega), if_pos (by omega), rd_lnode _ _ h]
   simp only [laws_toNode.f, Option.bind_some]
   rw [if_pos (by omega), wr _ (by omega) (by omega)]
   rfl) (fun k x3 h3 => by
   simp only [laws_toNodeS.l0]
   rw [if_neg (by omega)]) l.length k (List.replicate ((l.length : Int)).toNat z50) 0 (by omega) hk (by simp) (fun j hj => by omega)
 exact h
theorem node_ext (a b : S50) (h0 : a.f0 = b.f0) (h1 : a.f1 = b.f1) (h2 : a.f2 = b.f2) : a = b := by cases a; cases b; simp_all
instance : DecidableEq S50 := fun a b => decidable_of_iff (a.f0 = b.f0 ∧ a.f1 = b.f1 ∧ a.f2 = b.f2) ⟨fun h => node_ext a b h.1 h.2.1 h.2.2, fun h => by rw [h]; exact ⟨rfl, rfl, rfl⟩⟩
theorem eqNode_eq (a b : S50) : laws_eqNode.f a.f0 a.f1 a.f2 b.f0 b.f1 b.f2 = some (decide (a = b)) := by
 unfold laws_eqNode.f
 by_cases h0 : a.f0 = b.f0
 ·by_cases h1 : a.f1 = b.f1
  ·by_cases h2 : a.f2 = b.f2
   ·rw [if_pos h0, if_pos h1, if_pos h2]; simp [node_ext a b h0 h1 h2]
   ·rw [if_pos h0, if_pos h1, if_neg h2]; simp only [Option.some.injEq]; symm; rw [decide_eq_false_iff_not]; rintro rfl; exact h2 rfl
  ·rw [if_pos h0, if_neg h1]; simp only [Option.some.injEq]; symm; rw [decide_eq_false_iff_not]; rintro rfl; exact h1 rfl
 ·rw [if_neg h0]; simp only [Option.some.injEq]; symm; rw [decide_eq_false_iff_not]; rintro rfl; exact h0 rfl
theorem eqNodeS_eq (k : Nat) (a b : List S50) (hl : a.length ≤ 1048576) (hk : a.length < k) : laws_eqNodeS.f k a b = some (decide (a = b)) := by
 unfold laws_eqNodeS.f
 by_cases e : b.length = a.length
 ·rw [if_pos (by omega)]
  have h := eq_loop laws_eqNodeS.l0 a b hl e (fun k i h hx => by
    simp only [laws_eqNodeS.l0]
    rw [if_pos (by omega), if_pos (by omega), if_pos (by omega), rd_inode _ _ h, rd_inode _ _ (by omega), eqNode_eq]
    simp [hx]) (fun k i h hx => by
    simp only [laws_eqNodeS.l0]
    rw [if_pos (by omega), if_pos (by omega), if_pos (by omega), rd_inode _ _ h, rd_inode _ _ (by omega), eqNode_eq, wr _ (by omega) (by omega)]
    simp only [hx, decide_true, Option.bind_some, if_true]
    rfl) (fun k => by
    simp only [laws_eqNodeS.l0]
    rw [if_neg (by omega)]) a.length k 0 (by omega) hk
  simpa using h
 ·rw [if_neg (by omega)]
  congr 1
  symm
  rw [decide_eq_false_iff_not]
  rintro rfl
  exact e rfl
theorem szNodeS_eq (l : List S83) (a : Int) (h0 : l.length ≤ 9223372036854775807) (h1 : 0 ≤ a) (h2 : a ≤ 1048576) :
  laws_szNodeS.f l a = some (if a < (l.length : Int) then -1 else a - (l.length : Int)) := by
 unfold laws_szNodeS.f
 rw [wr (a - (l.length : Int)) (by omega) (by omega)]
 by_cases h : a < (l.length : Int)
 ·rw [if_pos (by omega), if_pos h]
 ·rw [if_neg (by omega), if_neg h]
theorem toIntS_eq (k : Nat) (l : List Int) (hl : l.length ≤ 1048576) (hk : l.length < k) : laws_toIntS.f k l = some l := by
 unfold laws_toIntS.f
 rw [if_pos (by omega), if_pos (by omega)]
 have h := copy_loop laws_toIntS.l0 (fun x => x) l hl (fun k x3 i h h3 => by
   simp only [laws_toIntS.l0]
   rw [if_pos (by omega), if_pos (by omega), if_pos (by omega), rd_nat _ _ h, wr _ (by omega) (by omega)]
   rfl) (fun k x3 h3 => by
   simp only [laws_toIntS.l0]
   rw [if_neg (by omega)]) l.length k (List.replicate ((l.length : Int)).toNat 0) 0 (by omega) hk (by simp) (fun j hj => by omega)
 simpa using h
theorem eqIntS_eq (k : Nat) (a b : List Int) (hl : a.length ≤ 1048576) (hk : a.length < k) : laws_eqIntS.f k a b = some (decide (a = b)) := by
 unfold laws_eqIntS.f
 by_cases e : b.length = a.length
 ·rw [if_pos (by omega)]
  have h := eq_loop laws_eqIntS.l0 a b hl e (fun k i h hx => by
    simp only [laws_eqIntS.l0]
    rw [if_pos (by omega), if_pos (by omega), if_pos (by omega), rd_nat _ _ h, rd_nat _ _ (by omega), if_neg hx]) (fun k i h hx => by
    simp only [laws_eqIntS.l0]
    rw [if_pos (by omega), if_pos (by omega), if_pos (by omega), rd_nat _ _ h, rd_nat _ _ (by omega), if_pos hx, wr _ (by omega) (by omega)]
    rfl) (fun k => by
    simp only [laws_eqIntS.l0]
    rw [if_neg (by omega)]) a.length k 0 (by omega) hk
  simpa using h
 ·rw [if_neg (by omega)]
  congr 1
  symm
  rw [decide_eq_false_iff_not]
  rintro rfl
  exact e rfl
theorem szInts_eq (l : List Int) (a : Int) (h0 : l.length ≤ 9223372036854775807) (h1 : 0 ≤ a) (h2 : a ≤ 1048576) :
  laws_szIntS.f l a = some (if a < (l.length : Int) then -1 else a - (l.length : Int)) := by
 unfold laws_szIntS.f
 rw [wr (a - (l.length : Int)) (by omega) (by omega)]
 by_cases h : a < (l.length : Int)
 ·rw [if_pos (by omega), if_pos h]
 ·rw [if_neg (by omega), if_neg h]
theorem szNum_eq (a b c : List Int) (n : Int) (ha : a.length ≤ 9223372036854775807) (hb : b.length ≤ 9223372036854775807) (hc : c.length ≤ 9223372036854775807) (h1 : 0 ≤ n) (h2 : n ≤ 1048576) :
  ∃ v, laws_szNumbers.f a b c n = some v ∧ (v < 0 ∨ a.length ≤ 1048576 ∧ b.length ≤ 1048576 ∧ c.length ≤ 1048576 ∧ 0 ≤ v ∧ (a.length : Int) + (b.length : Int) + (c.length : Int) ≤ n) := by
 unfold laws_szNumbers.f
 rw [szInts_eq a n ha h1 h2, obs]
 by_cases q1 : n < (a.length : Int)
 ·rw [if_pos q1, if_pos (by omega)]; exact ⟨_, rfl, .inl (by omega)⟩
 ·rw [if_neg q1, if_neg (by omega), szInts_eq b _ hb (by omega) (by omega), obs]
  by_cases q2 : n - (a.length : Int) < (b.length : Int)
  ·rw [if_pos q2, if_pos (by omega)]; exact ⟨_, rfl, .inl (by omega)⟩
  ·rw [if_neg q2, if_neg (by omega), szInts_eq c _ hc (by omega) (by omega), obs]
   by_cases q3 : n - (a.length : Int) - (b.length : Int) < (c.length : Int)
   ·rw [if_pos q3, if_pos (by omega)]; exact ⟨_, rfl, .inl (by omega)⟩
   ·rw [if_neg q3, if_neg (by omega)]; exact ⟨_, rfl, .inr ⟨by omega, by omega, by omega, by omega, by omega⟩⟩
theorem toNum_eq (K : Nat) (a b c : List Int) (ha : a.length ≤ 1048576) (hb : b.length ≤ 1048576) (hc : c.length ≤ 1048576) (hK : 1048576 < K) : laws_toNumbers.f K a b c = some (a, b, c) := by
 unfold laws_toNumbers.f
 rw [toIntS_eq K a ha (by omega), obs, toIntS_eq K b hb (by omega), obs, toIntS_eq K c hc (by omega), obs]
theorem eqNum_self (K : Nat) (a b c : List Int) (ha : a.length ≤ 1048576) (hb : b.length ≤ 1048576) (hc : c.length ≤ 1048576) (hK : 1048576 < K) : laws_eqNumbers.f K a b c a b c = some true := by
 unfold laws_eqNumbers.f
 rw [eqIntS_eq K a a ha (by omega), obs, if_pos (by simp), eqIntS_eq K b b hb (by omega), obs, if_pos (by simp), eqIntS_eq K c c hc (by omega), obs, if_pos (by simp)]
theorem FnExactIsLocal (l0 : List (S83)) (l1_0 : List Int) (l1_1 : List Int) (l1_2 : List Int) (a2 : Int) (a3 : Int)
  (h0 : l0.length ≤ 9223372036854775807) (h1 : (∀ y ∈ l0, ((Lit.int .i64 y.f0).wf = true) ∧ ((Lit.int .i64 y.f1).wf = true) ∧ ((Lit.int .i64 y.f2).wf = true))) (h2 : l1_0.length ≤ 9223372036854775807) (h3 : (∀ y ∈ l1_0, (Lit.int .i64 y).wf = true)) (h4 : l1_1.length ≤ 9223372036854775807) (h5 : (∀ y ∈ l1_1, (Lit.int .i64 y).wf = true)) (h6 : l1_2.length ≤ 9223372036854775807) (h7 : (∀ y ∈ l1_2, (Lit.int .i64 y).wf = true)) (h8 : (Lit.int .i64 a2).wf = true) (h9 : (Lit.int .i64 a3).wf = true) :
  ∃ k, laws_FnExactIsLocal.f k l0 l1_0 l1_1 l1_2 a2 a3 = some true := by
 obtain ⟨k, hk⟩ : ∃ k : Nat, 1048576 < k := ⟨1048577, by omega⟩
 refine ⟨k, ?_⟩
 unfold laws_FnExactIsLocal.f
 rw [szNodeS_eq l0 1048576 h0 (by omega) (by omega), obs]
 by_cases hb : (1048576 : Int) < (l0.length : Int)
 ·rw [if_pos hb, if_pos (by omega)]
 ·rw [if_neg hb, if_neg (by omega)]
  obtain ⟨v, ev, hv⟩ := szNum_eq l1_0 l1_1 l1_2 (1048576 - (l0.length : Int)) h2 h4 h6 (by omega) (by omega)
  rw [ev, obs]
  rcases hv with hv | ⟨q0, q1, q2, hv, hs⟩
  ·rw [if_pos hv]
  ·have hl : l0.length ≤ 1048576 := by omega
   have hm : (l0.map toNd).length ≤ 1048576 := by simpa using hl
   rw [if_neg (by omega), toNodeS_eq k l0 hl (by omega), obs, toNum_eq k _ _ _ q0 q1 q2 hk, obs, slocal_eq _ _ _ _ a2 a3 (by omega) k (by omega), obs, obs, obs, ilocal_eq _ _ _ _ a2 a3 (by omega) k (by omega), obs, if_neg (by simp), obs, eqNodeS_eq k _ _ hm (by omega), obs, if_pos (by simp), obs, eqNum_self k _ _ _ q0 q1 q2 hk, obs, if_pos rfl]
end Go.Proofs.Ytbbppknnkghkjaa.Pure
