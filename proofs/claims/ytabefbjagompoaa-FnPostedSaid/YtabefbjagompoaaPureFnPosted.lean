/- Of every code: the first posted packet of a drawn queue, if there are credits for it, is sent, whatever waits before it, and no packet is lost. -/
import Derived.Test.YtabefbjagompoaaPFnPostedx17
import Derived.Test.YtabefbjagompoaaCom
namespace Go.Proofs.Ytabefbjagompoaa.Pure
open Go.RowKit Go.Proofs.Ytabefbjagompoaa.PFnPosted Go.Proofs.YtabefbjagompoaaW.PrintWords Go.Proofs.YtabefbjagompoaaW.PrintLast Go.Proofs.YtabefbjagompoaaW.PrintMore Go.Proofs.Ytabefbjagompoaa.Com
set_option linter.unusedVariables false
set_option linter.unusedSimpArgs false
theorem obs {α β : Type} (a : α) (f : α → Option β) : (some a).bind f = f a := by rw [Option.bind_some]
theorem and255 (x : Int) : 0 ≤ Go.bits .and .i64 x 255 ∧ Go.bits .and .i64 x 255 ≤ 255 := by
  have h1 : (BitVec.ofInt 64 x &&& BitVec.ofInt 64 255).toNat ≤ 255 := by
    rw [BitVec.toNat_and]
    exact Nat.le_trans Nat.and_le_right (by decide)
  have h2 : Go.bits .and .i64 x 255 = IntKind.i64.wrap ((BitVec.ofInt 64 x &&& BitVec.ofInt 64 255).toNat : Int) := rfl
  rw [h2, Go.IntKind.wrap_i64]
  omega
theorem byte_some (s : List Int) (i h : Int) (hs : s.length ≤ 1048576) (h0 : 0 ≤ i) (h1 : i ≤ s.length) :
    ∃ x i' h', spec_l01Byte.f s i h = some (x, i', h') ∧ 0 ≤ x ∧ x ≤ 255 ∧ 0 ≤ i' ∧ i' ≤ s.length := by
  unfold spec_l01Byte.f
  by_cases hlt : i < (s.length : Int)
  · rw [if_pos hlt, if_pos h0]
    refine ⟨_, _, _, rfl, (and255 _).1, (and255 _).2, ?_, ?_⟩ <;> rw [wr _ (by omega) (by omega)] <;> omega
  · rw [if_neg hlt]
    exact ⟨_, _, _, rfl, (and255 _).1, (and255 _).2, h0, h1⟩
theorem below_some (s : List Int) (i h n : Int) (hs : s.length ≤ 1048576) (h0 : 0 ≤ i) (h1 : i ≤ s.length) (hn : 0 < n) (hm : n ≤ 4294967296) :
    ∃ x i' h', spec_l01Below.f s i h n = some (x, i', h') ∧ 0 ≤ x ∧ x < n ∧ 0 ≤ i' ∧ i' ≤ s.length := by
  unfold spec_l01Below.f
  rw [if_neg (by omega)]
  by_cases hlt : n ≤ 256
  · rw [if_pos hlt]
    obtain ⟨x, i1, h1', e, x0, x1, i0, i2⟩ := byte_some s i h hs h0 h1
    rw [e]
    simp only [Option.bind_some]
    rw [if_neg (by omega)]
    refine ⟨_, _, _, rfl, ?_, ?_, i0, i2⟩
    · exact Int.tmod_nonneg _ x0
    · exact Int.tmod_lt_of_pos _ hn
  · rw [if_neg hlt]
    obtain ⟨x, i1, h1', e, x0, x1, i0, i2⟩ := byte_some s i h hs h0 h1
    obtain ⟨y, i3, h3', e3, y0, y1, i4, i5⟩ := byte_some s i1 h1' hs i0 i2
    obtain ⟨z, i6, h6', e6, z0, z1, i7, i8⟩ := byte_some s i3 h3' hs i4 i5
    obtain ⟨w, i9, h9', e9, w0, w1, i10, i11⟩ := byte_some s i6 h6' hs i7 i8
    simp only [e, e3, e6, e9, Option.bind_some]
    rw [if_neg (by omega)]
    refine ⟨_, _, _, rfl, ?_, ?_, i10, i11⟩
    · rw [wr (x * 16777216) (by omega) (by omega), wr (y * 65536) (by omega) (by omega), wr (z * 256) (by omega) (by omega), wr (x * 16777216 + y * 65536) (by omega) (by omega), wr (x * 16777216 + y * 65536 + z * 256) (by omega) (by omega), wr _ (by omega) (by omega)]
      exact Int.tmod_nonneg _ (by omega)
    · exact Int.tmod_lt_of_pos _ hn
theorem new_some (k : Nat) (s : List Int) (hs : s.length ≤ 1048576) (hk : 4000 < k) : ∃ h, spec_l01New.f k s = some (s, 0, h) := by
  have key : ∀ d k (h : Int) (i : Nat), i + d = 4000 → d < k → ∃ h', spec_l01New.l0 k s h (i : Int) = some (s, 0, h') := by
    intro d
    induction d with
    | zero =>
      intro k h i hi hk
      obtain ⟨k, rfl⟩ : ∃ m, k = m + 1 := ⟨k - 1, by omega⟩
      simp only [spec_l01New.l0]
      rw [if_neg (show ¬ ((i : Int) < 4000) by omega)]
      split <;> exact ⟨_, rfl⟩
    | succ d ih =>
      intro k h i hi hk
      obtain ⟨k, rfl⟩ : ∃ m, k = m + 1 := ⟨k - 1, by omega⟩
      simp only [spec_l01New.l0]
      by_cases hlt : (i : Int) < s.length
      · rw [if_pos hlt, if_pos (by omega), if_pos (by omega), wr ((i : Int) + 1) (by omega) (by omega)]
        exact ih k _ (i + 1) (by omega) (by omega)
      · rw [if_neg hlt]; exact ⟨_, rfl⟩
  exact key 4000 k _ 0 (by omega) hk
abbrev PT := S33
def pkOk (k fr tt ad ln tg st n : Int) (wd : Bool) : Bool :=
  decide (1 ≤ k ∧ k ≤ 6) && (decide (0 ≤ fr ∧ fr ≤ 255) && (wd && (
    (decide (k = 1) && decide (1 ≤ n ∧ n ≤ 8 ∧ 0 ≤ ad ∧ ad ≤ 65536 - n ∧ st = 0 ∧ tt = 0 ∧ ln = 0 ∧ tg = 0)) ||
    ((decide (k = 2) && decide (1 ≤ n ∧ n ≤ 8 ∧ ad = 0 ∧ st = 0 ∧ tt = 0 ∧ ln = 0 ∧ tg = 0)) ||
    ((decide (k = 3) && decide (n = 0 ∧ 1 ≤ ln ∧ ln ≤ 64 ∧ 0 ≤ ad ∧ ad ≤ 65536 - ln ∧ 0 ≤ tg ∧ tg ≤ 7 ∧ st = 0 ∧ tt = 0)) ||
    ((decide (k = 4) && decide (n = 0 ∧ 0 ≤ ad ∧ ad ≤ 63 ∧ 0 ≤ tt ∧ tt ≤ 255 ∧ 0 ≤ tg ∧ tg ≤ 7 ∧ st = 0 ∧ ln = 0)) ||
    ((decide (k = 5) && decide (n = 1 ∧ 0 ≤ ad ∧ ad ≤ 63 ∧ 0 ≤ tt ∧ tt ≤ 255 ∧ 0 ≤ tg ∧ tg ≤ 7 ∧ st = 0 ∧ ln = 0)) ||
    (decide (k = 6) && decide (ad = 0 ∧ 0 ≤ tt ∧ tt ≤ 255 ∧ 0 ≤ tg ∧ tg ≤ 7 ∧ 0 ≤ st ∧ st ≤ 2 ∧ 0 ≤ ln ∧ ln ≤ 64 ∧ (n = 0 ∨ (st = 0 ∧ n ≤ 8 ∧ n ≤ ln)))))))))))
def wds (l : List Int) : Bool := l.all fun x => decide (0 ≤ x ∧ x ≤ 65535)
def pk_ (x : PT) : Bool := pkOk x.f0 x.f1 x.f2 x.f3 x.f4 x.f5 x.f6 (x.f7.length : Int) (wds x.f7)
theorem if_some_false (b c : Bool) : (if b = true then some c else some false) = some (b && c) := by cases b <;> rfl
theorem if_p_false (p : Prop) [Decidable p] (c : Bool) : (if p then some c else some false) = some (decide p && c) := by by_cases h : p <;> simp [h]
theorem rd_pk (xs : List PT) (i : Nat) (h : i < xs.length) : rd_T33 xs (i : Int) = xs[i] := getD_nat _ _ _ h
theorem bsi {α : Type} (x : Option α) : (x.bind fun t => some t) = x := by cases x <;> rfl
theorem if_true_false (b c : Bool) : (if b = true then some false else some c) = some (!b && c) := by cases b <;> rfl
def cl_ (x : PT) : Int := if pk_ x = true then (if x.f0 = 1 ∨ x.f0 = 2 then 0 else if x.f0 = 6 then 2 else 1) else -1
def may_ (q x : PT) : Bool := pk_ q && (pk_ x && (!decide (cl_ x = 0) && (if cl_ q = 2 then (if cl_ x = 2 then (if q.f2 = x.f2 then (q.f5 != x.f5) else true) else true) else true)))
theorem cl_range (x : PT) (h : pk_ x = true) : 0 ≤ cl_ x ∧ cl_ x ≤ 2 := by
  unfold cl_; rw [if_pos h]; split
  · omega
  · split <;> omega
def pas_ (l : List PT) (i : Nat) (q : PT) : Bool := pk_ q && (l.take i).all (fun p => !pk_ p || may_ q p)
def psf (l : List PT) : Nat → Nat → List Int
  | 0, _ => []
  | d + 1, i => if pas_ l i (rd_T33 l (i : Int)) = true then (i : Int) :: psf l d (i + 1) else psf l d (i + 1)
theorem psf_succ (l : List PT) (d i : Nat) : psf l (d + 1) i = if pas_ l i (rd_T33 l (i : Int)) = true then (i : Int) :: psf l d (i + 1) else psf l d (i + 1) := rfl
theorem psf_in (l : List PT) : ∀ d i, ∀ p ∈ psf l d i, (i : Int) ≤ p ∧ p < ((i + d : Nat) : Int) := by
  intro d
  induction d with
  | zero => intro i p hp; simp [psf] at hp
  | succ d ih =>
    intro i p hp
    rw [psf_succ] at hp
    have key : p ∈ psf l d (i + 1) → (i : Int) ≤ p ∧ p < ((i + (d + 1) : Nat) : Int) := fun h => by have := ih (i + 1) p h; omega
    split at hp
    · rcases List.mem_cons.1 hp with rfl | hp
      · omega
      · exact key hp
    · exact key hp
theorem psf_len (l : List PT) : ∀ d i, (psf l d i).length ≤ d := by
  intro d
  induction d with
  | zero => intro i; simp [psf]
  | succ d ih =>
    intro i
    rw [psf_succ]
    have := ih (i + 1)
    split
    · simp; omega
    · omega
def passers_ (l : List PT) : List Int := psf l l.length 0
def crs_ (l : List Int) : Bool := decide (l.length = 3) && l.all fun x => decide (0 ≤ x ∧ x ≤ 30)
def qok_ (w : List PT) (h u : List Int) (s : List PT) : Bool := decide ((w.length : Int) ≤ 12) && (decide ((s.length : Int) ≤ 1000) && (w.all pk_ && (s.all pk_ && (crs_ h && crs_ u))))
def un_ (x : PT) : Int := wrap64 (Int.tdiv (wrap64 ((x.f7.length : Int) + 3)) 4)
def cs_ (h u : List Int) (x : PT) : Bool := decide (rd h (cl_ x) ≥ 1) && decide (rd u (cl_ x) ≥ un_ x)
theorem qok_facts {w : List PT} {h u : List Int} {s : List PT} (hq : qok_ w h u s = true) : w.length ≤ 12 ∧ s.length ≤ 1000 ∧ (∀ x ∈ w, pk_ x = true) ∧ (∀ x ∈ s, pk_ x = true) ∧ crs_ h = true ∧ crs_ u = true := by
  simp only [qok_, Bool.and_eq_true, decide_eq_true_eq, List.all_eq_true] at hq
  obtain ⟨a, b, c, d, e, f⟩ := hq
  exact ⟨by omega, by omega, c, d, e, f⟩
theorem crs_len {l : List Int} (h : crs_ l = true) : l.length = 3 := by
  simp only [crs_, Bool.and_eq_true, decide_eq_true_eq] at h; exact h.1
theorem wr1 (x : Int) (h0 : 0 ≤ x) (h1 : x ≤ 1000000) : wrap64 (1 + x) = 1 + x := by unfold wrap64; omega
theorem pick_some (s : List Int) (i h : Int) (l : List Int) (hs : s.length ≤ 1048576) (h0 : 0 ≤ i) (h1 : i ≤ s.length) (hl : 0 < l.length) (hm : l.length ≤ 256) :
    ∃ x i' h', spec_l01PickInt.f s i h l = some (x, i', h') ∧ x ∈ l ∧ 0 ≤ i' ∧ i' ≤ s.length := by
  unfold spec_l01PickInt.f
  obtain ⟨x, i', h', e, x0, x1, i0, i1⟩ := below_some s i h (l.length : Int) hs h0 h1 (by omega) (by omega)
  rw [e, obs, if_pos x0, if_pos x1]
  obtain ⟨n, rfl⟩ : ∃ n : Nat, x = (n : Int) := ⟨x.toNat, by omega⟩
  have hn : n < l.length := by omega
  refine ⟨_, _, _, rfl, ?_, i0, i1⟩
  have : rd l (n : Int) = l[n] := by simp [rd, List.getD_eq_getElem?_getD, hn]
  rw [this]; exact List.getElem_mem _
theorem data_some (s : List Int) (hs : s.length ≤ 1048576) (n : Int) (hn0 : 0 ≤ n) (hn : n ≤ 8) : ∀ (d K : Nat) (l : List Int) (j i h : Int), 0 ≤ j → j + d = n → d < K → (l.length : Int) = j → wds l = true → 0 ≤ i → i ≤ s.length →
    ∃ r i' h', spec_l04Data.l0 K n l j s i h = some (r, i', h') ∧ (r.length : Int) = n ∧ wds r = true ∧ 0 ≤ i' ∧ i' ≤ s.length := by
  intro d
  induction d with
  | zero =>
    intro K l j i h hj hjd hK hl hw h0 h1
    obtain ⟨K, rfl⟩ : ∃ m, K = m + 1 := ⟨K - 1, by omega⟩
    simp only [spec_l04Data.l0]
    rw [if_neg (by omega)]
    exact ⟨_, _, _, rfl, by omega, hw, h0, h1⟩
  | succ d ih =>
    intro K l j i h hj hjd hK hl hw h0 h1
    obtain ⟨K, rfl⟩ : ∃ m, K = m + 1 := ⟨K - 1, by omega⟩
    simp only [spec_l04Data.l0]
    rw [if_pos (by omega)]
    obtain ⟨a, i1, g1, e1, a0, a1, p0, p1⟩ := below_some s i h 256 hs h0 h1 (by omega) (by omega)
    obtain ⟨b, i2, g2, e2, b0, b1, q0, q1⟩ := below_some s i1 g1 65536 hs p0 p1 (by omega) (by omega)
    obtain ⟨c, i3, g3, e3, c0, r0, r1⟩ := pick_some s i2 g2 [0, 1, 65535, a, b] hs q0 q1 (by simp) (by simp)
    rw [e1, obs, e2, obs, e3, obs, if_pos (by omega), show wrap64 (j + 1) = j + 1 by unfold wrap64; omega]
    refine ih K _ _ _ _ (by omega) (by omega) (by omega) (by simp; omega) ?_ r0 r1
    unfold wds at hw ⊢
    rw [List.all_append, hw, Bool.true_and]
    simp only [List.mem_cons, List.not_mem_nil, or_false] at c0
    simp only [List.all_cons, List.all_nil, Bool.and_true, decide_eq_true_eq]
    omega
theorem data_eq (s : List Int) (hs : s.length ≤ 1048576) (n : Int) (hn0 : 0 ≤ n) (hn : n ≤ 8) (K : Nat) (hK : 8 < K) (i h : Int) (h0 : 0 ≤ i) (h1 : i ≤ s.length) :
    ∃ r i' h', spec_l04Data.f K s i h n = some (r, i', h') ∧ (r.length : Int) = n ∧ wds r = true ∧ 0 ≤ i' ∧ i' ≤ s.length := by
  unfold spec_l04Data.f
  exact data_some s hs n hn0 hn n.toNat K [] 0 i h (by omega) (by omega) (by omega) rfl rfl h0 h1
theorem pk_of (k fr tt ad ln tg st : Int) (l : List Int) (n : Int) (hn : (l.length : Int) = n) (hw : wds l = true) (h1 : 1 ≤ k ∧ k ≤ 6) (h2 : 0 ≤ fr ∧ fr ≤ 255)
    (h : (k = 1 ∧ 1 ≤ n ∧ n ≤ 8 ∧ 0 ≤ ad ∧ ad ≤ 65536 - n ∧ st = 0 ∧ tt = 0 ∧ ln = 0 ∧ tg = 0) ∨ (k = 2 ∧ 1 ≤ n ∧ n ≤ 8 ∧ ad = 0 ∧ st = 0 ∧ tt = 0 ∧ ln = 0 ∧ tg = 0) ∨
      (k = 3 ∧ n = 0 ∧ 1 ≤ ln ∧ ln ≤ 64 ∧ 0 ≤ ad ∧ ad ≤ 65536 - ln ∧ 0 ≤ tg ∧ tg ≤ 7 ∧ st = 0 ∧ tt = 0) ∨ (k = 4 ∧ n = 0 ∧ 0 ≤ ad ∧ ad ≤ 63 ∧ 0 ≤ tt ∧ tt ≤ 255 ∧ 0 ≤ tg ∧ tg ≤ 7 ∧ st = 0 ∧ ln = 0) ∨
      (k = 5 ∧ n = 1 ∧ 0 ≤ ad ∧ ad ≤ 63 ∧ 0 ≤ tt ∧ tt ≤ 255 ∧ 0 ≤ tg ∧ tg ≤ 7 ∧ st = 0 ∧ ln = 0) ∨ (k = 6 ∧ ad = 0 ∧ 0 ≤ tt ∧ tt ≤ 255 ∧ 0 ≤ tg ∧ tg ≤ 7 ∧ 0 ≤ st ∧ st ≤ 2 ∧ 0 ≤ ln ∧ ln ≤ 64 ∧ (n = 0 ∨ (st = 0 ∧ n ≤ 8 ∧ n ≤ ln)))) : pk_ ⟨k, fr, tt, ad, ln, tg, st, l⟩ = true := by
  subst hn
  unfold pk_ pkOk
  rw [hw, Bool.true_and]
  simp only [Bool.and_eq_true, Bool.or_eq_true, decide_eq_true_eq]
  exact ⟨h1, h2, h⟩
theorem pk_to (x : PT) (h : pk_ x = true) (h6 : x.f0 = 6) : wds x.f7 = true ∧ (0 ≤ x.f1 ∧ x.f1 ≤ 255) ∧ x.f3 = 0 ∧ 0 ≤ x.f6 ∧ x.f6 ≤ 2 ∧ 0 ≤ x.f4 ∧ x.f4 ≤ 64 ∧ ((x.f7.length : Int) = 0 ∨ (x.f6 = 0 ∧ (x.f7.length : Int) ≤ 8 ∧ (x.f7.length : Int) ≤ x.f4)) := by
  unfold pk_ pkOk at h
  simp only [Bool.and_eq_true, Bool.or_eq_true, decide_eq_true_eq] at h
  obtain ⟨h1, h2, h3, h⟩ := h
  rcases h with h | h | h | h | h | h
  · exact absurd h.1 (by omega)
  · exact absurd h.1 (by omega)
  · exact absurd h.1 (by omega)
  · exact absurd h.1 (by omega)
  · exact absurd h.1 (by omega)
  · exact ⟨h3, h2, h.2.1, h.2.2.2.2.2.2.1, h.2.2.2.2.2.2.2.1, h.2.2.2.2.2.2.2.2.1, h.2.2.2.2.2.2.2.2.2.1, h.2.2.2.2.2.2.2.2.2.2⟩
set_option maxHeartbeats 800000 in
theorem packet_some (s : List Int) (hs : s.length ≤ 1048576) (K : Nat) (hK : 20 < K) (i h : Int) (h0 : 0 ≤ i) (h1 : i ≤ s.length) :
    ∃ (x : PT) (i' h' : Int), spec_l04Packet.f K s i h = some (x.f0, x.f1, x.f2, x.f3, x.f4, x.f5, x.f6, x.f7, i', h') ∧ pk_ x = true ∧ x.f7.length ≤ 8 ∧ 0 ≤ i' ∧ i' ≤ s.length := by
  obtain ⟨K, rfl⟩ : ∃ m, K = m + 2 := ⟨K - 2, by omega⟩
  unfold spec_l04Packet.f
  obtain ⟨a, i1, g1, e1, a0, a1, p0, p1⟩ := below_some s i h 6 hs h0 h1 (by omega) (by omega)
  obtain ⟨b, i2, g2, e2, b0, b1, q0, q1⟩ := below_some s i1 g1 256 hs p0 p1 (by omega) (by omega)
  rw [e1, obs, e2, obs, wr1 a a0 (by omega)]
  clear e1 e2
  have hfin : ∀ (x : PT) (i' h' : Int) (y : Option (Int × Int × Int × Int × Int × Int × Int × List Int × Int × Int)), y = some (x.f0, x.f1, x.f2, x.f3, x.f4, x.f5, x.f6, x.f7, i', h') → pk_ x = true → x.f7.length ≤ 8 → 0 ≤ i' → i' ≤ s.length →
      ∃ (x : PT) (i' h' : Int), y = some (x.f0, x.f1, x.f2, x.f3, x.f4, x.f5, x.f6, x.f7, i', h') ∧ pk_ x = true ∧ x.f7.length ≤ 8 ∧ 0 ≤ i' ∧ i' ≤ s.length := fun x i' h' y e a b c d => ⟨x, i', h', e, a, b, c, d⟩
  by_cases k12 : 1 + a = 1 ∨ 1 + a = 2
  · have hj : ∀ bb : Bool, bb = true → ∃ (x : PT) (i' h' : Int), spec_l04Packet.j0 (K + 2) (1 + a) bb s i2 g2 (1 + a) b 0 0 0 0 0 = some (x.f0, x.f1, x.f2, x.f3, x.f4, x.f5, x.f6, x.f7, i', h') ∧ pk_ x = true ∧ x.f7.length ≤ 8 ∧ 0 ≤ i' ∧ i' ≤ s.length := by
      rintro _ rfl
      simp only [spec_l04Packet.j0]
      rw [if_pos trivial]
      obtain ⟨c, i3, g3, e3, c0, c1, r0, r1⟩ := below_some s i2 g2 8 hs q0 q1 (by omega) (by omega)
      rw [e3, obs, wr1 c c0 (by omega)]
      obtain ⟨l, i4, g4, e4, l0, lw, t0, t1⟩ := data_eq s hs (1 + c) (by omega) (by omega) (K + 1) (by omega) i3 g3 r0 r1
      rw [e4, obs]
      by_cases k1 : 1 + a = 1
      · rw [if_pos k1]
        obtain ⟨d, i5, g5, e5, d0, d1, u0, u1⟩ := below_some s i4 g4 60000 hs t0 t1 (by omega) (by omega)
        obtain ⟨ad, i6, g6, e6, ad0, v0, v1⟩ := pick_some s i5 g5 [0, 100, 4096, 65528, d] hs u0 u1 (by simp) (by simp)
        rw [e5, obs, e6, obs]
        simp only [List.mem_cons, List.not_mem_nil, or_false] at ad0
        refine hfin ⟨1 + a, b, 0, ad, 0, 0, 0, l⟩ i6 g6 _ rfl ?_ (by show l.length ≤ 8; omega) v0 v1
        exact pk_of _ _ _ _ _ _ _ _ _ l0 lw ⟨by omega, by omega⟩ ⟨b0, by omega⟩ (.inl ⟨k1, by omega, by omega, by omega, by omega, rfl, rfl, rfl, rfl⟩)
      · rw [if_neg k1]
        refine hfin ⟨1 + a, b, 0, 0, 0, 0, 0, l⟩ i4 g4 _ rfl ?_ (by show l.length ≤ 8; omega) t0 t1
        exact pk_of _ _ _ _ _ _ _ _ _ l0 lw ⟨by omega, by omega⟩ ⟨b0, by omega⟩ (.inr (.inl ⟨by omega, by omega, by omega, rfl, rfl, rfl, rfl, rfl⟩))
    rcases k12 with k1 | k2
    · rw [if_pos k1]; exact hj _ (by simp [k1])
    · rw [if_neg (by omega)]; exact hj _ (by simp [k2])
  · rw [if_neg (by omega), show ((1 + a == 2) : Bool) = false by simp; omega]
    simp only [spec_l04Packet.j0]
    rw [if_neg (by simp)]
    by_cases k3 : 1 + a = 3
    · rw [if_pos k3]
      obtain ⟨ln, i3, g3, e3, ln0, r0, r1⟩ := pick_some s i2 g2 [1, 4, 8, 20, 64] hs q0 q1 (by simp) (by simp)
      obtain ⟨d, i5, g5, e5, d0, d1, u0, u1⟩ := below_some s i3 g3 60000 hs r0 r1 (by omega) (by omega)
      obtain ⟨ad, i6, g6, e6, ad0, v0, v1⟩ := pick_some s i5 g5 [0, 100, 4096, 65472, d] hs u0 u1 (by simp) (by simp)
      obtain ⟨tg, i7, g7, e7, t0, t1, w0, w1⟩ := below_some s i6 g6 8 hs v0 v1 (by omega) (by omega)
      rw [e3, obs, e5, obs, e6, obs, e7, obs]
      simp only [List.mem_cons, List.not_mem_nil, or_false] at ad0 ln0
      refine hfin ⟨1 + a, b, 0, ad, ln, tg, 0, []⟩ i7 g7 _ rfl ?_ (by simp) w0 w1
      exact pk_of _ _ _ _ _ _ _ _ 0 rfl rfl ⟨by omega, by omega⟩ ⟨b0, by omega⟩ (.inr (.inr (.inl ⟨k3, rfl, by omega, by omega, by omega, by omega, by omega, by omega, rfl, rfl⟩)))
    · rw [if_neg k3]
      have hj : ∀ bb : Bool, (bb = true ↔ (1 + a = 4 ∨ 1 + a = 5)) → ∃ (x : PT) (i' h' : Int), spec_l04Packet.j1 (K + 1) (1 + a) bb s i2 g2 (1 + a) b 0 0 0 0 0 = some (x.f0, x.f1, x.f2, x.f3, x.f4, x.f5, x.f6, x.f7, i', h') ∧ pk_ x = true ∧ x.f7.length ≤ 8 ∧ 0 ≤ i' ∧ i' ≤ s.length := by
        intro bb hb
        simp only [spec_l04Packet.j1]
        by_cases k45 : 1 + a = 4 ∨ 1 + a = 5
        · rw [if_pos (hb.2 k45)]
          obtain ⟨tt, i3, g3, e3, c0, c1, r0, r1⟩ := below_some s i2 g2 256 hs q0 q1 (by omega) (by omega)
          obtain ⟨ad, i4, g4, e4, d0, d1, t0, t1⟩ := below_some s i3 g3 64 hs r0 r1 (by omega) (by omega)
          obtain ⟨tg, i5, g5, e5, f0, f1, u0, u1⟩ := below_some s i4 g4 8 hs t0 t1 (by omega) (by omega)
          rw [e3, obs, e4, obs, e5, obs]
          by_cases k5 : 1 + a = 5
          · rw [if_pos k5]
            obtain ⟨l, i6, g6, e6, l0, lw, v0, v1⟩ := data_eq s hs 1 (by omega) (by omega) K (by omega) i5 g5 u0 u1
            rw [e6, obs]
            refine hfin ⟨1 + a, b, tt, ad, 0, tg, 0, l⟩ i6 g6 _ rfl ?_ (by show l.length ≤ 8; omega) v0 v1
            exact pk_of _ _ _ _ _ _ _ _ _ l0 lw ⟨by omega, by omega⟩ ⟨b0, by omega⟩ (.inr (.inr (.inr (.inr (.inl ⟨k5, rfl, by omega, by omega, by omega, by omega, by omega, by omega, rfl, rfl⟩)))))
          · rw [if_neg k5]
            refine hfin ⟨1 + a, b, tt, ad, 0, tg, 0, []⟩ i5 g5 _ rfl ?_ (by simp) u0 u1
            exact pk_of _ _ _ _ _ _ _ _ 0 rfl rfl ⟨by omega, by omega⟩ ⟨b0, by omega⟩ (.inr (.inr (.inr (.inl ⟨by omega, rfl, by omega, by omega, by omega, by omega, by omega, by omega, rfl, rfl⟩))))
        · rw [if_neg (fun e => k45 (hb.1 e)), if_pos (by omega)]
          obtain ⟨tt, i3, g3, e3, c0, c1, r0, r1⟩ := below_some s i2 g2 256 hs q0 q1 (by omega) (by omega)
          obtain ⟨tg, i4, g4, e4, d0, d1, t0, t1⟩ := below_some s i3 g3 8 hs r0 r1 (by omega) (by omega)
          obtain ⟨st, i5, g5, e5, st0, u0, u1⟩ := pick_some s i4 g4 [0, 0, 0, 1, 2] hs t0 t1 (by simp) (by simp)
          obtain ⟨ln, i6, g6, e6, ln0, v0, v1⟩ := pick_some s i5 g5 [8, 0, 20, 64] hs u0 u1 (by simp) (by simp)
          rw [e3, obs, e4, obs, e5, obs, e6, obs]
          simp only [List.mem_cons, List.not_mem_nil, or_false] at st0 ln0
          by_cases s0 : st = 0
          · rw [if_pos s0]
            obtain ⟨n, i7, g7, e7, n0, n1, w0, w1⟩ := below_some s i6 g6 9 hs v0 v1 (by omega) (by omega)
            have hmn : mn ln n ≤ ln ∧ mn ln n ≤ n ∧ 0 ≤ mn ln n := by unfold mn; omega
            obtain ⟨l, i8, g8, e8, l0, lw, y0, y1⟩ := data_eq s hs (mn ln n) hmn.2.2 (by omega) K (by omega) i7 g7 w0 w1
            rw [e7, obs, e8, obs]
            refine hfin ⟨1 + a, b, tt, 0, ln, tg, st, l⟩ i8 g8 _ rfl ?_ (by show l.length ≤ 8; omega) y0 y1
            exact pk_of _ _ _ _ _ _ _ _ _ l0 lw ⟨by omega, by omega⟩ ⟨b0, by omega⟩ (.inr (.inr (.inr (.inr (.inr (⟨by omega, rfl, by omega, by omega, by omega, by omega, by omega, by omega, by omega, by omega, .inr ⟨s0, by omega, by omega⟩⟩))))))
          · rw [if_neg s0]
            refine hfin ⟨1 + a, b, tt, 0, ln, tg, st, []⟩ i6 g6 _ rfl ?_ (by simp) v0 v1
            exact pk_of _ _ _ _ _ _ _ _ 0 rfl rfl ⟨by omega, by omega⟩ ⟨b0, by omega⟩ (.inr (.inr (.inr (.inr (.inr (⟨by omega, rfl, by omega, by omega, by omega, by omega, by omega, by omega, by omega, by omega, .inl rfl⟩))))))
      by_cases k4 : 1 + a = 4
      · rw [if_pos k4]; exact hj _ (by simp; omega)
      · rw [if_neg k4]; exact hj _ (by simp; omega)
set_option maxHeartbeats 800000 in
theorem queue_some (s : List Int) (hs : s.length ≤ 1048576) : ∀ (d K : Nat) (q : List PT) (j i h : Int), 0 ≤ j → j + d = 7 → d + 30 < K → (q.length : Int) = j → (∀ y ∈ q, pk_ y = true ∧ y.f7.length ≤ 8) → 0 ≤ i → i ≤ s.length →
    ∃ r i' h', spec_l16Queue.l0 K q j s i h = some (r, i', h') ∧ r.length ≤ 7 ∧ (∀ y ∈ r, pk_ y = true ∧ y.f7.length ≤ 8) ∧ 0 ≤ i' ∧ i' ≤ s.length := by
  intro d
  induction d with
  | zero =>
    intro K q j i h hj hjd hK hq hp h0 h1
    obtain ⟨K, rfl⟩ : ∃ m, K = m + 1 := ⟨K - 1, by omega⟩
    simp only [spec_l16Queue.l0]
    obtain ⟨a, i1, g1, e1, a0, a1, p0, p1⟩ := below_some s i h 7 hs h0 h1 (by omega) (by omega)
    rw [e1, obs, if_neg (by omega)]
    exact ⟨_, _, _, rfl, by omega, hp, p0, p1⟩
  | succ d ih =>
    intro K q j i h hj hjd hK hq hp h0 h1
    obtain ⟨K, rfl⟩ : ∃ m, K = m + 1 := ⟨K - 1, by omega⟩
    simp only [spec_l16Queue.l0]
    obtain ⟨a, i1, g1, e1, a0, a1, p0, p1⟩ := below_some s i h 7 hs h0 h1 (by omega) (by omega)
    rw [e1, obs]
    by_cases hlt : j < a
    · rw [if_pos hlt]
      obtain ⟨x, i2, g2, e2, x0, x1, q0, q1⟩ := packet_some s hs K (by omega) i1 g1 p0 p1
      rw [e2, obs]
      by_cases k6 : x.f0 = 6
      · rw [if_pos k6]
        obtain ⟨b, i3, g3, e3, b0, b1, r0, r1⟩ := below_some s i2 g2 2 hs q0 q1 (by omega) (by omega)
        rw [e3, obs, if_pos (by omega), show wrap64 (j + 1) = j + 1 by unfold wrap64; omega]
        refine ih K _ _ _ _ (by omega) (by omega) (by omega) (by simp; omega) ?_ r0 r1
        intro y hy
        rcases List.mem_append.1 hy with hy | hy
        · exact hp y hy
        · rw [List.mem_singleton.1 hy]
          refine ⟨?_, x1⟩
          obtain ⟨t1, t2, t3, t4, t5, t6, t7, t8⟩ := pk_to x x0 k6
          exact pk_of _ _ _ _ _ _ _ _ _ rfl t1 ⟨by omega, by omega⟩ t2 (.inr (.inr (.inr (.inr (.inr ⟨k6, t3, by omega, by omega, by omega, by omega, t4, t5, t6, t7, t8⟩)))))
      · rw [if_neg k6, if_pos (by omega), show wrap64 (j + 1) = j + 1 by unfold wrap64; omega]
        refine ih K _ _ _ _ (by omega) (by omega) (by omega) (by simp; omega) ?_ q0 q1
        intro y hy
        rcases List.mem_append.1 hy with hy | hy
        · exact hp y hy
        · rw [List.mem_singleton.1 hy]
          exact ⟨x0, x1⟩
    · rw [if_neg hlt]
      exact ⟨_, _, _, rfl, by omega, hp, p0, p1⟩
theorem credits_some (s : List Int) (hs : s.length ≤ 1048576) : ∀ (d K : Nat) (a b : List Int) (j i h : Int), 0 ≤ j → j + d = 3 → d < K → (a.length : Int) = j → (b.length : Int) = j → (∀ y ∈ a, 0 ≤ y ∧ y ≤ 30) → (∀ y ∈ b, 0 ≤ y ∧ y ≤ 30) → 0 ≤ i → i ≤ s.length →
    ∃ r t i' h', spec_l14Credits.l0 K j s i h a b = some (r, t, i', h') ∧ crs_ r = true ∧ crs_ t = true ∧ 0 ≤ i' ∧ i' ≤ s.length := by
  intro d
  induction d with
  | zero =>
    intro K a b j i h hj hjd hK ha hb pa pb h0 h1
    obtain ⟨K, rfl⟩ : ∃ m, K = m + 1 := ⟨K - 1, by omega⟩
    simp only [spec_l14Credits.l0]
    rw [if_neg (by omega)]
    refine ⟨_, _, _, _, rfl, ?_, ?_, h0, h1⟩
    · unfold crs_; simp only [Bool.and_eq_true, decide_eq_true_eq, List.all_eq_true]; exact ⟨by omega, pa⟩
    · unfold crs_; simp only [Bool.and_eq_true, decide_eq_true_eq, List.all_eq_true]; exact ⟨by omega, pb⟩
  | succ d ih =>
    intro K a b j i h hj hjd hK ha hb pa pb h0 h1
    obtain ⟨K, rfl⟩ : ∃ m, K = m + 1 := ⟨K - 1, by omega⟩
    simp only [spec_l14Credits.l0]
    rw [if_pos (by omega)]
    obtain ⟨x, i1, g1, e1, x0, p0, p1⟩ := pick_some s i h [1, 2, 4, 0, 30] hs h0 h1 (by simp) (by simp)
    obtain ⟨y, i2, g2, e2, y0, q0, q1⟩ := pick_some s i1 g1 [2, 4, 0, 1, 30] hs p0 p1 (by simp) (by simp)
    simp only [List.mem_cons, List.not_mem_nil, or_false] at x0 y0
    rw [e1, obs, if_pos (by omega), e2, obs, if_pos (by omega), show wrap64 (j + 1) = j + 1 by unfold wrap64; omega]
    refine ih K _ _ _ _ _ (by omega) (by omega) (by omega) (by simp; omega) (by simp; omega) ?_ ?_ q0 q1
    · intro z hz
      rcases List.mem_append.1 hz with hz | hz
      · exact pa z hz
      · rw [List.mem_singleton.1 hz]; omega
    · intro z hz
      rcases List.mem_append.1 hz with hz | hz
      · exact pb z hz
      · rw [List.mem_singleton.1 hz]; omega
theorem waiting_some (s : List Int) (hs : s.length ≤ 1048576) (K : Nat) (hK : 5000 < K) : ∃ q h u, spec_DrawWaiting.f K s = some (q, h, u, []) ∧ qok_ q h u [] = true ∧ (∀ y ∈ q, y.f7.length ≤ 8) := by
  unfold spec_DrawWaiting.f
  obtain ⟨h, e⟩ := new_some K s hs (by omega)
  rw [e, obs]
  unfold spec_l17Queue.f spec_l16Queue.f spec_l14Credits.f
  obtain ⟨q, i1, g1, e1, q0, q1, p0, p1⟩ := queue_some s hs 7 K [] 0 0 h (by omega) (by omega) (by omega) rfl (by simp) (by omega) (by omega)
  obtain ⟨a, b, i2, g2, e2, a0, b0, r0, r1⟩ := credits_some s hs 3 K [] [] 0 i1 g1 (by omega) (by omega) (by omega) rfl rfl (by simp) (by simp) p0 p1
  simp only [e1, e2, obs]
  refine ⟨q, a, b, rfl, ?_, fun y hy => (q1 y hy).2⟩
  unfold qok_
  simp only [Bool.and_eq_true, decide_eq_true_eq, List.all_eq_true]
  exact ⟨by omega, by simp, fun y hy => (q1 y hy).1, by simp, a0, b0⟩
theorem l01In_eq (a b c : Int) : spec_l01In.f a b c = some (decide (b ≤ a ∧ a ≤ c)) := by
  unfold spec_l01In.f; by_cases h : a ≥ b <;> simp [h]
theorem swd_eq (l : List Int) (hl : l.length ≤ 1048576) : ∀ d K i, i + d = l.length → d < K → spec_l04Words.l0 K l (i : Int) = some (wds (l.drop i)) := by
  intro d
  induction d with
  | zero =>
    intro K i hi hK
    obtain ⟨K, rfl⟩ : ∃ m, K = m + 1 := ⟨K - 1, by omega⟩
    simp only [spec_l04Words.l0]
    rw [if_neg (by omega), List.drop_of_length_le (by omega)]; rfl
  | succ d ih =>
    intro K i hi hK
    obtain ⟨K, rfl⟩ : ∃ m, K = m + 1 := ⟨K - 1, by omega⟩
    simp only [spec_l04Words.l0]
    rw [if_pos (by omega), if_pos (by omega), l01In_eq, obs, wr ((i : Int) + 1) (by omega) (by omega), show (i : Int) + 1 = ((i + 1 : Nat) : Int) by omega, ih K (i + 1) (by omega) (by omega), rd_nat _ _ (by omega), List.drop_eq_getElem_cons (by omega : i < l.length), if_some_false]
    rfl
theorem spk_eq (x : PT) (hl : x.f7.length ≤ 1048576) (K : Nat) (hK : 1048578 < K) : spec_IsPacket.f K x.f0 x.f1 x.f2 x.f3 x.f4 x.f5 x.f6 x.f7 = some (pk_ x) := by
  obtain ⟨K, rfl⟩ : ∃ m, K = m + 1 := ⟨K - 1, by omega⟩
  unfold spec_IsPacket.f spec_l04Words.f pk_
  have hw := swd_eq x.f7 hl x.f7.length (K + 1) 0 (by omega) (by omega)
  rw [show (((0 : Nat) : Int)) = 0 from rfl, List.drop_zero] at hw
  unfold spec_IsId.f
  rw [hw, l01In_eq, obs, obs, obs]
  generalize wds x.f7 = wd
  obtain ⟨k, fr, tt, ad, ln, tg, st, dt⟩ := x
  have hn0 : 0 ≤ (dt.length : Int) := by omega
  have hn1 : (dt.length : Int) ≤ 1048576 := by simp at hl; omega
  dsimp only at *
  simp only [spec_IsPacket.j0, spec_IsId.f, spec_l04Zero.f, l01In_eq, obs, bsi]
  generalize (dt.length : Int) = n at hn0 hn1 ⊢
  by_cases hf : 0 ≤ fr ∧ fr ≤ 255
  · rw [decide_eq_true hf, if_pos rfl]
    cases wd with
    | false => simp [pkOk]
    | true =>
      simp only [Bool.not_true, Bool.false_eq_true, if_false]
      by_cases h1 : k = 1
      · subst h1
        by_cases hn : 1 ≤ n ∧ n ≤ 8
        · rw [wr (65536 - n) (by omega) (by omega)]
          simp only [eq_self, if_true, Bool.false_eq_true, if_false, bsi, if_some_false, if_p_false, pkOk]
          congr 1
          rw [Bool.eq_iff_iff]
          simp
          omega
        · simp only [decide_eq_false hn, if_true]
          simp [pkOk]
          omega
      · rw [if_neg h1]
        by_cases h2 : k = 2
        · subst h2
          simp only [eq_self, if_true, Bool.false_eq_true, if_false, bsi, if_some_false, if_p_false, pkOk]
          congr 1
          rw [Bool.eq_iff_iff]
          simp
          omega
        · rw [if_neg h2]
          by_cases h3 : k = 3
          · subst h3
            by_cases hn : 1 ≤ ln ∧ ln ≤ 64
            · rw [wr (65536 - ln) (by omega) (by omega)]
              simp only [eq_self, if_true, Bool.false_eq_true, if_false, bsi, if_some_false, if_p_false, pkOk]
              congr 1
              rw [Bool.eq_iff_iff]
              simp
              omega
            · simp only [decide_eq_false hn, if_true]
              simp [pkOk]
              omega
          · rw [if_neg h3]
            by_cases h4 : k = 4
            · subst h4
              simp only [eq_self, if_true, Bool.false_eq_true, if_false, bsi, if_some_false, if_p_false, pkOk]
              congr 1
              rw [Bool.eq_iff_iff]
              simp
              omega
            · rw [if_neg h4]
              by_cases h5 : k = 5
              · subst h5
                simp only [eq_self, if_true, Bool.false_eq_true, if_false, bsi, if_some_false, if_p_false, pkOk]
                congr 1
                rw [Bool.eq_iff_iff]
                simp
                omega
              · rw [if_neg h5]
                by_cases h6 : k = 6
                · subst h6
                  have hmn : mn 8 ln = if ln < 8 then ln else 8 := rfl
                  by_cases hz : n = 0
                  · subst hz
                    simp only [eq_self, if_true, Bool.false_eq_true, if_false, bsi, if_some_false, if_p_false, pkOk]
                    congr 1
                    rw [Bool.eq_iff_iff]
                    simp
                    omega
                  · simp only [if_neg hz]
                    simp only [eq_self, if_true, Bool.false_eq_true, if_false, bsi, if_some_false, if_p_false, pkOk]
                    congr 1
                    rw [Bool.eq_iff_iff]
                    simp
                    rw [hmn]
                    split <;> omega
                · rw [if_neg h6]
                  simp [pkOk, h1, h2, h3, h4, h5, h6]
  · rw [decide_eq_false hf, if_neg (by simp)]
    simp [pkOk]
    omega
theorem scl_eq (x : PT) (hl : x.f7.length ≤ 1048576) (K : Nat) (hK : 1048579 < K) : spec_ClassOf.f K x.f0 x.f1 x.f2 x.f3 x.f4 x.f5 x.f6 x.f7 = some (cl_ x) := by
  obtain ⟨K, rfl⟩ : ∃ m, K = m + 1 := ⟨K - 1, by omega⟩
  unfold spec_ClassOf.f cl_
  rw [spk_eq x hl _ (by omega), obs]
  by_cases h : pk_ x = true
  · rw [if_pos h, if_pos h]
    simp only [spec_ClassOf.j0]
    by_cases h1 : x.f0 = 1
    · simp [h1]
    · by_cases h2 : x.f0 = 2
      · simp [h2]
      · by_cases h6 : x.f0 = 6
        · simp [h6]
        · simp [h1, h2, h6]
  · rw [if_neg h, if_neg h]
theorem len3 (l : List Int) (h : l.length = 3) : ∃ a b c, l = [a, b, c] := by
  match l, h with
  | [a, b, c], _ => exact ⟨a, b, c, rfl⟩
theorem crs3 (a b c : Int) : crs_ [a, b, c] = (decide (0 ≤ a ∧ a ≤ 30) && (decide (0 ≤ b ∧ b ≤ 30) && decide (0 ≤ c ∧ c ≤ 30))) := by
  unfold crs_
  simp only [List.length_cons, List.length_nil, List.all_cons, List.all_nil, Bool.and_true]
  rfl
theorem scr_eq (h u : List Int) (K : Nat) (hK : 10 < K) : spec_CreditsOk.f K h u = some (crs_ h && crs_ u) := by
  obtain ⟨K, rfl⟩ : ∃ m, K = m + 5 := ⟨K - 5, by omega⟩
  unfold spec_CreditsOk.f
  simp only [spec_CreditsOk.j0]
  by_cases h3 : h.length = 3
  · by_cases u3 : u.length = 3
    · obtain ⟨a, b, c, rfl⟩ := len3 h h3
      obtain ⟨d, e, f, rfl⟩ := len3 u u3
      have w1 : wrap64 (0 + 1) = 1 := by rw [wr _ (by omega) (by omega)]; rfl
      have w2 : wrap64 (1 + 1) = 2 := by rw [wr _ (by omega) (by omega)]; rfl
      have w3 : wrap64 (2 + 1) = 3 := by rw [wr _ (by omega) (by omega)]; rfl
      have r0 : ∀ x y z : Int, rd [x, y, z] 0 = x := fun _ _ _ => rfl
      have r1 : ∀ x y z : Int, rd [x, y, z] 1 = y := fun _ _ _ => rfl
      have r2 : ∀ x y z : Int, rd [x, y, z] 2 = z := fun _ _ _ => rfl
      rw [crs3, crs3]
      simp only [spec_CreditsOk.l0, l01In_eq, obs, w1, w2, w3, r0, r1, r2]
      generalize decide (0 ≤ a ∧ a ≤ 30) = ba
      generalize decide (0 ≤ b ∧ b ≤ 30) = bb
      generalize decide (0 ≤ c ∧ c ≤ 30) = bc
      generalize decide (0 ≤ d ∧ d ≤ 30) = bd
      generalize decide (0 ≤ e ∧ e ≤ 30) = be
      generalize decide (0 ≤ f ∧ f ≤ 30) = bf
      cases ba <;> cases bb <;> cases bc <;> cases bd <;> cases be <;> cases bf <;> simp
    · rw [if_pos (by omega)]
      have : crs_ u = false := by unfold crs_; rw [decide_eq_false u3]; rfl
      rw [this]
      simp; omega
  · rw [if_neg (by omega)]
    have : crs_ h = false := by unfold crs_; rw [decide_eq_false h3]; rfl
    rw [this]
    simp
theorem scs_eq (h u : List Int) (x : PT) (hx : pk_ x = true) (hh : crs_ h = true) (hu : crs_ u = true) (hl : x.f7.length ≤ 1048576) (K : Nat) (hK : 1048600 < K) : spec_CanSend.f K h u x.f0 x.f1 x.f2 x.f3 x.f4 x.f5 x.f6 x.f7 = some (cs_ h u x) := by
  have hc := cl_range x hx
  have h3 := crs_len hh
  have u3 := crs_len hu
  unfold spec_CanSend.f spec_PacketUnits.f cs_ un_
  rw [scl_eq x hl K (by omega), obs, scr_eq h u K (by omega), obs, hh, hu, if_pos (show (true && true) = true from rfl), if_pos (by omega), if_pos (by omega), if_pos (by omega), spk_eq x hl K (by omega), obs, hx, if_pos rfl, obs]
  by_cases hr : rd h (cl_ x) ≥ 1
  · rw [if_pos hr, if_pos (by omega), decide_eq_true hr]; rfl
  · rw [if_neg hr, decide_eq_false hr]; rfl
theorem within_eq (a b c : Int) : impl_within.f a b c = some (decide (b ≤ a ∧ a ≤ c)) := by
  unfold impl_within.f; by_cases h : a ≥ b <;> simp [h]
theorem cont_words (l : List Int) : slices_ContainsFunc_int_int_impl_Packet_dataOk_1.f l = some (!wds l) := by
  unfold slices_ContainsFunc_int_int_impl_Packet_dataOk_1.f
  congr 1
  unfold wds
  induction l with
  | nil => rfl
  | cons x xs ih =>
    rw [List.any_cons, List.all_cons, ih]
    unfold impl_Packet_dataOk_1.f impl_isWord.f
    rw [within_eq, obs, obs]
    simp
theorem ipk_eq (x : PT) (hl : x.f7.length ≤ 1048576) (K : Nat) (hK : 8 < K) : impl_IsPacket.f K x.f0 x.f1 x.f2 x.f3 x.f4 x.f5 x.f6 x.f7 = some (pk_ x) := by
  obtain ⟨K, rfl⟩ : ∃ m, K = m + 5 := ⟨K - 5, by omega⟩
  unfold impl_IsPacket.f pk_
  obtain ⟨k, fr, tt, ad, ln, tg, st, dt⟩ := x
  have hn0 : 0 ≤ (dt.length : Int) := by omega
  have hn1 : (dt.length : Int) ≤ 1048576 := by simp at hl; omega
  dsimp only at *
  simp only [impl_IsPacket.j0, impl_IsPacket.j1, impl_IsPacket.j2, impl_Packet_dataOk.f, impl_Packet_dataOk.j0, impl_Packet_addressOk.f, impl_Packet_addressOk.j0, impl_Packet_words.f, impl_Packet_lengthOk.f, impl_IsId.f, within_eq, cont_words, obs, bsi]
  generalize wds dt = wd
  generalize (dt.length : Int) = n at hn0 hn1 ⊢
  by_cases hk : 1 ≤ k ∧ k ≤ 6
  · rw [decide_eq_true hk, if_pos rfl]
    by_cases hf : 0 ≤ fr ∧ fr ≤ 255
    · rw [decide_eq_true hf, if_pos rfl]
      have hc : k = 1 ∨ k = 2 ∨ k = 3 ∨ k = 4 ∨ k = 5 ∨ k = 6 := by omega
      by_cases ha : 0 ≤ ad ∧ ad ≤ 65535
      · rw [wr (65536 - ad) (by omega) (by omega)]
        rcases hc with rfl | rfl | rfl | rfl | rfl | rfl
        all_goals by_cases hst : st = 0
        all_goals
          simp only [hst, Int.reduceLE, Int.reduceEq, Int.reduceBEq, and_true, true_and, and_false, false_and, decide_true, decide_false, if_true, if_false, Bool.false_eq_true, Bool.not_true, Bool.not_false, eq_self, obs, bsi, if_some_false, if_p_false, if_true_false, pkOk]
          congr 1
          rw [Bool.eq_iff_iff]
          cases wd <;> simp <;> omega
      · rcases hc with rfl | rfl | rfl | rfl | rfl | rfl
        all_goals by_cases hst : st = 0
        all_goals
          simp only [hst, decide_eq_false ha, Int.reduceLE, Int.reduceEq, Int.reduceBEq, and_true, true_and, and_false, false_and, decide_true, decide_false, if_true, if_false, Bool.false_eq_true, Bool.not_true, Bool.not_false, eq_self, obs, bsi, if_some_false, if_p_false, if_true_false, pkOk]
          congr 1
          rw [Bool.eq_iff_iff]
          cases wd <;> simp <;> omega
    · rw [decide_eq_false hf, if_neg (by simp)]
      simp [pkOk, hf]
  · rw [decide_eq_false hk, if_neg (by simp)]
    simp [pkOk, hk]
theorem icl_eq (x : PT) (hl : x.f7.length ≤ 1048576) (K : Nat) (hK : 10 < K) : impl_ClassOf.f K x.f0 x.f1 x.f2 x.f3 x.f4 x.f5 x.f6 x.f7 = some (cl_ x) := by
  unfold impl_ClassOf.f cl_
  rw [ipk_eq x hl _ (by omega), obs]
  obtain ⟨K, rfl⟩ : ∃ m, K = m + 1 := ⟨K - 1, by omega⟩
  by_cases h : pk_ x = true
  · rw [if_pos h, if_pos h]
    unfold impl_classOf.f
    simp only [impl_classOf.j0]
    by_cases h1 : x.f0 = 1
    · simp [h1]
    · by_cases h2 : x.f0 = 2
      · simp [h2]
      · by_cases h6 : x.f0 = 6
        · simp [h6]
        · simp [h1, h2, h6]
  · rw [if_neg h, if_neg h]
theorem imay_eq (q x : PT) (hq : q.f7.length ≤ 1048576) (hl : x.f7.length ≤ 1048576) (K : Nat) (hK : 15 < K) : impl_MayPass.f K q.f0 q.f1 q.f2 q.f3 q.f4 q.f5 q.f6 q.f7 x.f0 x.f1 x.f2 x.f3 x.f4 x.f5 x.f6 x.f7 = some (may_ q x) := by
  obtain ⟨K, rfl⟩ : ∃ m, K = m + 1 := ⟨K - 1, by omega⟩
  unfold impl_MayPass.f may_
  rw [ipk_eq q hq _ (by omega), ipk_eq x hl _ (by omega), icl_eq x hl _ (by omega), obs, obs, obs]
  simp only [impl_MayPass.j0]
  rw [icl_eq q hq K (by omega), icl_eq x hl K (by omega), obs, obs]
  by_cases h1 : pk_ q = true
  · rw [if_pos h1, h1, Bool.true_and]
    by_cases h2 : pk_ x = true
    · rw [if_pos h2, h2, Bool.true_and]
      by_cases h0 : cl_ x = 0
      · rw [if_pos (by simp [h0]), h0]; simp
      · rw [if_neg (by simp [h0]), decide_eq_false h0]
        by_cases c1 : cl_ q = 2
        · rw [if_pos c1, if_pos c1]
          by_cases c2 : cl_ x = 2
          · rw [if_pos c2, if_pos c2]
            by_cases c3 : q.f2 = x.f2
            · rw [if_pos c3, if_pos c3]; simp
            · rw [if_neg c3, if_neg c3]; simp
          · rw [if_neg c2, if_neg c2]; simp
        · rw [if_neg c1, if_neg c1]; simp
    · rw [if_neg h2, Bool.eq_false_iff.2 h2]; simp
  · rw [if_neg h1, Bool.eq_false_iff.2 h1]; simp
theorem cont_cr (l : List Int) : slices_ContainsFunc_int_int_impl_areCredits_1.f l = some (!l.all fun x => decide (0 ≤ x ∧ x ≤ 30)) := by
  unfold slices_ContainsFunc_int_int_impl_areCredits_1.f
  congr 1
  induction l with
  | nil => rfl
  | cons x xs ih =>
    rw [List.any_cons, List.all_cons, ih]
    unfold impl_areCredits_1.f
    rw [within_eq, obs]
    simp
theorem iacr_eq (l : List Int) : impl_areCredits.f l = some (crs_ l) := by
  unfold impl_areCredits.f crs_
  rw [cont_cr, obs]
  by_cases h : l.length = 3
  · rw [if_pos (by omega), decide_eq_true h]; simp
  · rw [if_neg (by omega), decide_eq_false h]; simp
theorem iapk_eq (l : List PT) (hy : ∀ y ∈ l, y.f7.length ≤ 1048576) : impl_arePackets.f l = some (l.all pk_) := by
  have h1 : ∀ x ∈ l, impl_arePackets_1.f 20 x.f0 x.f1 x.f2 x.f3 x.f4 x.f5 x.f6 x.f7 = some (!pk_ x) := fun x hx => by
    unfold impl_arePackets_1.f
    rw [ipk_eq x (hy x hx) 20 (by omega), obs]
  unfold impl_arePackets.f impl_Packet_impl_arePackets_1.f
  rw [if_pos (by rw [List.all_eq_true]; intro x hx; rw [h1 x hx]; rfl), obs]
  congr 1
  clear hy
  induction l with
  | nil => rfl
  | cons x xs ih =>
    rw [List.any_cons, List.all_cons, h1 x (by simp), Bool.not_or, ih (fun y hy => h1 y (by simp [hy]))]
    simp
theorem iqo_eq (w s : List PT) (h u : List Int) (wy : ∀ y ∈ w, y.f7.length ≤ 1048576) (sy : ∀ y ∈ s, y.f7.length ≤ 1048576) : impl_QueueOk.f w h u s = some (qok_ w h u s) := by
  unfold impl_QueueOk.f impl_CreditsOk.f qok_
  simp only [iapk_eq w wy, iapk_eq s sy, iacr_eq, obs, bsi, if_some_false, if_p_false, Bool.decide_eq_true]
theorem ipas_eq (l : List PT) (i : Nat) (hi : i < l.length) (hy : ∀ y ∈ l, y.f7.length ≤ 1048576) (K : Nat) (hK : 10 < K) : impl_passes.f K l (i : Int) = some (pas_ l i l[i]) := by
  have hyi := hy _ (List.getElem_mem hi)
  have h1 : ∀ x ∈ l.take i, impl_passes_1.f 20 x.f0 x.f1 x.f2 x.f3 x.f4 x.f5 x.f6 x.f7 l (i : Int) = some (pk_ x && !may_ l[i] x) := fun x hx => by
    have hx2 := hy x (List.mem_of_mem_take hx)
    unfold impl_passes_1.f
    rw [ipk_eq x hx2 20 (by omega), obs, if_pos (show (0 : Int) ≤ (i : Int) by omega), if_pos (show (i : Int) < (l.length : Int) by omega), rd_pk _ _ hi, imay_eq _ _ hyi hx2 20 (by omega), obs, if_some_false]
  have h2 : ∀ m : List PT, (∀ x ∈ m, impl_passes_1.f 20 x.f0 x.f1 x.f2 x.f3 x.f4 x.f5 x.f6 x.f7 l (i : Int) = some (pk_ x && !may_ l[i] x)) → impl_Packet_impl_passes_1.f m l (i : Int) = some (!m.all (fun p => !pk_ p || may_ l[i] p)) := by
    intro m hm
    unfold impl_Packet_impl_passes_1.f
    rw [if_pos (by rw [List.all_eq_true]; intro x hx; rw [hm x hx]; rfl)]
    congr 1
    induction m with
    | nil => rfl
    | cons x xs ih =>
      rw [List.any_cons, List.all_cons, hm x (by simp), ih (fun y hy => hm y (by simp [hy]))]
      simp
  unfold impl_passes.f pas_
  rw [if_pos (show (0 : Int) ≤ (i : Int) by omega), if_pos (show (i : Int) < (l.length : Int) by omega), rd_pk _ _ hi, ipk_eq _ hyi K (by omega), obs]
  cases pk_ l[i]
  · simp
  · rw [if_pos rfl, if_pos (show (i : Int) ≤ (l.length : Int) by omega), Int.toNat_natCast, h2 _ h1, obs]; simp
theorem ips_eq (l : List PT) (hl : l.length ≤ 12) (hy : ∀ y ∈ l, y.f7.length ≤ 1048576) (K : Nat) (hK : 100 < K) : impl_PassersOf.f K l = some (passers_ l) := by
  have k0 : ∀ (d K i : Nat) (out : List Int), i + d = l.length → out.length ≤ i → d + 20 < K → impl_PassersOf.l0 K l out (l.length : Int) (i : Int) = some (out ++ psf l d i) := by
    intro d
    induction d with
    | zero =>
      intro K i out hi ho hK
      obtain ⟨K, rfl⟩ : ∃ m, K = m + 1 := ⟨K - 1, by omega⟩
      simp only [impl_PassersOf.l0]
      rw [if_neg (by omega)]; simp [psf]
    | succ d ih =>
      intro K i out hi ho hK
      obtain ⟨K, rfl⟩ : ∃ m, K = m + 1 := ⟨K - 1, by omega⟩
      have hlt : i < l.length := by omega
      simp only [impl_PassersOf.l0]
      rw [if_pos (by omega), ipas_eq l i hlt hy K (by omega), obs, wr ((i : Int) + 1) (by omega) (by omega), show (i : Int) + 1 = ((i + 1 : Nat) : Int) by omega, if_pos (show out.length < 17592186044416 by omega), ih K (i + 1) _ (by omega) (by simp; omega) (by omega), ih K (i + 1) _ (by omega) (by omega) (by omega), psf_succ, rd_pk _ _ hlt]
      cases pas_ l i l[i] <;> simp
  unfold impl_PassersOf.f passers_
  have := k0 l.length K 0 [] (by omega) (by simp) (by omega)
  simpa using this
theorem ics_eq (h u : List Int) (x : PT) (hx : pk_ x = true) (hh : crs_ h = true) (hu : crs_ u = true) (hl : x.f7.length ≤ 1048576) (K : Nat) (hK : 30 < K) : impl_CanSend.f K h u x.f0 x.f1 x.f2 x.f3 x.f4 x.f5 x.f6 x.f7 = some (cs_ h u x) := by
  have hc := cl_range x hx
  have h3 := crs_len hh
  have u3 := crs_len hu
  obtain ⟨K, rfl⟩ : ∃ m, K = m + 1 := ⟨K - 1, by omega⟩
  have hcr : impl_CreditsOk.f h u = some true := by unfold impl_CreditsOk.f; rw [iacr_eq, iacr_eq, hh, hu]; rfl
  unfold impl_CanSend.f cs_ un_
  rw [hcr, obs, if_pos rfl, ipk_eq x hl _ (by omega), obs, hx]
  simp only [impl_CanSend.j0, impl_PacketUnits.f]
  rw [icl_eq x hl K (by omega), obs, ipk_eq x hl K (by omega), obs, hx]
  simp only [Bool.not_true, Bool.false_eq_true, if_false, if_true, obs]
  rw [if_pos (by omega), if_pos (by omega)]
  by_cases hr : rd h (cl_ x) ≥ 1
  · rw [if_pos hr, if_pos (by omega), decide_eq_true hr]; rfl
  · rw [if_neg hr, decide_eq_false hr]; rfl
def nx_ (l : List PT) (h u : List Int) : List Int → Int
  | [] => -1
  | p :: ps => if cs_ h u (rd_T33 l p) = true then p else nx_ l h u ps
theorem nx_cons (l : List PT) (h u : List Int) (p : Int) (ps : List Int) : nx_ l h u (p :: ps) = if cs_ h u (rd_T33 l p) = true then p else nx_ l h u ps := rfl
theorem rd_all (l : List PT) (p : Int) (h0 : 0 ≤ p) (h1 : p < (l.length : Int)) : rd_T33 l p ∈ l := by
  obtain ⟨j, rfl⟩ : ∃ j : Nat, p = (j : Int) := ⟨p.toNat, by omega⟩
  rw [rd_pk _ _ (by omega)]; exact List.getElem_mem _
theorem inx_eq (w s : List PT) (h u : List Int) (wy : ∀ y ∈ w, y.f7.length ≤ 1048576) (wp : ∀ y ∈ w, pk_ y = true) (hh : crs_ h = true) (hu : crs_ u = true) (ps : List Int) (hps : ∀ p ∈ ps, 0 ≤ p ∧ p < (w.length : Int)) (hl : ps.length ≤ 100) :
    ∀ (d K i : Nat), i + d = ps.length → d + 100 < K → impl_Queue_next.l0 K ps (ps.length : Int) (i : Int) w h u s = some (nx_ w h u (ps.drop i)) := by
  intro d
  induction d with
  | zero =>
    intro K i hi hK
    obtain ⟨K, rfl⟩ : ∃ m, K = m + 1 := ⟨K - 1, by omega⟩
    simp only [impl_Queue_next.l0]
    rw [if_neg (by omega), List.drop_of_length_le (by omega)]; rfl
  | succ d ih =>
    intro K i hi hK
    obtain ⟨K, rfl⟩ : ∃ m, K = m + 1 := ⟨K - 1, by omega⟩
    have hlt : i < ps.length := by omega
    have hp := hps _ (List.getElem_mem hlt)
    have hm := rd_all w ps[i] hp.1 hp.2
    simp only [impl_Queue_next.l0]
    rw [if_pos (by omega), if_pos (by omega), if_pos (by omega), rd_nat _ _ hlt, if_pos hp.1, if_pos hp.2, ics_eq h u _ (wp _ hm) hh hu (wy _ hm) K (by omega), obs, wr ((i : Int) + 1) (by omega) (by omega), show (i : Int) + 1 = ((i + 1 : Nat) : Int) by omega, ih K (i + 1) (by omega) (by omega), List.drop_eq_getElem_cons hlt]
    rw [nx_cons]
    cases cs_ h u (rd_T33 w ps[i]) <;> simp
theorem passers_facts (w : List PT) (hw : w.length ≤ 12) : (∀ p ∈ passers_ w, 0 ≤ p ∧ p < (w.length : Int)) ∧ (passers_ w).length ≤ 100 := by
  refine ⟨fun p hp => ?_, ?_⟩
  · have := psf_in w w.length 0 p hp; omega
  · have := psf_len w w.length 0; unfold passers_; omega
def sp1_ (h : List Int) (x : PT) : List Int := h.set (cl_ x).toNat (rd h (cl_ x) - 1)
def sp2_ (u : List Int) (x : PT) : List Int := u.set (cl_ x).toNat (rd u (cl_ x) - un_ x)
def fw_ (w : List PT) (h u : List Int) (s : List PT) : Bool × List PT × List Int × List Int × List PT :=
  if nx_ w h u (passers_ w) < 0 then (false, w, h, u, s) else if (s.length : Int) = 1000 then (false, w, h, u, s) else
    (true, w.eraseIdx (nx_ w h u (passers_ w)).toNat, sp1_ h (rd_T33 w (nx_ w h u (passers_ w))), sp2_ u (rd_T33 w (nx_ w h u (passers_ w))), s ++ [rd_T33 w (nx_ w h u (passers_ w))])
def fa_ : Nat → List PT → List Int → List Int → List PT → List PT × List Int × List Int × List PT
  | 0, w, h, u, s => (w, h, u, s)
  | n + 1, w, h, u, s => if (fw_ w h u s).1 = true then fa_ n (fw_ w h u s).2.1 (fw_ w h u s).2.2.1 (fw_ w h u s).2.2.2.1 (fw_ w h u s).2.2.2.2 else (w, h, u, s)
theorem fa_succ (n : Nat) (w : List PT) (h u : List Int) (s : List PT) : fa_ (n + 1) w h u s = if (fw_ w h u s).1 = true then fa_ n (fw_ w h u s).2.1 (fw_ w h u s).2.2.1 (fw_ w h u s).2.2.2.1 (fw_ w h u s).2.2.2.2 else (w, h, u, s) := rfl
theorem nx_or (w : List PT) (h u : List Int) : ∀ ps : List Int, (nx_ w h u ps = -1 ∧ ∀ p ∈ ps, cs_ h u (rd_T33 w p) = false) ∨ (nx_ w h u ps ∈ ps ∧ cs_ h u (rd_T33 w (nx_ w h u ps)) = true) := by
  intro ps
  induction ps with
  | nil => exact .inl ⟨rfl, fun p hp => by simp at hp⟩
  | cons p ps ih =>
    rw [nx_cons]
    by_cases hc : cs_ h u (rd_T33 w p) = true
    · rw [if_pos hc]; exact .inr ⟨List.mem_cons_self, hc⟩
    · rw [if_neg hc]
      rcases ih with ⟨h1, h2⟩ | ⟨h1, h2⟩
      · refine .inl ⟨h1, fun q hq => ?_⟩
        rcases List.mem_cons.1 hq with rfl | hq
        · exact Bool.eq_false_iff.2 hc
        · exact h2 q hq
      · exact .inr ⟨List.mem_cons_of_mem _ h1, h2⟩
theorem un_range (x : PT) (hl : x.f7.length ≤ 1048576) : 0 ≤ un_ x ∧ un_ x ≤ 1048577 := by
  unfold un_
  rw [wr ((x.f7.length : Int) + 3) (by omega) (by omega)]
  have h1 : 0 ≤ Int.tdiv ((x.f7.length : Int) + 3) 4 := Int.tdiv_nonneg (by omega) (by omega)
  have h2 : Int.tdiv ((x.f7.length : Int) + 3) 4 = ((x.f7.length : Int) + 3) / 4 := Int.tdiv_eq_ediv_of_nonneg (by omega)
  rw [wr _ (by omega) (by omega)]
  omega
theorem crs_rd {l : List Int} (h : crs_ l = true) (c : Int) (h0 : 0 ≤ c) (h1 : c ≤ 2) : 0 ≤ rd l c ∧ rd l c ≤ 30 := by
  have h3 := crs_len h
  unfold crs_ at h
  simp only [Bool.and_eq_true, decide_eq_true_eq, List.all_eq_true] at h
  obtain ⟨j, rfl⟩ : ∃ j : Nat, c = (j : Int) := ⟨c.toNat, by omega⟩
  rw [rd_nat _ _ (by omega)]
  exact h.2 _ (List.getElem_mem _)
theorem crs_set {l : List Int} (h : crs_ l = true) (j : Nat) (v : Int) (h0 : 0 ≤ v) (h1 : v ≤ 30) : crs_ (l.set j v) = true := by
  unfold crs_ at h ⊢
  simp only [Bool.and_eq_true, decide_eq_true_eq, List.all_eq_true] at h ⊢
  refine ⟨by rw [List.length_set]; exact h.1, fun x hx => ?_⟩
  rcases List.mem_or_eq_of_mem_set hx with hx | rfl
  · exact h.2 x hx
  · exact ⟨h0, h1⟩
theorem ispend_eq (h u : List Int) (x : PT) (hx : pk_ x = true) (hh : crs_ h = true) (hu : crs_ u = true) (hl : x.f7.length ≤ 1048576) (hc : cs_ h u x = true) (K : Nat) (hK : 40 < K) :
    impl_SpendCredits.f K h u x.f0 x.f1 x.f2 x.f3 x.f4 x.f5 x.f6 x.f7 = some (sp1_ h x, sp2_ u x, true) := by
  have h3 := crs_len hh
  have u3 := crs_len hu
  have hcl := cl_range x hx
  have a1 := crs_rd hh (cl_ x) hcl.1 hcl.2
  have a2 := crs_rd hu (cl_ x) hcl.1 hcl.2
  have hun := un_range x hl
  have hc2 := hc
  unfold cs_ at hc2
  simp only [Bool.and_eq_true, decide_eq_true_eq] at hc2
  unfold impl_SpendCredits.f impl_copyCredits.f slices_Clone_int_int.f
  rw [if_pos (by omega), if_pos (by omega)]
  simp only [obs]
  rw [ics_eq h u x hx hh hu hl K (by omega), obs, hc, if_pos rfl, icl_eq x hl K (by omega), obs, if_pos hcl.1, if_pos (by omega), if_pos (by omega)]
  unfold impl_PacketUnits.f
  rw [ipk_eq x hl K (by omega), obs, hx, if_pos rfl, obs]
  unfold sp1_ sp2_
  have hu2 : wrap64 (Int.tdiv (wrap64 ((x.f7.length : Int) + 3)) 4) = un_ x := rfl
  rw [hu2, wr (rd h (cl_ x) - 1) (by omega) (by omega), wr (rd u (cl_ x) - un_ x) (by omega) (by omega)]
theorem fw_eq (w s : List PT) (h u : List Int) (wy : ∀ y ∈ w, y.f7.length ≤ 1048576) (hq : qok_ w h u s = true) (K : Nat) (hK : 1000 < K) : impl_Queue_forward.f K w h u s = some (fw_ w h u s) := by
  obtain ⟨a, b, c, d, e, f⟩ := qok_facts hq
  obtain ⟨p1, p2⟩ := passers_facts w a
  unfold impl_Queue_forward.f fw_ impl_Queue_next.f
  rw [ips_eq w a wy K (by omega), obs]
  have hn := inx_eq w s h u wy c e f (passers_ w) p1 p2 (passers_ w).length K 0 (by omega) (by omega)
  rw [List.drop_zero] at hn
  rw [show ((0 : Nat) : Int) = 0 from rfl] at hn
  rw [hn, obs]
  by_cases h0 : nx_ w h u (passers_ w) < 0
  · rw [if_pos h0, if_pos h0]
  · rw [if_neg h0, if_neg h0]
    by_cases h1 : (s.length : Int) = 1000
    · rw [if_pos h1, if_pos h1]
    · rw [if_neg h1, if_neg h1]
      rcases nx_or w h u (passers_ w) with ⟨hx, _⟩ | ⟨hx, hc⟩
      · omega
      · have hr := p1 _ hx
        have hm := rd_all w _ hr.1 hr.2
        rw [if_pos hr.2, if_pos (show s.length < 1099511627776 by omega), ispend_eq h u _ (c _ hm) e f (wy _ hm) hc K (by omega), obs]
theorem fw_ok (w s : List PT) (h u : List Int) (wy : ∀ y ∈ w, y.f7.length ≤ 1048576) (hq : qok_ w h u s = true) (hf : (fw_ w h u s).1 = true) :
    ∃ i : Nat, ∃ hi : i < w.length, (i : Int) ∈ passers_ w ∧ cs_ h u w[i] = true ∧ fw_ w h u s = (true, w.eraseIdx i, sp1_ h w[i], sp2_ u w[i], s ++ [w[i]]) ∧ qok_ (w.eraseIdx i) (sp1_ h w[i]) (sp2_ u w[i]) (s ++ [w[i]]) = true := by
  obtain ⟨a, b, c, d, e, f⟩ := qok_facts hq
  obtain ⟨p1, p2⟩ := passers_facts w a
  by_cases h0 : nx_ w h u (passers_ w) < 0
  · unfold fw_ at hf; rw [if_pos h0] at hf; cases hf
  by_cases h1 : (s.length : Int) = 1000
  · unfold fw_ at hf; rw [if_neg h0, if_pos h1] at hf; cases hf
  rcases nx_or w h u (passers_ w) with ⟨hx, _⟩ | ⟨hx, hc⟩
  · omega
  have hr := p1 _ hx
  obtain ⟨i, hi⟩ : ∃ i : Nat, nx_ w h u (passers_ w) = (i : Int) := ⟨(nx_ w h u (passers_ w)).toNat, by omega⟩
  have hil : i < w.length := by omega
  rw [hi, rd_pk _ _ hil] at hc
  rw [hi] at hx
  have hm := List.getElem_mem hil
  have hcl := cl_range w[i] (c _ hm)
  have a1 := crs_rd e (cl_ w[i]) hcl.1 hcl.2
  have a2 := crs_rd f (cl_ w[i]) hcl.1 hcl.2
  have hun := un_range w[i] (wy _ hm)
  have hc2 := hc
  unfold cs_ at hc2
  simp only [Bool.and_eq_true, decide_eq_true_eq] at hc2
  refine ⟨i, hil, hx, hc, ?_, ?_⟩
  · unfold fw_; rw [if_neg h0, if_neg h1, hi, rd_pk _ _ hil, Int.toNat_natCast]
  · unfold qok_
    simp only [Bool.and_eq_true, decide_eq_true_eq, List.all_eq_true]
    refine ⟨?_, ?_, fun y hy => c y (List.mem_of_mem_eraseIdx hy), fun y hy => ?_, crs_set e _ _ (by omega) (by omega), crs_set f _ _ (by omega) (by omega)⟩
    · rw [List.length_eraseIdx_of_lt hil]; omega
    · rw [List.length_append, List.length_singleton]; omega
    · rcases List.mem_append.1 hy with hy | hy
      · exact d y hy
      · rw [List.mem_singleton.1 hy]; exact c _ hm
theorem fa_eq (n : Nat) : ∀ (w s : List PT) (h u : List Int) (K : Nat), w.length = n → (∀ y ∈ w, y.f7.length ≤ 1048576) → qok_ w h u s = true → n + 1100 < K → impl_ForwardAll.l0 K w h u s = some (fa_ n w h u s) := by
  induction n with
  | zero =>
    intro w s h u K hn wy hq hK
    obtain ⟨K, rfl⟩ : ∃ m, K = m + 1 := ⟨K - 1, by omega⟩
    obtain rfl : w = [] := List.eq_nil_of_length_eq_zero hn
    simp only [impl_ForwardAll.l0]
    rw [fw_eq [] s h u wy hq K (by omega), obs]
    rfl
  | succ n ih =>
    intro w s h u K hn wy hq hK
    obtain ⟨K, rfl⟩ : ∃ m, K = m + 1 := ⟨K - 1, by omega⟩
    simp only [impl_ForwardAll.l0]
    rw [fw_eq w s h u wy hq K (by omega), obs, fa_succ]
    by_cases hf : (fw_ w h u s).1 = true
    · obtain ⟨i, hi, _, _, he, hk⟩ := fw_ok w s h u wy hq hf
      rw [if_pos hf, if_pos hf, he]
      exact ih _ _ _ _ K (by rw [List.length_eraseIdx_of_lt hi]; omega) (fun y hy => wy y (List.mem_of_mem_eraseIdx hy)) hk (by omega)
    · rw [if_neg hf, if_neg hf]
      unfold fw_ at hf ⊢
      split
      · rfl
      · next h0 =>
        split
        · rfl
        · next h1 => rw [if_neg h0, if_neg h1] at hf; exact absurd rfl hf
theorem icopy_eq (K : Nat) (l : List PT) (hl : l.length ≤ 1048576) (hy : ∀ y ∈ l, y.f7.length ≤ 1048576) (hK : 1048580 < K) : impl_copyPackets.f K l = some l := by
  unfold impl_copyPackets.f
  have key : ∀ (d K i : Nat), i + d = l.length → d < K → impl_copyPackets.l0 K (l.take i) l (l.length : Int) (i : Int) = some l := by
    intro d
    induction d with
    | zero =>
      intro K i hi hK
      obtain ⟨K, rfl⟩ : ∃ m, K = m + 1 := ⟨K - 1, by omega⟩
      simp only [impl_copyPackets.l0]
      rw [if_neg (by omega), List.take_of_length_le (by omega)]
    | succ d ih =>
      intro K i hi hK
      obtain ⟨K, rfl⟩ : ∃ m, K = m + 1 := ⟨K - 1, by omega⟩
      have hlt : i < l.length := by omega
      have hm := hy _ (List.getElem_mem hlt)
      simp only [impl_copyPackets.l0]
      rw [if_pos (by omega), if_pos (by omega), if_pos (by omega), rd_pk _ _ hlt]
      unfold impl_copyPacket.f slices_Clone_int_int.f
      rw [if_pos (show l[i].f7.length ≤ 17592186044416 by omega)]
      simp only [obs]
      rw [if_pos (show (l.take i).length < 1759218604441 by rw [List.length_take]; omega), wr ((i : Int) + 1) (by omega) (by omega), show (i : Int) + 1 = ((i + 1 : Nat) : Int) by omega]
      have := ih K (i + 1) (by omega) (by omega)
      rw [List.take_succ_eq_append_getElem hlt] at this
      exact this
  have := key l.length K 0 (by omega) (by omega)
  simpa using this
theorem icopyQ_eq (K : Nat) (w s : List PT) (h u : List Int) (w0 : w.length ≤ 1048576) (wy : ∀ y ∈ w, y.f7.length ≤ 1048576) (s0 : s.length ≤ 1048576) (sy : ∀ y ∈ s, y.f7.length ≤ 1048576) (hh : h.length ≤ 1048576) (hu : u.length ≤ 1048576) (hK : 1048580 < K) :
    impl_copyQueue.f K w h u s = some (w, h, u, s) := by
  unfold impl_copyQueue.f impl_copyCredits.f slices_Clone_int_int.f
  rw [icopy_eq K w w0 wy hK, obs, if_pos (show h.length ≤ 17592186044416 by omega), if_pos (show u.length ≤ 17592186044416 by omega)]
  simp only [obs]
  rw [icopy_eq K s s0 sy hK, obs]
theorem sEqual_eq (K : Nat) (a b : List Int) (ha : a.length ≤ 1000) (hK : 1000 < K) : slices_Equal_int_int.f K a b = some (decide (a = b)) := by
  unfold slices_Equal_int_int.f
  by_cases e : b.length = a.length
  · rw [if_pos (by omega)]
    have h := eq_loop (fun k x y i => slices_Equal_int_int.l0 k x y (a.length : Int) i) a b (by omega) e (fun k i h hx => by
        simp only [slices_Equal_int_int.l0]
        rw [if_pos (by omega), if_pos (by omega), if_pos (by omega), if_pos (by omega), rd_nat _ _ h, rd_nat _ _ (by omega), if_neg hx]) (fun k i h hx => by
        simp only [slices_Equal_int_int.l0]
        rw [if_pos (by omega), if_pos (by omega), if_pos (by omega), if_pos (by omega), rd_nat _ _ h, rd_nat _ _ (by omega), if_pos hx, wr _ (by omega) (by omega)]
        rfl) (fun k => by
        simp only [slices_Equal_int_int.l0]
        rw [if_neg (by omega)]) a.length K 0 (by omega) (by omega)
    simpa using h
  · rw [if_neg (by omega)]
    congr 1
    symm
    rw [decide_eq_false_iff_not]
    rintro rfl
    exact e rfl
theorem psf_mem (l : List PT) : ∀ d i p, p ∈ psf l d i → pas_ l p.toNat (rd_T33 l p) = true := by
  intro d
  induction d with
  | zero => intro i p hp; simp [psf] at hp
  | succ d ih =>
    intro i p hp
    rw [psf_succ] at hp
    split at hp
    · next hc =>
      rcases List.mem_cons.1 hp with rfl | hp
      · rw [Int.toNat_natCast]; exact hc
      · exact ih _ _ hp
    · exact ih _ _ hp
theorem psf_has (l : List PT) (j : Nat) (hj : pas_ l j (rd_T33 l (j : Int)) = true) : ∀ d i, i ≤ j → j < i + d → (j : Int) ∈ psf l d i := by
  intro d
  induction d with
  | zero => intro i h0 h1; omega
  | succ d ih =>
    intro i h0 h1
    rw [psf_succ]
    by_cases e : i = j
    · subst e; rw [if_pos hj]; exact List.mem_cons_self
    · split
      · exact List.mem_cons_of_mem _ (ih (i + 1) (by omega) (by omega))
      · exact ih (i + 1) (by omega) (by omega)
theorem rd_set_ne (l : List Int) (c : Nat) (v : Int) (hc : c ≠ 0) (hl : 0 < l.length) : rd (l.set c v) 0 = rd l 0 := by
  unfold rd
  simp only [List.getD_eq_getElem?_getD, Int.toNat_zero]
  rw [List.getElem?_set_ne hc]
theorem fa_post (x : PT) (px : pk_ x = true) (hx : cl_ x = 0) : ∀ (n : Nat) (w s : List PT) (h u : List Int), w.length = n → (∀ y ∈ w, y.f7.length ≤ 1048576) → (∀ y ∈ s, y.f7.length ≤ 1048576) → qok_ w h u s = true → s.length + w.length ≤ 12 →
    (x ∈ s ∨ ∃ (j : Nat) (hj : j < w.length), w[j] = x ∧ (∀ (i : Nat) (hi : i < j), cl_ (w[i]'(by omega)) ≠ 0) ∧ cs_ h u x = true) →
    x ∈ (fa_ n w h u s).2.2.2 ∧ (fa_ n w h u s).2.2.2.length + (fa_ n w h u s).1.length = s.length + w.length ∧ (∀ y ∈ (fa_ n w h u s).2.2.2, y.f7.length ≤ 1048576) := by
  intro n
  induction n with
  | zero =>
    intro w s h u hn wy sy hq hl hor
    obtain rfl : w = [] := List.eq_nil_of_length_eq_zero hn
    rcases hor with hs | ⟨j, hj, _⟩
    · exact ⟨hs, rfl, sy⟩
    · simp at hj
  | succ n ih =>
    intro w s h u hn wy sy hq hl hor
    rw [fa_succ]
    by_cases hf : (fw_ w h u s).1 = true
    · obtain ⟨i, hi, hip, hic, he, hk⟩ := fw_ok w s h u wy hq hf
      obtain ⟨q1, q2, q3, q4, q5, q6⟩ := qok_facts hq
      have hl2 : (w.eraseIdx i).length = n := by rw [List.length_eraseIdx_of_lt hi]; omega
      have hpi : pas_ w i w[i] = true := by
        have := psf_mem w w.length 0 _ hip
        rwa [Int.toNat_natCast, rd_pk _ _ hi] at this
      rw [if_pos hf, he]
      have hr := ih (w.eraseIdx i) (s ++ [w[i]]) (sp1_ h w[i]) (sp2_ u w[i]) hl2 (fun y hy => wy y (List.mem_of_mem_eraseIdx hy)) (fun y hy => by
        rcases List.mem_append.1 hy with hy | hy
        · exact sy y hy
        · rw [List.mem_singleton.1 hy]; exact wy _ (List.getElem_mem hi)) hk (by rw [List.length_append, List.length_singleton]; omega) (by
        rcases hor with hs | ⟨j, hj, hjx, hjb, hjc⟩
        · exact .inl (List.mem_append_left _ hs)
        · by_cases hij : i = j
          · subst hij; exact .inl (by rw [hjx]; simp)
          · have hlt : i < j := by
              rcases Nat.lt_or_ge i j with h1 | h1
              · exact h1
              · exfalso
                unfold pas_ at hpi
                simp only [Bool.and_eq_true, List.all_eq_true] at hpi
                have hmem : x ∈ w.take i := by
                  rw [← hjx]
                  rw [List.mem_take_iff_getElem]
                  exact ⟨j, by omega, rfl⟩
                have h2 := hpi.2 x hmem
                rw [px] at h2
                unfold may_ at h2
                rw [hx] at h2
                simp at h2
            have hci := hjb i hlt
            have hcr := cl_range w[i] (q3 _ (List.getElem_mem hi))
            have hc1 : (cl_ w[i]).toNat ≠ 0 := by omega
            refine .inr ⟨j - 1, by omega, ?_, fun i' hi' => ?_, ?_⟩
            · rw [List.getElem_eraseIdx_of_ge (by omega) (by omega)]
              simp only [show j - 1 + 1 = j by omega]
              exact hjx
            · by_cases h1 : i' < i
              · rw [List.getElem_eraseIdx_of_lt (by omega) h1]; exact hjb i' (by omega)
              · rw [List.getElem_eraseIdx_of_ge (by omega) (by omega)]; exact hjb (i' + 1) (by omega)
            · unfold cs_ at hjc ⊢
              unfold sp1_ sp2_
              rw [hx] at hjc ⊢
              rw [rd_set_ne _ _ _ hc1 (by have := crs_len q5; omega), rd_set_ne _ _ _ hc1 (by have := crs_len q6; omega)]
              exact hjc)
      refine ⟨hr.1, ?_, hr.2.2⟩
      rw [hr.2.1, List.length_append, List.length_singleton]
      omega
    · rw [if_neg hf]
      refine ⟨?_, rfl, sy⟩
      rcases hor with hs | ⟨j, hj, hjx, hjb, hjc⟩
      · exact hs
      · exfalso
        obtain ⟨q1, q2, q3, q4, q5, q6⟩ := qok_facts hq
        have hp : (j : Int) ∈ passers_ w := by
          refine psf_has w j ?_ w.length 0 (by omega) (by omega)
          rw [rd_pk _ _ hj, hjx]
          unfold pas_
          simp only [px, Bool.true_and, List.all_eq_true]
          intro p hp
          obtain ⟨i, hi, rfl⟩ := List.mem_take_iff_getElem.1 hp
          have hi2 : i < j := by omega
          have hci := hjb i hi2
          unfold may_
          rw [px, decide_eq_false hci, if_neg (show ¬ cl_ x = 2 by omega)]
          cases pk_ w[i] <;> rfl
        apply hf
        have hn1 : ¬ nx_ w h u (passers_ w) < 0 := by
          rcases nx_or w h u (passers_ w) with ⟨_, hall⟩ | ⟨hx2, _⟩
          · have := hall _ hp
            rw [rd_pk _ _ hj, hjx, hjc] at this
            cases this
          · have := ((passers_facts w q1).1 _ hx2).1; omega
        unfold fw_
        rw [if_neg hn1, if_neg (by omega)]
theorem same_some (K : Nat) (hK : 1000 < K) (a b : PT) (ha : a.f7.length ≤ 1000) : ∃ t, impl_SamePacket.f K a.f0 a.f1 a.f2 a.f3 a.f4 a.f5 a.f6 a.f7 b.f0 b.f1 b.f2 b.f3 b.f4 b.f5 b.f6 b.f7 = some t ∧ (a = b → t = true) := by
  unfold impl_SamePacket.f
  rw [sEqual_eq K _ _ ha hK, obs]
  by_cases e : a = b
  · subst e
    exact ⟨true, by simp, fun _ => rfl⟩
  · split
    · split
      · split
        · split
          · split
            · split
              · split
                · exact ⟨_, rfl, fun h => absurd h e⟩
                · exact ⟨_, rfl, fun h => absurd h e⟩
              · exact ⟨_, rfl, fun h => absurd h e⟩
            · exact ⟨_, rfl, fun h => absurd h e⟩
          · exact ⟨_, rfl, fun h => absurd h e⟩
        · exact ⟨_, rfl, fun h => absurd h e⟩
      · exact ⟨_, rfl, fun h => absurd h e⟩
    · exact ⟨_, rfl, fun h => absurd h e⟩
theorem l1_true (w h2 : List PT) (h u : List Int) (s ww ss : List PT) (hh uu : List Int) (j : Nat) (hj : j < w.length) (hw : w.length ≤ 1000) (hsum : ss.length + ww.length = w.length) (hy : ∀ y ∈ ss, y.f7.length ≤ 1000) (m : Nat) (hm : m < ss.length) (hx : ss[m] = w[j]) :
    ∀ (d K i : Nat), i + d = m → d + 1100 < K → laws_FnPosted.l1 K (j : Int) (i : Int) w h u s ww hh uu ss = some true := by
  intro d
  induction d with
  | zero =>
    intro K i hi hK
    obtain ⟨K, rfl⟩ : ∃ m, K = m + 1 := ⟨K - 1, by omega⟩
    obtain rfl : i = m := by omega
    simp only [laws_FnPosted.l1]
    obtain ⟨t, e, ht⟩ := same_some K (by omega) ss[i] w[j] (hy _ (List.getElem_mem hm))
    rw [if_pos (by omega), if_pos (by omega), if_pos (by omega), if_pos (by omega), rd_pk _ _ hm, rd_pk _ _ hj, e, obs, if_pos (ht hx), wr ((ss.length : Int) + (ww.length : Int)) (by omega) (by omega), show (ss.length : Int) + (ww.length : Int) = (w.length : Int) by omega]
    simp
  | succ d ih =>
    intro K i hi hK
    obtain ⟨K, rfl⟩ : ∃ m, K = m + 1 := ⟨K - 1, by omega⟩
    have hlt : i < ss.length := by omega
    simp only [laws_FnPosted.l1]
    obtain ⟨t, e, ht⟩ := same_some K (by omega) ss[i] w[j] (hy _ (List.getElem_mem hlt))
    rw [if_pos (by omega), if_pos (by omega), if_pos (by omega), if_pos (by omega), rd_pk _ _ hlt, rd_pk _ _ hj, e, obs]
    cases t
    · rw [if_neg (by simp), wr ((i : Int) + 1) (by omega) (by omega), show (i : Int) + 1 = ((i + 1 : Nat) : Int) by omega]
      exact ih K (i + 1) (by omega) (by omega)
    · rw [if_pos rfl, wr ((ss.length : Int) + (ww.length : Int)) (by omega) (by omega), show (ss.length : Int) + (ww.length : Int) = (w.length : Int) by omega]
      simp
theorem j1_true (w : List PT) (h u : List Int) (j : Nat) (hj : j < w.length) (wy : ∀ y ∈ w, y.f7.length ≤ 8) (hq : qok_ w h u [] = true) (hcl : cl_ w[j] = 0) (hb : ∀ (i : Nat) (hi : i < j), cl_ (w[i]'(by omega)) ≠ 0) (hc : cs_ h u w[j] = true) (K : Nat) (hK : 2000000 < K) :
    laws_FnPosted.j1 K (j : Int) false w h u [] = some true := by
  obtain ⟨q1, q2, q3, q4, q5, q6⟩ := qok_facts hq
  obtain ⟨K, rfl⟩ : ∃ m, K = m + 1 := ⟨K - 1, by omega⟩
  have wy2 : ∀ y ∈ w, y.f7.length ≤ 1048576 := fun y hy => by have := wy y hy; omega
  simp only [laws_FnPosted.j1]
  rw [if_neg (by simp)]
  have hF : impl_ForwardAll.f K w h u [] = some (fa_ w.length w h u []) := by
    unfold impl_ForwardAll.f
    rw [icopyQ_eq K w [] h u (by omega) wy2 (by simp) (by simp) (by have := crs_len q5; omega) (by have := crs_len q6; omega) (by omega), obs, iqo_eq w [] h u wy2 (by simp), obs, hq, if_pos rfl]
    exact fa_eq w.length w [] h u K rfl wy2 hq (by omega)
  obtain ⟨f1, f2, f3⟩ := fa_post w[j] (q3 _ (List.getElem_mem hj)) hcl w.length w [] h u rfl wy2 (by simp) hq (by simp; omega) (.inr ⟨j, hj, rfl, hb, hc⟩)
  have f4 : ∀ (n : Nat) (w s : List PT) (h u : List Int), (∀ y ∈ w, y.f7.length ≤ 8) → (∀ y ∈ s, y.f7.length ≤ 8) → qok_ w h u s = true → ∀ y ∈ (fa_ n w h u s).2.2.2, y.f7.length ≤ 8 := by
    intro n
    induction n with
    | zero => intro w s h u _ hs _; exact hs
    | succ n ih =>
      intro w s h u hw hs hq
      rw [fa_succ]
      by_cases hf : (fw_ w h u s).1 = true
      · obtain ⟨i, hi, _, _, he, hk⟩ := fw_ok w s h u (fun y hy => by have := hw y hy; omega) hq hf
        rw [if_pos hf, he]
        exact ih _ _ _ _ (fun y hy => hw y (List.mem_of_mem_eraseIdx hy)) (fun y hy => by
          rcases List.mem_append.1 hy with hy | hy
          · exact hs y hy
          · rw [List.mem_singleton.1 hy]; exact hw _ (List.getElem_mem hi)) hk
      · rw [if_neg hf]; exact hs
  have f5 := f4 w.length w [] h u wy (by simp) hq
  rw [hF, obs]
  obtain ⟨m, hm, hmx⟩ := List.mem_iff_getElem.1 f1
  exact l1_true w [] h u [] _ _ _ _ j hj (by omega) (by simpa using f2) (fun y hy => by have := f5 y hy; omega) m hm hmx m K 0 (by omega) (by omega)
theorem l0_true (w : List PT) (h u : List Int) (wy : ∀ y ∈ w, y.f7.length ≤ 8) (hq : qok_ w h u [] = true) : ∀ (d K : Nat) (x4 : Int), d ≤ w.length → d + 3000000 < K →
    ((x4 = -1 ∧ True) ∨ ∃ (j : Nat) (hj : j < w.length), x4 = (j : Int) ∧ d ≤ j ∧ cl_ w[j] = 0 ∧ ∀ (i : Nat) (hi : i < j), d ≤ i → cl_ (w[i]'(by omega)) ≠ 0) →
    laws_FnPosted.l0 K x4 ((d : Int) - 1) w h u [] = some true := by
  obtain ⟨q1, q2, q3, q4, q5, q6⟩ := qok_facts hq
  intro d
  induction d with
  | zero =>
    intro K x4 hd hK hor
    obtain ⟨K, rfl⟩ : ∃ m, K = m + 2 := ⟨K - 2, by omega⟩
    simp only [laws_FnPosted.l0]
    rw [if_neg (by omega)]
    rcases hor with ⟨rfl, _⟩ | ⟨j, hj, rfl, _, hcl, hb⟩
    · rw [if_pos (by omega)]
      simp only [laws_FnPosted.j1]
      rfl
    · have wj := wy _ (List.getElem_mem hj)
      rw [if_neg (by omega), if_pos (by omega), if_pos (by omega), rd_pk _ _ hj, scs_eq h u w[j] (q3 _ (List.getElem_mem hj)) q5 q6 (by omega) (K + 1) (by omega), obs]
      cases hc : cs_ h u w[j]
      · simp only [laws_FnPosted.j1]
        rfl
      · exact j1_true w h u j hj wy hq hcl (fun i hi => hb i hi (by omega)) hc (K + 1) (by omega)
  | succ d ih =>
    intro K x4 hd hK hor
    obtain ⟨K, rfl⟩ : ∃ m, K = m + 1 := ⟨K - 1, by omega⟩
    have hlt : d < w.length := by omega
    have wd := wy _ (List.getElem_mem hlt)
    simp only [laws_FnPosted.l0]
    rw [show ((d + 1 : Nat) : Int) - 1 = (d : Int) by omega, if_pos (by omega), if_pos (by omega), if_pos (by omega), rd_pk _ _ hlt, scl_eq w[d] (by omega) K (by omega), obs, wr ((d : Int) - 1) (by omega) (by omega)]
    by_cases hc : cl_ w[d] = 0
    · rw [if_pos hc]
      exact ih K _ (by omega) (by omega) (.inr ⟨d, hlt, rfl, by omega, hc, fun i hi h1 => by omega⟩)
    · rw [if_neg hc]
      refine ih K _ (by omega) (by omega) ?_
      rcases hor with h1 | ⟨j, hj, e, h1, hcl, hb⟩
      · exact .inl h1
      · refine .inr ⟨j, hj, e, by omega, hcl, fun i hi h2 => ?_⟩
        by_cases e2 : i = d
        · subst e2; exact hc
        · exact hb i hi (by omega)
theorem FnPosted : laws_FnPosted.Pure := by
  intro s hs0 hs hwf
  obtain ⟨K, hK⟩ : ∃ K : Nat, 4000000 < K := ⟨4000001, by omega⟩
  refine ⟨K, ?_⟩
  unfold laws_FnPosted.f laws_big.f
  simp only [obs, decide_eq_true_eq]
  by_cases hb : (s.length : Int) > 1048576
  · rw [if_pos hb]
  · rw [if_neg hb]
    obtain ⟨q, h, u, e, hq, hy⟩ := waiting_some s (by omega) K (by omega)
    have q1 := (qok_facts hq).1
    rw [e, obs]
    simp only
    rw [wr ((q.length : Int) - 1) (by omega) (by omega)]
    exact l0_true q h u hy hq q.length K (-1) (Nat.le_refl _) (by omega) (.inl ⟨rfl, trivial⟩)
end Go.Proofs.Ytabefbjagompoaa.Pure
