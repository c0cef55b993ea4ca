/- Of every queue and packet: the program's EnterQueue and the reference's are one function; the queue that it answers is one of its own. -/
import Derived.Test.YtabefbjagompoaaPFnExactEnterQueuex16
import Derived.Test.YtabefbjagompoaaCom
namespace Go.Proofs.Ytabefbjagompoaa.Pure
open Go.RowKit Go.Proofs.Ytabefbjagompoaa.PFnExactEnterQueue Go.Proofs.YtabefbjagompoaaW.PrintWords Go.Proofs.YtabefbjagompoaaW.PrintLast Go.Proofs.YtabefbjagompoaaW.PrintMore Go.Proofs.Ytabefbjagompoaa.Com
set_option linter.unusedVariables false
set_option linter.unusedSimpArgs false

/-- As Option.bind_some, but not by rfl: rewriting with it below an 'if' with a great number keeps the kernel from unfolding that number. -/
theorem obs {α β : Type} (a : α) (f : α → Option β) : (some a).bind f = f a := by rw [Option.bind_some]

theorem rd_lpk (xs : List S46) (i : Nat) (h : i < xs.length) : rd_T46 xs (i : Int) = xs[i] := getD_nat _ _ _ h
theorem szIntS_eq (l : List Int) (a : Int) (h0 : l.length ≤ 9223372036854775807) (h1 : 0 ≤ a) (h2 : a ≤ 1048576) :
    laws_szIntS.f l a = some (if a < (l.length : Int) then -1 else a - (l.length : Int)) := by
  unfold laws_szIntS.f
  rw [wr (a - (l.length : Int)) (by omega) (by omega)]
  by_cases h : a < (l.length : Int)
  · rw [if_pos (by omega), if_pos h]
  · rw [if_neg (by omega), if_neg h]
theorem szPacketS_some (l : List S46) (a : Int) (h0 : l.length ≤ 9223372036854775807) (hy : ∀ y ∈ l, y.f7.length ≤ 9223372036854775807) (h1 : 0 ≤ a) (h2 : a ≤ 1048576) (K : Nat) (hK : 1048577 < K) :
    ∃ r, laws_szPacketS.f K l a = some r ∧ (r < 0 ∨ (0 ≤ r ∧ r ≤ a ∧ l.length ≤ 1048576 ∧ ∀ y ∈ l, y.f7.length ≤ 1048576)) := by
  have key : ∀ (d K i : Nat) (a : Int), i + d = l.length → l.length ≤ 1048576 → d < K → 0 ≤ a → a ≤ 1048576 → ∃ r, laws_szPacketS.l0 K l a (i : Int) = some r ∧ (r < 0 ∨ (0 ≤ r ∧ r ≤ a ∧ ∀ y ∈ l.drop i, y.f7.length ≤ 1048576)) := by
    intro d
    induction d with
    | zero =>
      intro K i a hi hl hK h1 h2
      obtain ⟨K, rfl⟩ : ∃ m, K = m + 1 := ⟨K - 1, by omega⟩
      simp only [laws_szPacketS.l0]
      rw [if_neg (by omega)]
      exact ⟨a, rfl, .inr ⟨h1, Int.le_refl _, fun y hy => by rw [List.drop_of_length_le (by omega)] at hy; simp at hy⟩⟩
    | succ d ih =>
      intro K i a hi hl hK h1 h2
      obtain ⟨K, rfl⟩ : ∃ m, K = m + 1 := ⟨K - 1, by omega⟩
      have hlt : i < l.length := by omega
      simp only [laws_szPacketS.l0, laws_szPacket.f]
      rw [if_pos (by omega), if_pos (by omega), rd_lpk _ _ hlt, szIntS_eq _ a (hy _ (List.getElem_mem _)) h1 h2, obs]
      by_cases hb : a < ((l[i]).f7.length : Int)
      · exact ⟨-1, by simp [hb], .inl (by omega)⟩
      · rw [if_neg hb, if_neg (by omega), obs, if_neg (by omega), wr ((i : Int) + 1) (by omega) (by omega), show (i : Int) + 1 = ((i + 1 : Nat) : Int) by omega]
        obtain ⟨r, e, hr⟩ := ih K (i + 1) (a - ((l[i]).f7.length : Int)) (by omega) hl (by omega) (by omega) (by omega)
        refine ⟨r, e, hr.imp_right fun ⟨r0, r1, r2⟩ => ⟨r0, by omega, fun y hy2 => ?_⟩⟩
        rw [List.drop_eq_getElem_cons hlt] at hy2
        rcases List.mem_cons.1 hy2 with rfl | hy2
        · omega
        · exact r2 y hy2
  unfold laws_szPacketS.f
  rw [wr (a - (l.length : Int)) (by omega) (by omega)]
  by_cases hb : a - (l.length : Int) < 0
  · rw [if_pos hb]; exact ⟨-1, rfl, .inl (by omega)⟩
  · rw [if_neg hb]
    obtain ⟨r, e, hr⟩ := key l.length K 0 (a - (l.length : Int)) (by omega) (by omega) (by omega) (by omega) (by omega)
    refine ⟨r, e, hr.imp_right fun ⟨r0, r1, r2⟩ => ⟨r0, by omega, by omega, ?_⟩⟩
    rw [List.drop_zero] at r2
    exact r2
theorem szQueue_some (q s : List S46) (h u : List Int) (q0 : q.length ≤ 9223372036854775807) (qy : ∀ y ∈ q, y.f7.length ≤ 9223372036854775807) (s0 : s.length ≤ 9223372036854775807) (sy : ∀ y ∈ s, y.f7.length ≤ 9223372036854775807) (h0 : h.length ≤ 9223372036854775807) (u0 : u.length ≤ 9223372036854775807) (K : Nat) (hK : 1048577 < K) :
    ∃ r, laws_szQueue.f K q h u s 1048576 = some r ∧ (r < 0 ∨ (q.length ≤ 1048576 ∧ (∀ y ∈ q, y.f7.length ≤ 1048576) ∧ s.length ≤ 1048576 ∧ (∀ y ∈ s, y.f7.length ≤ 1048576) ∧ h.length ≤ 1048576 ∧ u.length ≤ 1048576)) := by
  unfold laws_szQueue.f laws_szCredits.f
  obtain ⟨r, e, hr⟩ := szPacketS_some q 1048576 q0 qy (by omega) (by omega) K hK
  rw [e, obs]
  rcases hr with hr | ⟨r0, r1, r2, r3⟩
  · rw [if_pos hr]; exact ⟨-1, rfl, .inl (by omega)⟩
  · rw [if_neg (by omega), szIntS_eq h r h0 r0 (by omega), obs]
    by_cases hb : r < (h.length : Int)
    · rw [if_pos hb]; exact ⟨-1, by simp, .inl (by omega)⟩
    · rw [if_neg hb, if_neg (by omega), szIntS_eq u _ u0 (by omega) (by omega), obs]
      by_cases hb2 : r - (h.length : Int) < (u.length : Int)
      · rw [if_pos hb2]; exact ⟨-1, by simp, .inl (by omega)⟩
      · rw [if_neg hb2, if_neg (by omega), obs, if_neg (by omega)]
        obtain ⟨t, e2, ht⟩ := szPacketS_some s (r - (h.length : Int) - (u.length : Int)) s0 sy (by omega) (by omega) K hK
        rw [e2, obs]
        rcases ht with ht | ⟨t0, t1, t2, t3⟩
        · rw [if_pos ht]; exact ⟨-1, rfl, .inl (by omega)⟩
        · rw [if_neg (by omega)]
          exact ⟨t, rfl, .inr ⟨r2, r3, t2, t3, by omega, by omega⟩⟩

theorem toIntS_eq (k : Nat) (l : List Int) (hl : l.length ≤ 1048576) (hk : l.length < k) : laws_toIntS.f k l = some l := by
  unfold laws_toIntS.f
  rw [if_pos (by omega), if_pos (by omega)]
  have h := copy_loop laws_toIntS.l0 (fun x => x) l hl (fun k x3 i h h3 => by
      simp only [laws_toIntS.l0]
      rw [if_pos (by omega), if_pos (by omega), if_pos (by omega), rd_nat _ _ h, wr _ (by omega) (by omega)]
      rfl) (fun k x3 h3 => by
      simp only [laws_toIntS.l0]
      rw [if_neg (by omega)]) l.length k (List.replicate ((l.length : Int)).toNat 0) 0 (by omega) hk (by simp) (fun j hj => by omega)
  simpa using h

theorem eqIntS_eq (k : Nat) (a b : List Int) (hl : a.length ≤ 1048576) (hk : a.length < k) : laws_eqIntS.f k a b = some (decide (a = b)) := by
  unfold laws_eqIntS.f
  by_cases e : b.length = a.length
  · rw [if_pos (by omega)]
    have h := eq_loop laws_eqIntS.l0 a b hl e (fun k i h hx => by
        simp only [laws_eqIntS.l0]
        rw [if_pos (by omega), if_pos (by omega), if_pos (by omega), rd_nat _ _ h, rd_nat _ _ (by omega), if_neg hx]) (fun k i h hx => by
        simp only [laws_eqIntS.l0]
        rw [if_pos (by omega), if_pos (by omega), if_pos (by omega), rd_nat _ _ h, rd_nat _ _ (by omega), if_pos hx, wr _ (by omega) (by omega)]
        rfl) (fun k => by
        simp only [laws_eqIntS.l0]
        rw [if_neg (by omega)]) a.length k 0 (by omega) hk
    simpa using h
  · rw [if_neg (by omega)]
    congr 1
    symm
    rw [decide_eq_false_iff_not]
    rintro rfl
    exact e rfl


abbrev PT := S33
/-- A valid packet, out of its numbers, how many data it has, and whether all of them are words. -/
def pkOk (k fr tt ad ln tg st n : Int) (wd : Bool) : Bool :=
  decide (1 ≤ k ∧ k ≤ 6) && (decide (0 ≤ fr ∧ fr ≤ 255) && (wd && (
    (decide (k = 1) && decide (1 ≤ n ∧ n ≤ 8 ∧ 0 ≤ ad ∧ ad ≤ 65536 - n ∧ st = 0 ∧ tt = 0 ∧ ln = 0 ∧ tg = 0)) ||
    ((decide (k = 2) && decide (1 ≤ n ∧ n ≤ 8 ∧ ad = 0 ∧ st = 0 ∧ tt = 0 ∧ ln = 0 ∧ tg = 0)) ||
    ((decide (k = 3) && decide (n = 0 ∧ 1 ≤ ln ∧ ln ≤ 64 ∧ 0 ≤ ad ∧ ad ≤ 65536 - ln ∧ 0 ≤ tg ∧ tg ≤ 7 ∧ st = 0 ∧ tt = 0)) ||
    ((decide (k = 4) && decide (n = 0 ∧ 0 ≤ ad ∧ ad ≤ 63 ∧ 0 ≤ tt ∧ tt ≤ 255 ∧ 0 ≤ tg ∧ tg ≤ 7 ∧ st = 0 ∧ ln = 0)) ||
    ((decide (k = 5) && decide (n = 1 ∧ 0 ≤ ad ∧ ad ≤ 63 ∧ 0 ≤ tt ∧ tt ≤ 255 ∧ 0 ≤ tg ∧ tg ≤ 7 ∧ st = 0 ∧ ln = 0)) ||
    (decide (k = 6) && decide (ad = 0 ∧ 0 ≤ tt ∧ tt ≤ 255 ∧ 0 ≤ tg ∧ tg ≤ 7 ∧ 0 ≤ st ∧ st ≤ 2 ∧ 0 ≤ ln ∧ ln ≤ 64 ∧ (n = 0 ∨ (st = 0 ∧ n ≤ 8 ∧ n ≤ ln)))))))))))
def wds (l : List Int) : Bool := l.all fun x => decide (0 ≤ x ∧ x ≤ 65535)
def pk_ (x : PT) : Bool := pkOk x.f0 x.f1 x.f2 x.f3 x.f4 x.f5 x.f6 (x.f7.length : Int) (wds x.f7)
theorem if_some_false (b c : Bool) : (if b = true then some c else some false) = some (b && c) := by cases b <;> rfl
theorem if_p_false (p : Prop) [Decidable p] (c : Bool) : (if p then some c else some false) = some (decide p && c) := by by_cases h : p <;> simp [h]
theorem rd_pk (xs : List PT) (i : Nat) (h : i < xs.length) : rd_T33 xs (i : Int) = xs[i] := getD_nat _ _ _ h
theorem bsi {α : Type} (x : Option α) : (x.bind fun t => some t) = x := by cases x <;> rfl
theorem if_true_false (b c : Bool) : (if b = true then some false else some c) = some (!b && c) := by cases b <;> rfl

def toPk (x : S46) : PT := ⟨x.f0, x.f1, x.f2, x.f3, x.f4, x.f5, x.f6, x.f7⟩
theorem toPacketS_eq (K : Nat) (l : List S46) (hl : l.length ≤ 1048576) (hy : ∀ y ∈ l, y.f7.length ≤ 1048576) (hK : 2097154 < K) : laws_toPacketS.f K l = some (l.map toPk) := by
  obtain ⟨B, hB⟩ : ∃ B : Nat, B = 1048577 := ⟨1048577, rfl⟩
  obtain ⟨k, rfl⟩ : ∃ k, K = k + B := ⟨K - B, by omega⟩
  unfold laws_toPacketS.f
  rw [if_pos (by omega), if_pos (by omega)]
  have h := copy_loop (fun k => laws_toPacketS.l0 (k + B)) toPk l hl (fun k x3 i h h3 => by
      show laws_toPacketS.l0 (k + 1 + B) l x3 (i : Int) = _
      rw [Nat.add_right_comm]
      simp only [laws_toPacketS.l0]
      rw [if_pos (by omega), if_pos (by omega), rd_lpk _ _ h]
      simp only [laws_toPacket.f]
      rw [toIntS_eq (k + B) _ (hy _ (List.getElem_mem _)) (by have := hy _ (List.getElem_mem (h := h)); omega), obs, obs, if_pos (by omega), wr _ (by omega) (by omega)]
      rfl) (fun k x3 h3 => by
      show laws_toPacketS.l0 (k + 1 + B) l x3 _ = _
      rw [Nat.add_right_comm]
      simp only [laws_toPacketS.l0]
      rw [if_neg (by omega)]) l.length k (List.replicate ((l.length : Int)).toNat z33) 0 (by omega) (by omega) (by simp) (fun j hj => by omega)
  exact h
theorem eqPacketS_self (K : Nat) (l : List PT) (hl : l.length ≤ 1048576) (hy : ∀ y ∈ l, y.f7.length ≤ 1048576) (hK : 2097154 < K) : laws_eqPacketS.f K l l = some true := by
  have key : ∀ (d K i : Nat), i + d = l.length → d + 1048577 < K → laws_eqPacketS.l0 K l l (i : Int) = some true := by
    intro d
    induction d with
    | zero =>
      intro K i hi hK
      obtain ⟨K, rfl⟩ : ∃ m, K = m + 1 := ⟨K - 1, by omega⟩
      simp only [laws_eqPacketS.l0]
      rw [if_neg (by omega)]
    | succ d ih =>
      intro K i hi hK
      obtain ⟨K, rfl⟩ : ∃ m, K = m + 1 := ⟨K - 1, by omega⟩
      have hlt : i < l.length := by omega
      have hyi := hy _ (List.getElem_mem hlt)
      simp only [laws_eqPacketS.l0, laws_eqPacket.f]
      rw [if_pos (by omega), if_pos (by omega), if_pos (by omega), rd_pk _ _ hlt, eqIntS_eq K _ _ hyi (by omega), wr ((i : Int) + 1) (by omega) (by omega), show (i : Int) + 1 = ((i + 1 : Nat) : Int) by omega, ih K (i + 1) (by omega) (by omega)]
      simp
  unfold laws_eqPacketS.f
  rw [if_pos rfl]
  exact key l.length K 0 (by omega) (by omega)
theorem toQueue_eq (K : Nat) (q s : List S46) (h u : List Int) (q0 : q.length ≤ 1048576) (qy : ∀ y ∈ q, y.f7.length ≤ 1048576) (s0 : s.length ≤ 1048576) (sy : ∀ y ∈ s, y.f7.length ≤ 1048576) (h0 : h.length ≤ 1048576) (u0 : u.length ≤ 1048576) (hK : 2097154 < K) :
    laws_toQueue.f K q h u s = some (q.map toPk, h, u, s.map toPk) := by
  unfold laws_toQueue.f laws_toCredits.f
  rw [toPacketS_eq K q q0 qy hK, obs, toIntS_eq K h h0 (by omega), obs, toIntS_eq K u u0 (by omega), obs, obs, toPacketS_eq K s s0 sy hK, obs]
theorem eqQueue_self (K : Nat) (q s : List PT) (h u : List Int) (q0 : q.length ≤ 1048576) (qy : ∀ y ∈ q, y.f7.length ≤ 1048576) (s0 : s.length ≤ 1048576) (sy : ∀ y ∈ s, y.f7.length ≤ 1048576) (h0 : h.length ≤ 1048576) (u0 : u.length ≤ 1048576) (hK : 2097154 < K) :
    laws_eqQueue.f K q h u s q h u s = some true := by
  unfold laws_eqQueue.f laws_eqCredits.f
  rw [eqPacketS_self K q q0 qy hK, obs, if_pos rfl, eqIntS_eq K h h h0 (by omega), obs, eqIntS_eq K u u u0 (by omega), obs, eqPacketS_self K s s0 sy hK]
  simp


theorem scopy_eq (K : Nat) (l : List PT) (hl : l.length ≤ 1048576) (hy : ∀ y ∈ l, y.f7.length ≤ 1048576) (hK : 1048580 < K) : spec_l15Copies.f K l = some l := by
  unfold spec_l15Copies.f
  have key : ∀ (d K i : Nat), i + d = l.length → d < K → spec_l15Copies.l0 K l (l.take i) (i : Int) = some l := by
    intro d
    induction d with
    | zero =>
      intro K i hi hK
      obtain ⟨K, rfl⟩ : ∃ m, K = m + 1 := ⟨K - 1, by omega⟩
      simp only [spec_l15Copies.l0]
      rw [if_neg (by omega), List.take_of_length_le (by omega)]
    | succ d ih =>
      intro K i hi hK
      obtain ⟨K, rfl⟩ : ∃ m, K = m + 1 := ⟨K - 1, by omega⟩
      have hlt : i < l.length := by omega
      have hm := hy _ (List.getElem_mem hlt)
      simp only [spec_l15Copies.l0]
      rw [if_pos (by omega), if_pos (by omega), rd_pk _ _ hlt]
      unfold spec_l04Copy.f
      rw [obs, if_pos (by simp; omega), obs, if_pos (show (l.take i).length < 1759218604441 by rw [List.length_take]; omega), wr ((i : Int) + 1) (by omega) (by omega), show (i : Int) + 1 = ((i + 1 : Nat) : Int) by omega]
      have := ih K (i + 1) (by omega) (by omega)
      rw [List.take_succ_eq_append_getElem hlt] at this
      exact this
  have := key l.length K 0 (by omega) (by omega)
  simpa using this
theorem s14_eq (h u : List Int) (hh : h.length ≤ 1048576) (hu : u.length ≤ 1048576) : spec_l14Copy.f h u = some (h, u) := by
  unfold spec_l14Copy.f
  rw [obs, if_pos (by simp; omega), obs, if_pos (by simp; omega)]
  rfl
theorem scopyQ_eq (K : Nat) (w s : List PT) (h u : List Int) (w0 : w.length ≤ 1048576) (wy : ∀ y ∈ w, y.f7.length ≤ 1048576) (s0 : s.length ≤ 1048576) (sy : ∀ y ∈ s, y.f7.length ≤ 1048576) (hh : h.length ≤ 1048576) (hu : u.length ≤ 1048576) (hK : 1048580 < K) :
    spec_l17Copy.f K w h u s = some (w, h, u, s) := by
  unfold spec_l17Copy.f
  rw [scopy_eq K w w0 wy hK, obs, s14_eq h u hh hu, obs, scopy_eq K s s0 sy hK, obs]


theorem icopy_eq (K : Nat) (l : List PT) (hl : l.length ≤ 1048576) (hy : ∀ y ∈ l, y.f7.length ≤ 1048576) (hK : 1048580 < K) : impl_copyPackets.f K l = some l := by
  unfold impl_copyPackets.f
  have key : ∀ (d K i : Nat), i + d = l.length → d < K → impl_copyPackets.l0 K (l.take i) l (l.length : Int) (i : Int) = some l := by
    intro d
    induction d with
    | zero =>
      intro K i hi hK
      obtain ⟨K, rfl⟩ : ∃ m, K = m + 1 := ⟨K - 1, by omega⟩
      simp only [impl_copyPackets.l0]
      rw [if_neg (by omega), List.take_of_length_le (by omega)]
    | succ d ih =>
      intro K i hi hK
      obtain ⟨K, rfl⟩ : ∃ m, K = m + 1 := ⟨K - 1, by omega⟩
      have hlt : i < l.length := by omega
      have hm := hy _ (List.getElem_mem hlt)
      simp only [impl_copyPackets.l0]
      rw [if_pos (by omega), if_pos (by omega), if_pos (by omega), rd_pk _ _ hlt]
      unfold impl_copyPacket.f slices_Clone_int_int.f
      rw [if_pos (show l[i].f7.length ≤ 17592186044416 by omega)]
      simp only [obs]
      rw [if_pos (show (l.take i).length < 1759218604441 by rw [List.length_take]; omega), wr ((i : Int) + 1) (by omega) (by omega), show (i : Int) + 1 = ((i + 1 : Nat) : Int) by omega]
      have := ih K (i + 1) (by omega) (by omega)
      rw [List.take_succ_eq_append_getElem hlt] at this
      exact this
  have := key l.length K 0 (by omega) (by omega)
  simpa using this
theorem icopyQ_eq (K : Nat) (w s : List PT) (h u : List Int) (w0 : w.length ≤ 1048576) (wy : ∀ y ∈ w, y.f7.length ≤ 1048576) (s0 : s.length ≤ 1048576) (sy : ∀ y ∈ s, y.f7.length ≤ 1048576) (hh : h.length ≤ 1048576) (hu : u.length ≤ 1048576) (hK : 1048580 < K) :
    impl_copyQueue.f K w h u s = some (w, h, u, s) := by
  unfold impl_copyQueue.f impl_copyCredits.f slices_Clone_int_int.f
  rw [icopy_eq K w w0 wy hK, obs, if_pos (show h.length ≤ 17592186044416 by omega), if_pos (show u.length ≤ 17592186044416 by omega)]
  simp only [obs]
  rw [icopy_eq K s s0 sy hK, obs]


theorem l01In_eq (a b c : Int) : spec_l01In.f a b c = some (decide (b ≤ a ∧ a ≤ c)) := by
  unfold spec_l01In.f; by_cases h : a ≥ b <;> simp [h]


theorem swd_eq (l : List Int) (hl : l.length ≤ 1048576) : ∀ d K i, i + d = l.length → d < K → spec_l04Words.l0 K l (i : Int) = some (wds (l.drop i)) := by
  intro d
  induction d with
  | zero =>
    intro K i hi hK
    obtain ⟨K, rfl⟩ : ∃ m, K = m + 1 := ⟨K - 1, by omega⟩
    simp only [spec_l04Words.l0]
    rw [if_neg (by omega), List.drop_of_length_le (by omega)]; rfl
  | succ d ih =>
    intro K i hi hK
    obtain ⟨K, rfl⟩ : ∃ m, K = m + 1 := ⟨K - 1, by omega⟩
    simp only [spec_l04Words.l0]
    rw [if_pos (by omega), if_pos (by omega), l01In_eq, obs, wr ((i : Int) + 1) (by omega) (by omega), show (i : Int) + 1 = ((i + 1 : Nat) : Int) by omega, ih K (i + 1) (by omega) (by omega), rd_nat _ _ (by omega), List.drop_eq_getElem_cons (by omega : i < l.length), if_some_false]
    rfl
theorem spk_eq (x : PT) (hl : x.f7.length ≤ 1048576) (K : Nat) (hK : 1048578 < K) : spec_IsPacket.f K x.f0 x.f1 x.f2 x.f3 x.f4 x.f5 x.f6 x.f7 = some (pk_ x) := by
  obtain ⟨K, rfl⟩ : ∃ m, K = m + 1 := ⟨K - 1, by omega⟩
  unfold spec_IsPacket.f spec_l04Words.f pk_
  have hw := swd_eq x.f7 hl x.f7.length (K + 1) 0 (by omega) (by omega)
  rw [show (((0 : Nat) : Int)) = 0 from rfl, List.drop_zero] at hw
  unfold spec_IsId.f
  rw [hw, l01In_eq, obs, obs, obs]
  generalize wds x.f7 = wd
  obtain ⟨k, fr, tt, ad, ln, tg, st, dt⟩ := x
  have hn0 : 0 ≤ (dt.length : Int) := by omega
  have hn1 : (dt.length : Int) ≤ 1048576 := by simp at hl; omega
  dsimp only at *
  simp only [spec_IsPacket.j0, spec_IsId.f, spec_l04Zero.f, l01In_eq, obs, bsi]
  generalize (dt.length : Int) = n at hn0 hn1 ⊢
  by_cases hf : 0 ≤ fr ∧ fr ≤ 255
  · rw [decide_eq_true hf, if_pos rfl]
    cases wd with
    | false => simp [pkOk]
    | true =>
      simp only [Bool.not_true, Bool.false_eq_true, if_false]
      by_cases h1 : k = 1
      · subst h1
        by_cases hn : 1 ≤ n ∧ n ≤ 8
        · rw [wr (65536 - n) (by omega) (by omega)]
          simp only [eq_self, if_true, Bool.false_eq_true, if_false, bsi, if_some_false, if_p_false, pkOk]
          congr 1
          rw [Bool.eq_iff_iff]
          simp
          omega
        · simp only [decide_eq_false hn, if_true]
          simp [pkOk]
          omega
      · rw [if_neg h1]
        by_cases h2 : k = 2
        · subst h2
          simp only [eq_self, if_true, Bool.false_eq_true, if_false, bsi, if_some_false, if_p_false, pkOk]
          congr 1
          rw [Bool.eq_iff_iff]
          simp
          omega
        · rw [if_neg h2]
          by_cases h3 : k = 3
          · subst h3
            by_cases hn : 1 ≤ ln ∧ ln ≤ 64
            · rw [wr (65536 - ln) (by omega) (by omega)]
              simp only [eq_self, if_true, Bool.false_eq_true, if_false, bsi, if_some_false, if_p_false, pkOk]
              congr 1
              rw [Bool.eq_iff_iff]
              simp
              omega
            · simp only [decide_eq_false hn, if_true]
              simp [pkOk]
              omega
          · rw [if_neg h3]
            by_cases h4 : k = 4
            · subst h4
              simp only [eq_self, if_true, Bool.false_eq_true, if_false, bsi, if_some_false, if_p_false, pkOk]
              congr 1
              rw [Bool.eq_iff_iff]
              simp
              omega
            · rw [if_neg h4]
              by_cases h5 : k = 5
              · subst h5
                simp only [eq_self, if_true, Bool.false_eq_true, if_false, bsi, if_some_false, if_p_false, pkOk]
                congr 1
                rw [Bool.eq_iff_iff]
                simp
                omega
              · rw [if_neg h5]
                by_cases h6 : k = 6
                · subst h6
                  have hmn : mn 8 ln = if ln < 8 then ln else 8 := rfl
                  by_cases hz : n = 0
                  · subst hz
                    simp only [eq_self, if_true, Bool.false_eq_true, if_false, bsi, if_some_false, if_p_false, pkOk]
                    congr 1
                    rw [Bool.eq_iff_iff]
                    simp
                    omega
                  · simp only [if_neg hz]
                    simp only [eq_self, if_true, Bool.false_eq_true, if_false, bsi, if_some_false, if_p_false, pkOk]
                    congr 1
                    rw [Bool.eq_iff_iff]
                    simp
                    rw [hmn]
                    split <;> omega
                · rw [if_neg h6]
                  simp [pkOk, h1, h2, h3, h4, h5, h6]
  · rw [decide_eq_false hf, if_neg (by simp)]
    simp [pkOk]
    omega


def cl_ (x : PT) : Int := if pk_ x = true then (if x.f0 = 1 ∨ x.f0 = 2 then 0 else if x.f0 = 6 then 2 else 1) else -1
def may_ (q x : PT) : Bool := pk_ q && (pk_ x && (!decide (cl_ x = 0) && (if cl_ q = 2 then (if cl_ x = 2 then (if q.f2 = x.f2 then (q.f5 != x.f5) else true) else true) else true)))
theorem cl_range (x : PT) (h : pk_ x = true) : 0 ≤ cl_ x ∧ cl_ x ≤ 2 := by
  unfold cl_; rw [if_pos h]; split
  · omega
  · split <;> omega
theorem cl_neg (x : PT) (h : ¬ pk_ x = true) : cl_ x = -1 := by unfold cl_; rw [if_neg h]
def pas_ (l : List PT) (i : Nat) (q : PT) : Bool := pk_ q && (l.take i).all (fun p => !pk_ p || may_ q p)
def psf (l : List PT) : Nat → Nat → List Int
  | 0, _ => []
  | d + 1, i => if pas_ l i (rd_T33 l (i : Int)) = true then (i : Int) :: psf l d (i + 1) else psf l d (i + 1)
theorem psf_succ (l : List PT) (d i : Nat) : psf l (d + 1) i = if pas_ l i (rd_T33 l (i : Int)) = true then (i : Int) :: psf l d (i + 1) else psf l d (i + 1) := rfl
theorem psf_in (l : List PT) : ∀ d i, ∀ p ∈ psf l d i, (i : Int) ≤ p ∧ p < ((i + d : Nat) : Int) := by
  intro d
  induction d with
  | zero => intro i p hp; simp [psf] at hp
  | succ d ih =>
    intro i p hp
    rw [psf_succ] at hp
    have key : p ∈ psf l d (i + 1) → (i : Int) ≤ p ∧ p < ((i + (d + 1) : Nat) : Int) := fun h => by have := ih (i + 1) p h; omega
    split at hp
    · rcases List.mem_cons.1 hp with rfl | hp
      · omega
      · exact key hp
    · exact key hp
theorem psf_len (l : List PT) : ∀ d i, (psf l d i).length ≤ d := by
  intro d
  induction d with
  | zero => intro i; simp [psf]
  | succ d ih =>
    intro i
    rw [psf_succ]
    have := ih (i + 1)
    split
    · simp; omega
    · omega
def passers_ (l : List PT) : List Int := psf l l.length 0
def crs_ (l : List Int) : Bool := decide (l.length = 3) && l.all fun x => decide (0 ≤ x ∧ x ≤ 30)
def qok_ (w : List PT) (h u : List Int) (s : List PT) : Bool := decide ((w.length : Int) ≤ 12) && (decide ((s.length : Int) ≤ 1000) && (w.all pk_ && (s.all pk_ && (crs_ h && crs_ u))))
def un_ (x : PT) : Int := wrap64 (Int.tdiv (wrap64 ((x.f7.length : Int) + 3)) 4)
def cs_ (h u : List Int) (x : PT) : Bool := decide (rd h (cl_ x) ≥ 1) && decide (rd u (cl_ x) ≥ un_ x)
theorem qok_facts {w : List PT} {h u : List Int} {s : List PT} (hq : qok_ w h u s = true) : w.length ≤ 12 ∧ s.length ≤ 1000 ∧ (∀ x ∈ w, pk_ x = true) ∧ (∀ x ∈ s, pk_ x = true) ∧ crs_ h = true ∧ crs_ u = true := by
  simp only [qok_, Bool.and_eq_true, decide_eq_true_eq, List.all_eq_true] at hq
  obtain ⟨a, b, c, d, e, f⟩ := hq
  exact ⟨by omega, by omega, c, d, e, f⟩
theorem crs_len {l : List Int} (h : crs_ l = true) : l.length = 3 := by
  simp only [crs_, Bool.and_eq_true, decide_eq_true_eq] at h; exact h.1

theorem len3 (l : List Int) (h : l.length = 3) : ∃ a b c, l = [a, b, c] := by
  match l, h with
  | [a, b, c], _ => exact ⟨a, b, c, rfl⟩
theorem crs3 (a b c : Int) : crs_ [a, b, c] = (decide (0 ≤ a ∧ a ≤ 30) && (decide (0 ≤ b ∧ b ≤ 30) && decide (0 ≤ c ∧ c ≤ 30))) := by
  unfold crs_
  simp only [List.length_cons, List.length_nil, List.all_cons, List.all_nil, Bool.and_true]
  rfl
theorem scr_eq (h u : List Int) (K : Nat) (hK : 10 < K) : spec_CreditsOk.f K h u = some (crs_ h && crs_ u) := by
  obtain ⟨K, rfl⟩ : ∃ m, K = m + 5 := ⟨K - 5, by omega⟩
  unfold spec_CreditsOk.f
  simp only [spec_CreditsOk.j0]
  by_cases h3 : h.length = 3
  · by_cases u3 : u.length = 3
    · obtain ⟨a, b, c, rfl⟩ := len3 h h3
      obtain ⟨d, e, f, rfl⟩ := len3 u u3
      have w1 : wrap64 (0 + 1) = 1 := by rw [wr _ (by omega) (by omega)]; rfl
      have w2 : wrap64 (1 + 1) = 2 := by rw [wr _ (by omega) (by omega)]; rfl
      have w3 : wrap64 (2 + 1) = 3 := by rw [wr _ (by omega) (by omega)]; rfl
      have r0 : ∀ x y z : Int, rd [x, y, z] 0 = x := fun _ _ _ => rfl
      have r1 : ∀ x y z : Int, rd [x, y, z] 1 = y := fun _ _ _ => rfl
      have r2 : ∀ x y z : Int, rd [x, y, z] 2 = z := fun _ _ _ => rfl
      rw [crs3, crs3]
      simp only [spec_CreditsOk.l0, l01In_eq, obs, w1, w2, w3, r0, r1, r2]
      generalize decide (0 ≤ a ∧ a ≤ 30) = ba
      generalize decide (0 ≤ b ∧ b ≤ 30) = bb
      generalize decide (0 ≤ c ∧ c ≤ 30) = bc
      generalize decide (0 ≤ d ∧ d ≤ 30) = bd
      generalize decide (0 ≤ e ∧ e ≤ 30) = be
      generalize decide (0 ≤ f ∧ f ≤ 30) = bf
      cases ba <;> cases bb <;> cases bc <;> cases bd <;> cases be <;> cases bf <;> simp
    · rw [if_pos (by omega)]
      have : crs_ u = false := by unfold crs_; rw [decide_eq_false u3]; rfl
      rw [this]
      simp; omega
  · rw [if_neg (by omega)]
    have : crs_ h = false := by unfold crs_; rw [decide_eq_false h3]; rfl
    rw [this]
    simp
theorem sqo_eq (w s : List PT) (h u : List Int) (w0 : w.length ≤ 1048576) (wy : ∀ y ∈ w, y.f7.length ≤ 1048576) (s0 : s.length ≤ 1048576) (sy : ∀ y ∈ s, y.f7.length ≤ 1048576) (K : Nat) (hK : 4000000 < K) : spec_QueueOk.f K w h u s = some (qok_ w h u s) := by
  have k1 : ∀ (d K i : Nat), i + d = s.length → d + 1048600 < K → spec_QueueOk.l1 K (i : Int) w h u s = some (if (s.drop i).all pk_ = true then (decide ((w.length : Int) ≤ 12) && (decide ((s.length : Int) ≤ 1000) && (crs_ h && crs_ u))) else false) := by
    intro d
    induction d with
    | zero =>
      intro K i hi hK
      obtain ⟨K, rfl⟩ : ∃ m, K = m + 1 := ⟨K - 1, by omega⟩
      simp only [spec_QueueOk.l1]
      rw [if_neg (by omega), scr_eq h u K (by omega), obs, List.drop_of_length_le (by omega)]
      simp only [if_p_false]
      simp
    | succ d ih =>
      intro K i hi hK
      obtain ⟨K, rfl⟩ : ∃ m, K = m + 1 := ⟨K - 1, by omega⟩
      have hlt : i < s.length := by omega
      simp only [spec_QueueOk.l1]
      rw [if_pos (by omega), if_pos (by omega), rd_pk _ _ hlt, spk_eq _ (sy _ (List.getElem_mem hlt)) K (by omega), obs, wr ((i : Int) + 1) (by omega) (by omega), show (i : Int) + 1 = ((i + 1 : Nat) : Int) by omega, ih K (i + 1) (by omega) (by omega), List.drop_eq_getElem_cons hlt, List.all_cons]
      cases pk_ s[i] <;> simp
  have k0 : ∀ (d K i : Nat), i + d = w.length → d + s.length + 1048700 < K → spec_QueueOk.l0 K (i : Int) w h u s = some (if (w.drop i).all pk_ = true then (if s.all pk_ = true then (decide ((w.length : Int) ≤ 12) && (decide ((s.length : Int) ≤ 1000) && (crs_ h && crs_ u))) else false) else false) := by
    intro d
    induction d with
    | zero =>
      intro K i hi hK
      obtain ⟨K, rfl⟩ : ∃ m, K = m + 1 := ⟨K - 1, by omega⟩
      have := k1 s.length K 0 (by omega) (by omega)
      rw [show (((0 : Nat) : Int)) = 0 from rfl, List.drop_zero] at this
      simp only [spec_QueueOk.l0]
      rw [if_neg (by omega), this, List.drop_of_length_le (by omega)]
      simp
    | succ d ih =>
      intro K i hi hK
      obtain ⟨K, rfl⟩ : ∃ m, K = m + 1 := ⟨K - 1, by omega⟩
      have hlt : i < w.length := by omega
      simp only [spec_QueueOk.l0]
      rw [if_pos (by omega), if_pos (by omega), rd_pk _ _ hlt, spk_eq _ (wy _ (List.getElem_mem hlt)) K (by omega), obs, wr ((i : Int) + 1) (by omega) (by omega), show (i : Int) + 1 = ((i + 1 : Nat) : Int) by omega, ih K (i + 1) (by omega) (by omega), List.drop_eq_getElem_cons hlt, List.all_cons]
      cases pk_ w[i] <;> simp
  unfold spec_QueueOk.f qok_
  have := k0 w.length K 0 (by omega) (by omega)
  rw [show (((0 : Nat) : Int)) = 0 from rfl, List.drop_zero] at this
  rw [this]
  cases w.all pk_ <;> cases s.all pk_ <;> simp


theorem within_eq (a b c : Int) : impl_within.f a b c = some (decide (b ≤ a ∧ a ≤ c)) := by
  unfold impl_within.f; by_cases h : a ≥ b <;> simp [h]



theorem cont_words (l : List Int) : slices_ContainsFunc_int_int_impl_Packet_dataOk_1.f l = some (!wds l) := by
  unfold slices_ContainsFunc_int_int_impl_Packet_dataOk_1.f
  congr 1
  unfold wds
  induction l with
  | nil => rfl
  | cons x xs ih =>
    rw [List.any_cons, List.all_cons, ih]
    unfold impl_Packet_dataOk_1.f impl_isWord.f
    rw [within_eq, obs, obs]
    simp
theorem ipk_eq (x : PT) (hl : x.f7.length ≤ 1048576) (K : Nat) (hK : 8 < K) : impl_IsPacket.f K x.f0 x.f1 x.f2 x.f3 x.f4 x.f5 x.f6 x.f7 = some (pk_ x) := by
  obtain ⟨K, rfl⟩ : ∃ m, K = m + 5 := ⟨K - 5, by omega⟩
  unfold impl_IsPacket.f pk_
  obtain ⟨k, fr, tt, ad, ln, tg, st, dt⟩ := x
  have hn0 : 0 ≤ (dt.length : Int) := by omega
  have hn1 : (dt.length : Int) ≤ 1048576 := by simp at hl; omega
  dsimp only at *
  simp only [impl_IsPacket.j0, impl_IsPacket.j1, impl_IsPacket.j2, impl_Packet_dataOk.f, impl_Packet_dataOk.j0, impl_Packet_addressOk.f, impl_Packet_addressOk.j0, impl_Packet_words.f, impl_Packet_lengthOk.f, impl_IsId.f, within_eq, cont_words, obs, bsi]
  generalize wds dt = wd
  generalize (dt.length : Int) = n at hn0 hn1 ⊢
  by_cases hk : 1 ≤ k ∧ k ≤ 6
  · rw [decide_eq_true hk, if_pos rfl]
    by_cases hf : 0 ≤ fr ∧ fr ≤ 255
    · rw [decide_eq_true hf, if_pos rfl]
      have hc : k = 1 ∨ k = 2 ∨ k = 3 ∨ k = 4 ∨ k = 5 ∨ k = 6 := by omega
      by_cases ha : 0 ≤ ad ∧ ad ≤ 65535
      · rw [wr (65536 - ad) (by omega) (by omega)]
        rcases hc with rfl | rfl | rfl | rfl | rfl | rfl
        all_goals by_cases hst : st = 0
        all_goals
          simp only [hst, Int.reduceLE, Int.reduceEq, Int.reduceBEq, and_true, true_and, and_false, false_and, decide_true, decide_false, if_true, if_false, Bool.false_eq_true, Bool.not_true, Bool.not_false, eq_self, obs, bsi, if_some_false, if_p_false, if_true_false, pkOk]
          congr 1
          rw [Bool.eq_iff_iff]
          cases wd <;> simp <;> omega
      · rcases hc with rfl | rfl | rfl | rfl | rfl | rfl
        all_goals by_cases hst : st = 0
        all_goals
          simp only [hst, decide_eq_false ha, Int.reduceLE, Int.reduceEq, Int.reduceBEq, and_true, true_and, and_false, false_and, decide_true, decide_false, if_true, if_false, Bool.false_eq_true, Bool.not_true, Bool.not_false, eq_self, obs, bsi, if_some_false, if_p_false, if_true_false, pkOk]
          congr 1
          rw [Bool.eq_iff_iff]
          cases wd <;> simp <;> omega
    · rw [decide_eq_false hf, if_neg (by simp)]
      simp [pkOk, hf]
  · rw [decide_eq_false hk, if_neg (by simp)]
    simp [pkOk, hk]


theorem cont_cr (l : List Int) : slices_ContainsFunc_int_int_impl_areCredits_1.f l = some (!l.all fun x => decide (0 ≤ x ∧ x ≤ 30)) := by
  unfold slices_ContainsFunc_int_int_impl_areCredits_1.f
  congr 1
  induction l with
  | nil => rfl
  | cons x xs ih =>
    rw [List.any_cons, List.all_cons, ih]
    unfold impl_areCredits_1.f
    rw [within_eq, obs]
    simp
theorem iacr_eq (l : List Int) : impl_areCredits.f l = some (crs_ l) := by
  unfold impl_areCredits.f crs_
  rw [cont_cr, obs]
  by_cases h : l.length = 3
  · rw [if_pos (by omega), decide_eq_true h]; simp
  · rw [if_neg (by omega), decide_eq_false h]; simp
theorem iapk_eq (l : List PT) (hy : ∀ y ∈ l, y.f7.length ≤ 1048576) : impl_arePackets.f l = some (l.all pk_) := by
  have h1 : ∀ x ∈ l, impl_arePackets_1.f 20 x.f0 x.f1 x.f2 x.f3 x.f4 x.f5 x.f6 x.f7 = some (!pk_ x) := fun x hx => by
    unfold impl_arePackets_1.f
    rw [ipk_eq x (hy x hx) 20 (by omega), obs]
  unfold impl_arePackets.f impl_Packet_impl_arePackets_1.f
  rw [if_pos (by rw [List.all_eq_true]; intro x hx; rw [h1 x hx]; rfl), obs]
  congr 1
  clear hy
  induction l with
  | nil => rfl
  | cons x xs ih =>
    rw [List.any_cons, List.all_cons, h1 x (by simp), Bool.not_or, ih (fun y hy => h1 y (by simp [hy]))]
    simp
theorem iqo_eq (w s : List PT) (h u : List Int) (wy : ∀ y ∈ w, y.f7.length ≤ 1048576) (sy : ∀ y ∈ s, y.f7.length ≤ 1048576) : impl_QueueOk.f w h u s = some (qok_ w h u s) := by
  unfold impl_QueueOk.f impl_CreditsOk.f qok_
  simp only [iapk_eq w wy, iapk_eq s sy, iacr_eq, obs, bsi, if_some_false, if_p_false, Bool.decide_eq_true]



theorem markIntB_eq (k : Nat) (l : List Int) (m : Int) (hl : l.length ≤ 1048576) (hk : l.length < k) (h0 : 0 ≤ m) (h1 : m ≤ 1152921504606846976) : laws_markIntS.f k l m = some (m + l.length, marks m l.length) := by
  have h := mark_loop laws_markIntS.l0 l.length m (fun k x0 i h3 h => by
      simp only [laws_markIntS.l0]
      rw [if_pos (by omega), if_pos (by omega), wr (m + i + 1) (by omega) (by omega), wr ((i : Int) + 1) (by omega) (by omega), show m + (i : Int) + 1 = m + ((i + 1 : Nat) : Int) by omega]
      rfl) (fun k x0 h3 => by
      simp only [laws_markIntS.l0]
      rw [if_neg (by omega)]) l.length k l 0 rfl (by omega) hk (fun j hj => by omega)
  unfold laws_markIntS.f
  simpa using h
theorem heldIntB_eq (k n : Nat) (m : Int) (hl : n ≤ 1048576) (hk : n < k) (h0 : 0 ≤ m) (h1 : m ≤ 1152921504606846976) : laws_heldIntS.f k (marks m n) m = some (m + n) := by
  have h := held_loop laws_heldIntS.l0 n m (fun k i h => by
      have hg : rd (marks m n) (i : Int) = m + i := by
        rw [rd_nat _ _ (by rw [marks_length]; exact h)]
        have := marks_get m n i h
        rw [List.getElem?_eq_getElem (by rw [marks_length]; exact h)] at this
        injection this
      simp only [laws_heldIntS.l0, marks_length]
      rw [if_pos (by omega), if_pos (by omega), hg, if_pos rfl, wr (m + i + 1) (by omega) (by omega), wr ((i : Int) + 1) (by omega) (by omega), show m + (i : Int) + 1 = m + ((i + 1 : Nat) : Int) by omega]
      rfl) (fun k => by
      simp only [laws_heldIntS.l0, marks_length]
      rw [if_neg (by omega)]) n k 0 (by omega) hk
  unfold laws_heldIntS.f
  simpa using h
/-- A marked list of packets, and how many marks there are. -/
def mkP : List PT → Int → List PT
  | [], _ => []
  | y :: ys, m => ⟨m, m + 1, m + 2, m + 3, m + 4, m + 5, m + 6, marks (m + 7) y.f7.length⟩ :: mkP ys (m + 7 + (y.f7.length : Int))
def ptS : List PT → Int
  | [] => 0
  | y :: ys => 7 + (y.f7.length : Int) + ptS ys
theorem mkP_len : ∀ (l : List PT) (m : Int), (mkP l m).length = l.length := by
  intro l
  induction l with
  | nil => intro m; rfl
  | cons y ys ih => intro m; rw [mkP, List.length_cons, List.length_cons, ih]
theorem ptS_bd : ∀ l : List PT, (∀ y ∈ l, y.f7.length ≤ 1048576) → 0 ≤ ptS l ∧ ptS l ≤ 1048583 * (l.length : Int) := by
  intro l
  induction l with
  | nil => intro _; simp [ptS]
  | cons y ys ih =>
    intro h
    have h1 := ih (fun z hz => h z (List.mem_cons_of_mem _ hz))
    have h2 := h y List.mem_cons_self
    rw [ptS, List.length_cons]
    omega
theorem w7 (m : Int) (h0 : 0 ≤ m) (h1 : m ≤ 1152921504606846000) : wrap64 (m + 1) = m + 1 ∧ wrap64 (m + 1 + 1) = m + 2 ∧ wrap64 (m + 2 + 1) = m + 3 ∧ wrap64 (m + 3 + 1) = m + 4 ∧ wrap64 (m + 4 + 1) = m + 5 ∧ wrap64 (m + 5 + 1) = m + 6 ∧ wrap64 (m + 6 + 1) = m + 7 := by
  refine ⟨wr _ (by omega) (by omega), ?_, ?_, ?_, ?_, ?_, ?_⟩
  · rw [wr _ (by omega) (by omega)]; omega
  · rw [wr _ (by omega) (by omega)]; omega
  · rw [wr _ (by omega) (by omega)]; omega
  · rw [wr _ (by omega) (by omega)]; omega
  · rw [wr _ (by omega) (by omega)]; omega
  · rw [wr _ (by omega) (by omega)]; omega
theorem mkp_loop : ∀ (rest done : List PT) (K : Nat) (m : Int), done.length + rest.length ≤ 1048576 → (∀ y ∈ rest, y.f7.length ≤ 1048576) → rest.length + 1048577 < K → 0 ≤ m → m + 1048583 * (rest.length : Int) ≤ 1152921504606840000 →
    laws_markPacketS.l0 K (done ++ rest) m (done.length : Int) = some (m + ptS rest, done ++ mkP rest m) := by
  intro rest
  induction rest with
  | nil =>
    intro done K m hl hy hK h0 h1
    obtain ⟨K, rfl⟩ : ∃ m, K = m + 1 := ⟨K - 1, by omega⟩
    rw [List.append_nil, mkP, List.append_nil]
    simp only [laws_markPacketS.l0]
    rw [if_neg (by omega)]
    simp [ptS]
  | cons y ys ih =>
    intro done K m hl hy hK h0 h1
    obtain ⟨K, rfl⟩ : ∃ m, K = m + 1 := ⟨K - 1, by omega⟩
    rw [List.length_cons] at hl hK h1
    have hyy := hy y List.mem_cons_self
    have hr : rd_T33 (done ++ y :: ys) (done.length : Int) = y := by rw [rd_pk _ _ (by simp)]; simp
    obtain ⟨e1, e2, e3, e4, e5, e6, e7⟩ := w7 m h0 (by omega)
    simp only [laws_markPacketS.l0]
    rw [if_pos (by rw [List.length_append, List.length_cons]; omega), if_pos (by omega), hr, e1, e2, e3, e4, e5, e6, e7, markIntB_eq K y.f7 (m + 7) hyy (by omega) (by omega) (by omega), obs, Int.toNat_natCast, wr ((done.length : Int) + 1) (by omega) (by omega)]
    have hset : ∀ z : PT, (done ++ y :: ys).set done.length z = (done ++ [z]) ++ ys := fun z => by
      rw [List.set_append_right _ _ (Nat.le_refl _)]; simp
    rw [hset]
    have := ih (done ++ [⟨m, m + 1, m + 2, m + 3, m + 4, m + 5, m + 6, marks (m + 7) y.f7.length⟩]) K (m + 7 + (y.f7.length : Int)) (by rw [List.length_append, List.length_singleton]; omega) (fun z hz => hy z (List.mem_cons_of_mem _ hz)) (by omega) (by omega) (by omega)
    rw [List.length_append, List.length_singleton, show ((done.length + 1 : Nat) : Int) = (done.length : Int) + 1 by omega] at this
    rw [this, ptS, mkP, List.append_assoc]
    congr 2
    omega
theorem hdp_loop : ∀ (rest done : List PT) (K : Nat) (m : Int), done.length + rest.length ≤ 1048576 → (∀ y ∈ rest, y.f7.length ≤ 1048576) → rest.length + 1048577 < K → 0 ≤ m → m + 1048583 * (rest.length : Int) ≤ 1152921504606840000 →
    laws_heldPacketS.l0 K (done ++ mkP rest m) m (done.length : Int) = some (m + ptS rest) := by
  intro rest
  induction rest with
  | nil =>
    intro done K m hl hy hK h0 h1
    obtain ⟨K, rfl⟩ : ∃ m, K = m + 1 := ⟨K - 1, by omega⟩
    rw [mkP, List.append_nil]
    simp only [laws_heldPacketS.l0]
    rw [if_neg (by omega)]
    simp [ptS]
  | cons y ys ih =>
    intro done K m hl hy hK h0 h1
    obtain ⟨K, rfl⟩ : ∃ m, K = m + 1 := ⟨K - 1, by omega⟩
    rw [List.length_cons] at hl hK h1
    have hyy := hy y List.mem_cons_self
    have hr : rd_T33 (done ++ mkP (y :: ys) m) (done.length : Int) = ⟨m, m + 1, m + 2, m + 3, m + 4, m + 5, m + 6, marks (m + 7) y.f7.length⟩ := by rw [mkP, rd_pk _ _ (by simp)]; simp
    obtain ⟨e1, e2, e3, e4, e5, e6, e7⟩ := w7 m h0 (by omega)
    simp only [laws_heldPacketS.l0]
    rw [if_pos (by rw [List.length_append, mkP_len, List.length_cons]; omega), if_pos (by omega), hr]
    dsimp only
    rw [e1, e2, e3, e4, e5, e6, e7, if_pos rfl, if_pos rfl, if_pos rfl, if_pos rfl, if_pos rfl, if_pos rfl, if_pos rfl, heldIntB_eq K y.f7.length (m + 7) hyy (by omega) (by omega) (by omega), obs, if_neg (by omega), wr ((done.length : Int) + 1) (by omega) (by omega)]
    have := ih (done ++ [⟨m, m + 1, m + 2, m + 3, m + 4, m + 5, m + 6, marks (m + 7) y.f7.length⟩]) K (m + 7 + (y.f7.length : Int)) (by rw [List.length_append, List.length_singleton]; omega) (fun z hz => hy z (List.mem_cons_of_mem _ hz)) (by omega) (by omega) (by omega)
    rw [List.length_append, List.length_singleton, show ((done.length + 1 : Nat) : Int) = (done.length : Int) + 1 by omega, List.append_assoc] at this
    rw [mkP]
    refine Eq.trans this ?_
    rw [ptS]
    congr 1
    omega
/-- A marked queue is held: its marks are read as they were set. -/
theorem markQ_eq (K : Nat) (w s : List PT) (h u : List Int) (w0 : w.length ≤ 1048576) (wy : ∀ y ∈ w, y.f7.length ≤ 1048576) (s0 : s.length ≤ 1048576) (sy : ∀ y ∈ s, y.f7.length ≤ 1048576) (h0 : h.length ≤ 1048576) (u0 : u.length ≤ 1048576) (hK : 2097154 < K) :
    ∃ n zw zh zu zs, laws_markQueue.f K w h u s 1 = some (n, zw, zh, zu, zs) ∧ 0 ≤ n ∧ laws_heldQueue.f K zw zh zu zs 1 = some n := by
  have bw := ptS_bd w wy
  have bs := ptS_bd s sy
  have m1 := mkp_loop w [] K 1 (by simpa using w0) wy (by omega) (by omega) (by omega)
  have g1 := hdp_loop w [] K 1 (by simpa using w0) wy (by omega) (by omega) (by omega)
  rw [List.nil_append, List.nil_append] at m1
  rw [List.nil_append] at g1
  have m2 := markIntB_eq K h (1 + ptS w) h0 (by omega) (by omega) (by omega)
  have g2 := heldIntB_eq K h.length (1 + ptS w) h0 (by omega) (by omega) (by omega)
  have m3 := markIntB_eq K u (1 + ptS w + (h.length : Int)) u0 (by omega) (by omega) (by omega)
  have g3 := heldIntB_eq K u.length (1 + ptS w + (h.length : Int)) u0 (by omega) (by omega) (by omega)
  have m4 := mkp_loop s [] K (1 + ptS w + (h.length : Int) + (u.length : Int)) (by simpa using s0) sy (by omega) (by omega) (by omega)
  have g4 := hdp_loop s [] K (1 + ptS w + (h.length : Int) + (u.length : Int)) (by simpa using s0) sy (by omega) (by omega) (by omega)
  rw [List.nil_append, List.nil_append] at m4
  rw [List.nil_append] at g4
  have m1' : laws_markPacketS.f K w 1 = some (1 + ptS w, mkP w 1) := m1
  have m4' : laws_markPacketS.f K s (1 + ptS w + (h.length : Int) + (u.length : Int)) = some (1 + ptS w + (h.length : Int) + (u.length : Int) + ptS s, mkP s (1 + ptS w + (h.length : Int) + (u.length : Int))) := m4
  have g1' : laws_heldPacketS.f K (mkP w 1) 1 = some (1 + ptS w) := g1
  have g4' : laws_heldPacketS.f K (mkP s (1 + ptS w + (h.length : Int) + (u.length : Int))) (1 + ptS w + (h.length : Int) + (u.length : Int)) = some (1 + ptS w + (h.length : Int) + (u.length : Int) + ptS s) := g4
  refine ⟨1 + ptS w + (h.length : Int) + (u.length : Int) + ptS s, mkP w 1, marks (1 + ptS w) h.length, marks (1 + ptS w + (h.length : Int)) u.length, mkP s (1 + ptS w + (h.length : Int) + (u.length : Int)), ?_, ?_, ?_⟩
  · unfold laws_markQueue.f laws_markCredits.f
    rw [m1', obs]
    simp only [m2, m3, obs, m4']
  · omega
  · unfold laws_heldQueue.f laws_heldCredits.f
    rw [g1', obs, if_neg (by omega), g2, obs, if_neg (by omega), g3, obs, if_neg (by omega), obs, if_neg (by omega), g4', obs, if_neg (by omega)]

/-- A marked queue is held: its marks are read as they were set. -/
theorem markQ_eq2 (K : Nat) (w s : List PT) (h u : List Int) (w0 : w.length ≤ 1048576) (wy : ∀ y ∈ w, y.f7.length ≤ 1048576) (s0 : s.length ≤ 1048576) (sy : ∀ y ∈ s, y.f7.length ≤ 1048576) (h0 : h.length ≤ 1048576) (u0 : u.length ≤ 1048576) (hK : 2097154 < K) :
    ∃ n zw zh zu zs, laws_markQueue.f K w h u s 1 = some (n, zw, zh, zu, zs) ∧ 0 ≤ n ∧ n ≤ 1152921504606846976 ∧ laws_heldQueue.f K zw zh zu zs 1 = some n := by
  have bw := ptS_bd w wy
  have bs := ptS_bd s sy
  have m1 := mkp_loop w [] K 1 (by simpa using w0) wy (by omega) (by omega) (by omega)
  have g1 := hdp_loop w [] K 1 (by simpa using w0) wy (by omega) (by omega) (by omega)
  rw [List.nil_append, List.nil_append] at m1
  rw [List.nil_append] at g1
  have m2 := markIntB_eq K h (1 + ptS w) h0 (by omega) (by omega) (by omega)
  have g2 := heldIntB_eq K h.length (1 + ptS w) h0 (by omega) (by omega) (by omega)
  have m3 := markIntB_eq K u (1 + ptS w + (h.length : Int)) u0 (by omega) (by omega) (by omega)
  have g3 := heldIntB_eq K u.length (1 + ptS w + (h.length : Int)) u0 (by omega) (by omega) (by omega)
  have m4 := mkp_loop s [] K (1 + ptS w + (h.length : Int) + (u.length : Int)) (by simpa using s0) sy (by omega) (by omega) (by omega)
  have g4 := hdp_loop s [] K (1 + ptS w + (h.length : Int) + (u.length : Int)) (by simpa using s0) sy (by omega) (by omega) (by omega)
  rw [List.nil_append, List.nil_append] at m4
  rw [List.nil_append] at g4
  have m1' : laws_markPacketS.f K w 1 = some (1 + ptS w, mkP w 1) := m1
  have m4' : laws_markPacketS.f K s (1 + ptS w + (h.length : Int) + (u.length : Int)) = some (1 + ptS w + (h.length : Int) + (u.length : Int) + ptS s, mkP s (1 + ptS w + (h.length : Int) + (u.length : Int))) := m4
  have g1' : laws_heldPacketS.f K (mkP w 1) 1 = some (1 + ptS w) := g1
  have g4' : laws_heldPacketS.f K (mkP s (1 + ptS w + (h.length : Int) + (u.length : Int))) (1 + ptS w + (h.length : Int) + (u.length : Int)) = some (1 + ptS w + (h.length : Int) + (u.length : Int) + ptS s) := g4
  refine ⟨1 + ptS w + (h.length : Int) + (u.length : Int) + ptS s, mkP w 1, marks (1 + ptS w) h.length, marks (1 + ptS w + (h.length : Int)) u.length, mkP s (1 + ptS w + (h.length : Int) + (u.length : Int)), ?_, ?_, ?_, ?_⟩
  · unfold laws_markQueue.f laws_markCredits.f
    rw [m1', obs]
    simp only [m2, m3, obs, m4']
  · omega
  · omega
  · unfold laws_heldQueue.f laws_heldCredits.f
    rw [g1', obs, if_neg (by omega), g2, obs, if_neg (by omega), g3, obs, if_neg (by omega), obs, if_neg (by omega), g4', obs, if_neg (by omega)]


theorem szQueue_some2 (q s : List S46) (h u : List Int) (q0 : q.length ≤ 9223372036854775807) (qy : ∀ y ∈ q, y.f7.length ≤ 9223372036854775807) (s0 : s.length ≤ 9223372036854775807) (sy : ∀ y ∈ s, y.f7.length ≤ 9223372036854775807) (h0 : h.length ≤ 9223372036854775807) (u0 : u.length ≤ 9223372036854775807) (K : Nat) (hK : 1048577 < K) :
    ∃ r, laws_szQueue.f K q h u s 1048576 = some r ∧ (r < 0 ∨ (r ≤ 1048576 ∧ q.length ≤ 1048576 ∧ (∀ y ∈ q, y.f7.length ≤ 1048576) ∧ s.length ≤ 1048576 ∧ (∀ y ∈ s, y.f7.length ≤ 1048576) ∧ h.length ≤ 1048576 ∧ u.length ≤ 1048576)) := by
  unfold laws_szQueue.f laws_szCredits.f
  obtain ⟨r, e, hr⟩ := szPacketS_some q 1048576 q0 qy (by omega) (by omega) K hK
  rw [e, obs]
  rcases hr with hr | ⟨r0, r1, r2, r3⟩
  · rw [if_pos hr]; exact ⟨-1, rfl, .inl (by omega)⟩
  · rw [if_neg (by omega), szIntS_eq h r h0 r0 (by omega), obs]
    by_cases hb : r < (h.length : Int)
    · rw [if_pos hb]; exact ⟨-1, by simp, .inl (by omega)⟩
    · rw [if_neg hb, if_neg (by omega), szIntS_eq u _ u0 (by omega) (by omega), obs]
      by_cases hb2 : r - (h.length : Int) < (u.length : Int)
      · rw [if_pos hb2]; exact ⟨-1, by simp, .inl (by omega)⟩
      · rw [if_neg hb2, if_neg (by omega), obs, if_neg (by omega)]
        obtain ⟨t, e2, ht⟩ := szPacketS_some s (r - (h.length : Int) - (u.length : Int)) s0 sy (by omega) (by omega) K hK
        rw [e2, obs]
        rcases ht with ht | ⟨t0, t1, t2, t3⟩
        · rw [if_pos ht]; exact ⟨-1, rfl, .inl (by omega)⟩
        · rw [if_neg (by omega)]
          exact ⟨t, rfl, .inr ⟨by omega, r2, r3, t2, t3, by omega, by omega⟩⟩

/-- A valid packet enters a valid queue that has a place. -/
def en_ (w : List PT) (h u : List Int) (s : List PT) (x : PT) : List PT × List Int × List Int × List PT × Bool :=
  if qok_ w h u s = true then (if pk_ x = true then (if (w.length : Int) = 12 then (w, h, u, s, false) else (w ++ [x], h, u, s, true)) else (w, h, u, s, false)) else (w, h, u, s, false)
theorem sen_eq (w s : List PT) (h u : List Int) (x : PT) (w0 : w.length ≤ 1048576) (wy : ∀ y ∈ w, y.f7.length ≤ 1048576) (s0 : s.length ≤ 1048576) (sy : ∀ y ∈ s, y.f7.length ≤ 1048576) (hh : h.length ≤ 1048576) (hu : u.length ≤ 1048576) (hx : x.f7.length ≤ 1048576) (K : Nat) (hK : 4000000 < K) :
    spec_EnterQueue.f K w h u s x.f0 x.f1 x.f2 x.f3 x.f4 x.f5 x.f6 x.f7 = some (en_ w h u s x) := by
  unfold spec_EnterQueue.f en_
  rw [scopyQ_eq K w s h u w0 wy s0 sy hh hu (by omega), obs, sqo_eq w s h u w0 wy s0 sy K hK, obs]
  by_cases hq : qok_ w h u s = true
  · rw [if_pos hq, if_pos hq, spk_eq x hx K (by omega), obs]
    by_cases hp : pk_ x = true
    · rw [if_pos hp, if_pos hp]
      by_cases h12 : (w.length : Int) = 12
      · rw [if_pos h12, if_pos h12]
      · rw [if_neg h12, if_neg h12]
        unfold spec_l04Copy.f
        rw [obs, if_pos (by simp; omega), obs, if_pos (by dsimp only; omega)]
        rfl
    · rw [if_neg hp, if_neg hp]
  · rw [if_neg hq, if_neg hq]
theorem ien_eq (w s : List PT) (h u : List Int) (x : PT) (w0 : w.length ≤ 1048576) (wy : ∀ y ∈ w, y.f7.length ≤ 1048576) (s0 : s.length ≤ 1048576) (sy : ∀ y ∈ s, y.f7.length ≤ 1048576) (hh : h.length ≤ 1048576) (hu : u.length ≤ 1048576) (hx : x.f7.length ≤ 1048576) (K : Nat) (hK : 4000000 < K) :
    impl_EnterQueue.g K w h u s x.f0 x.f1 x.f2 x.f3 x.f4 x.f5 x.f6 x.f7 = some (en_ w h u s x) := by
  unfold impl_EnterQueue.g en_
  rw [icopyQ_eq K w s h u w0 wy s0 sy hh hu (by omega), obs, iqo_eq w s h u wy sy, obs]
  by_cases hq : qok_ w h u s = true
  · rw [if_pos hq, if_pos hq, ipk_eq x hx K (by omega), obs]
    by_cases hp : pk_ x = true
    · rw [if_pos hp, if_pos hp]
      by_cases h12 : (w.length : Int) = 12
      · rw [if_pos h12, if_pos h12]
      · rw [if_neg h12, if_neg h12]
        unfold impl_copyPacket.f slices_Clone_int_int.f
        rw [if_pos (show x.f7.length ≤ 17592186044416 by omega)]
        simp only [obs]
        rw [if_pos (show w.length < 1759218604441 by omega)]
    · rw [if_neg hp, if_neg hp]
  · rw [if_neg hq, if_neg hq]
theorem en_good (w s : List PT) (h u : List Int) (x : PT) (w0 : w.length ≤ 1048576) (wy : ∀ y ∈ w, y.f7.length ≤ 1048576) (s0 : s.length ≤ 1048576) (sy : ∀ y ∈ s, y.f7.length ≤ 1048576) (hh : h.length ≤ 1048576) (hu : u.length ≤ 1048576) (hx : x.f7.length ≤ 1048576) :
    (en_ w h u s x).1.length ≤ 1048576 ∧ (∀ y ∈ (en_ w h u s x).1, y.f7.length ≤ 1048576) ∧ (en_ w h u s x).2.2.2.1.length ≤ 1048576 ∧ (∀ y ∈ (en_ w h u s x).2.2.2.1, y.f7.length ≤ 1048576) ∧ (en_ w h u s x).2.1.length ≤ 1048576 ∧ (en_ w h u s x).2.2.1.length ≤ 1048576 := by
  have base : w.length ≤ 1048576 ∧ (∀ y ∈ w, y.f7.length ≤ 1048576) ∧ s.length ≤ 1048576 ∧ (∀ y ∈ s, y.f7.length ≤ 1048576) ∧ h.length ≤ 1048576 ∧ u.length ≤ 1048576 := ⟨w0, wy, s0, sy, hh, hu⟩
  unfold en_
  by_cases hq : qok_ w h u s = true
  · rw [if_pos hq]
    by_cases hp : pk_ x = true
    · rw [if_pos hp]
      by_cases h12 : (w.length : Int) = 12
      · rw [if_pos h12]; exact base
      · rw [if_neg h12]
        have a := (qok_facts hq).1
        exact ⟨by rw [List.length_append, List.length_singleton]; omega, fun y hy => by
          rcases List.mem_append.1 hy with hy | hy
          · exact wy y hy
          · rw [List.mem_singleton.1 hy]; exact hx, s0, sy, hh, hu⟩
    · rw [if_neg hp]; exact base
  · rw [if_neg hq]; exact base
theorem FnExactEnterQueue (l0_0 : List (S46)) (l0_1 : List Int) (l0_2 : List Int) (l0_3 : List (S46)) (a1_0 a1_1 a1_2 a1_3 a1_4 a1_5 a1_6 : Int) (l1_7 : List Int)
    (h0 : l0_0.length ≤ 9223372036854775807) (h1 : (∀ y ∈ l0_0, ((Lit.int .i64 y.f0).wf = true) ∧ ((Lit.int .i64 y.f1).wf = true) ∧ ((Lit.int .i64 y.f2).wf = true) ∧ ((Lit.int .i64 y.f3).wf = true) ∧ ((Lit.int .i64 y.f4).wf = true) ∧ ((Lit.int .i64 y.f5).wf = true) ∧ ((Lit.int .i64 y.f6).wf = true) ∧ (y.f7.length ≤ 9223372036854775807 ∧ ∀ y2 ∈ y.f7, (Lit.int .i64 y2).wf = true))) (h2 : l0_1.length ≤ 9223372036854775807) (h3 : (∀ y ∈ l0_1, (Lit.int .i64 y).wf = true)) (h4 : l0_2.length ≤ 9223372036854775807) (h5 : (∀ y ∈ l0_2, (Lit.int .i64 y).wf = true)) (h6 : l0_3.length ≤ 9223372036854775807) (h7 : (∀ y ∈ l0_3, ((Lit.int .i64 y.f0).wf = true) ∧ ((Lit.int .i64 y.f1).wf = true) ∧ ((Lit.int .i64 y.f2).wf = true) ∧ ((Lit.int .i64 y.f3).wf = true) ∧ ((Lit.int .i64 y.f4).wf = true) ∧ ((Lit.int .i64 y.f5).wf = true) ∧ ((Lit.int .i64 y.f6).wf = true) ∧ (y.f7.length ≤ 9223372036854775807 ∧ ∀ y2 ∈ y.f7, (Lit.int .i64 y2).wf = true)))
    (g0_ : (Lit.int .i64 a1_0).wf = true) (g1_ : (Lit.int .i64 a1_1).wf = true) (g2_ : (Lit.int .i64 a1_2).wf = true) (g3_ : (Lit.int .i64 a1_3).wf = true) (g4_ : (Lit.int .i64 a1_4).wf = true) (g5_ : (Lit.int .i64 a1_5).wf = true) (g6_ : (Lit.int .i64 a1_6).wf = true) (g7_ : l1_7.length ≤ 9223372036854775807) (g8_ : (∀ y ∈ l1_7, (Lit.int .i64 y).wf = true)) :
    ∃ k, laws_FnExactEnterQueue.f k l0_0 l0_1 l0_2 l0_3 a1_0 a1_1 a1_2 a1_3 a1_4 a1_5 a1_6 l1_7 = some true := by
  obtain ⟨K, hK⟩ : ∃ K : Nat, 5000000 < K := ⟨5000001, by omega⟩
  refine ⟨K, ?_⟩
  unfold laws_FnExactEnterQueue.f
  obtain ⟨r, e, hr⟩ := szQueue_some2 l0_0 l0_3 l0_1 l0_2 h0 (fun y hy => (h1 y hy).2.2.2.2.2.2.2.1) h6 (fun y hy => (h7 y hy).2.2.2.2.2.2.2.1) h2 h4 K (by omega)
  rw [e, obs]
  rcases hr with hr | ⟨hrb, q0, qy, s0, sy, g0, u0⟩
  · rw [if_pos hr]
  · by_cases hr0 : r < 0
    · rw [if_pos hr0]
    · rw [if_neg hr0]
      unfold laws_szPacket.f
      rw [szIntS_eq l1_7 r g7_ (by omega) hrb, obs]
      by_cases hb : r < (l1_7.length : Int)
      · rw [if_pos hb]; simp
      · have hx : l1_7.length ≤ 1048576 := by omega
        rw [if_neg hb, if_neg (by omega), obs, if_neg (by omega)]
        have wy : ∀ y ∈ l0_0.map toPk, y.f7.length ≤ 1048576 := fun y hy => by obtain ⟨x, hx, rfl⟩ := List.mem_map.1 hy; exact qy x hx
        have ty : ∀ y ∈ l0_3.map toPk, y.f7.length ≤ 1048576 := fun y hy => by obtain ⟨x, hx, rfl⟩ := List.mem_map.1 hy; exact sy x hx
        have w0 : (l0_0.map toPk).length ≤ 1048576 := by simpa using q0
        have t0 : (l0_3.map toPk).length ≤ 1048576 := by simpa using s0
        obtain ⟨x, ex⟩ : ∃ x : PT, x = ⟨a1_0, a1_1, a1_2, a1_3, a1_4, a1_5, a1_6, l1_7⟩ := ⟨_, rfl⟩
        have hxl : x.f7.length ≤ 1048576 := by rw [ex]; exact hx
        obtain ⟨b0, b1, b2, b3, b4, b5⟩ := en_good (l0_0.map toPk) (l0_3.map toPk) l0_1 l0_2 x w0 wy t0 ty g0 u0 hxl
        obtain ⟨n1, x0, x1, x2, x3, em, hn1, hn1b, _⟩ := markQ_eq2 K (l0_0.map toPk) (l0_3.map toPk) l0_1 l0_2 w0 wy t0 ty g0 u0 (by omega)
        obtain ⟨n2, z0, z1, z2, z3, eg, hn2, eh⟩ := markQ_eq K (en_ (l0_0.map toPk) l0_1 l0_2 (l0_3.map toPk) x).1 (en_ (l0_0.map toPk) l0_1 l0_2 (l0_3.map toPk) x).2.2.2.1 (en_ (l0_0.map toPk) l0_1 l0_2 (l0_3.map toPk) x).2.1 (en_ (l0_0.map toPk) l0_1 l0_2 (l0_3.map toPk) x).2.2.1 b0 b1 b2 b3 b4 b5 (by omega)
        have hs := sen_eq (l0_0.map toPk) (l0_3.map toPk) l0_1 l0_2 x w0 wy t0 ty g0 u0 hxl K (by omega)
        have hi := ien_eq (l0_0.map toPk) (l0_3.map toPk) l0_1 l0_2 x w0 wy t0 ty g0 u0 hxl K (by omega)
        rw [ex] at hs hi
        dsimp only at hs hi
        rw [← ex] at hs hi
        rw [toQueue_eq K l0_0 l0_3 l0_1 l0_2 q0 qy s0 sy g0 u0 (by omega), obs]
        unfold laws_toPacket.f
        rw [toIntS_eq K l1_7 hx (by omega), obs, obs]
        dsimp only
        rw [hs, obs, hi, obs, eqQueue_self K _ _ _ _ b0 b1 b2 b3 b4 b5 (by omega), obs, eqQueue_self K _ _ _ _ w0 wy t0 ty g0 u0 (by omega), obs]
        unfold laws_eqPacket.f laws_markPacket.f
        rw [if_pos rfl, if_pos rfl, if_pos rfl, if_pos rfl, if_pos rfl, if_pos rfl, if_pos rfl, eqIntS_eq K l1_7 l1_7 hx (by omega), obs, decide_eq_true rfl, if_pos rfl, obs, em, obs, markIntB_eq K l1_7 n1 hx (by omega) hn1 hn1b, obs, obs, eg, obs, eh, obs, if_pos ⟨rfl, rfl, rfl, by dsimp only; omega, hn2, rfl, rfl⟩]

end Go.Proofs.Ytabefbjagompoaa.Pure
