/- The contract of slices.Repeat of one int (twelve times or fewer). -/
import Derived.Test.YtbbppknnkghkjaaFns
import Derived.Test.YtbbppknnkghkjaaFnsMul
import Derived.Laws.CopyOwn
import Derived.Deep.RegionLaw
namespace Go.Proofs.Ytbbppknnkghkjaa.Fns
open Go.RowKit Go.Shelf Go.Proofs.YtbbppknnkghkjaaW.PrintWords
set_option linter.unusedVariables false
set_option linter.unusedSimpArgs false

theorem mul1 (m : Nat) (W : World) (h : m ≤ 12) : Calls Try.prog 129 #[.int .u64 1, .int .u64 m] W fun e w' => e = .returned (.tuple #[.int .u64 0, .int .u64 m]) ∧ w' = W := by
  have h1 := Any.bits_Mul mulLaid 1 m (by omega) (by omega) W
  rw [show ((1 * m / 18446744073709551616 : Nat) : Int) = 0 by omega, show ((1 * m % 18446744073709551616 : Nat) : Int) = (m : Int) by omega] at h1
  exact h1
/-- The cells of a row of n times v, as far as k. -/
theorem take_splice (cur : List Value) (k c : Nat) (v : Value) (h : cur.take k = List.replicate k v) (hk : k + c ≤ cur.length) : (splice cur k (List.replicate c v)).take (k + c) = List.replicate (k + c) v := by
  unfold splice
  rw [h, ← List.append_assoc, List.replicate_append_replicate, List.take_append_of_le_length (by simp), List.take_of_length_le (by simp)]

theorem row_open {w : World} {b m : Nat} {ok : Nat → Prop} {v : Value} (ho : Kd.R (Kd.int .i64) 3 w b ok v (List.replicate m (0 : Int))) (hn : ∃ q, v.ownBlock = some q ∧ b ≤ q) :
    ∃ g cap cur, v = .slice (some ⟨g, 0, none⟩) m cap ∧ b ≤ g ∧ w.heap[g]? = some (.cells (cur : List Value).toArray 3 (0, 0)) ∧ m ≤ cap ∧ cap ≤ maxLen ∧ cur.length = cap := by
  obtain ⟨_, inner, ⟨h1, h2⟩, _⟩ := ho
  rcases h2 with ⟨rfl, _⟩ | ⟨g, cap, cur, rfl, hg, hh, h3, h4, h5, _⟩
  · obtain ⟨q, hq, _⟩ := hn; simp [Value.ownBlock] at hq
  · rw [List.length_replicate] at h3
    exact ⟨g, cap, cur.toList, by rw [List.length_replicate], hg, by simpa using hh, h3, h4, by rw [Array.length_toList, h5]; exact Nat.mul_one _⟩
theorem row_close {w : World} {b m g cap : Nat} {cur : List Value} {v : Int} (hg : b ≤ g) (hh : w.heap[g]? = some (.cells cur.toArray 3 (0, 0))) (h1 : m ≤ cap) (h2 : cap ≤ maxLen) (h3 : cur.length = cap) (h4 : cur.take m = List.replicate m (.int .i64 v)) :
    Kd.R (Kd.int .i64) 3 w b (fun _ => True) (.slice (some ⟨g, 0, none⟩) m cap) (List.replicate m v) := by
  refine Kd.R_of_own (enc := Value.int .i64) (h1 := fun _ => rfl) ⟨by simp [encs], .inr ⟨g, cap, cur.toArray, by rw [List.length_replicate], hg, hh, by rw [List.length_replicate]; exact h1, h2, by simp [h3], ?_⟩⟩ (fun _ _ => trivial)
  simp [encs, h4]

theorem src1 {cs : List Value} {m : Nat} {v : Int} {ad : Addr} {w w4 : World} (hcs : cs = List.replicate (Nat.min 1 m) (Value.int .i64 v)) (hx : w.cell? ad = some (.int .i64 v)) (hb : Below w.heap.size w w4) {j : Nat} {u : Value} (hj : cs[j]? = some u) : w4.cell? (ad.add j) = some u := by
  subst hcs
  obtain ⟨h1, h2⟩ := List.getElem?_eq_some_iff.1 hj
  rw [List.length_replicate] at h1
  have h3 : Nat.min 1 m ≤ 1 := Nat.min_le_left 1 m
  obtain rfl : j = 0 := by omega
  rw [List.getElem_replicate] at h2
  subst h2
  rw [Addr.add_zero']
  exact pw_cell_below hb hx

theorem wrap_sum (k c : Nat) (h : k + c ≤ 1000) : IntKind.i64.wrap ((k : Int) + (c : Int)) = ((k + c : Nat) : Int) := by
  rw [IntKind.wrap_i64]; omega
theorem src2 {cu cs2 : List Value} {k c2 g : Nat} {v : Int} {W : World} (hh : W.heap[g]? = some (.cells cu.toArray 3 (0, 0))) (ht : cu.take k = List.replicate k (.int .i64 v)) (hcs : cs2 = List.replicate c2 (Value.int .i64 v)) (hc : c2 ≤ k) {j : Nat} {u : Value} (hj : cs2[j]? = some u) : W.drew.cell? ((⟨g, 0, none⟩ : Addr).add j) = some u := by
  subst hcs
  obtain ⟨h1, h2⟩ := List.getElem?_eq_some_iff.1 hj
  rw [List.length_replicate] at h1
  rw [List.getElem_replicate] at h2
  subst h2
  have e : cu[j]? = some (.int .i64 v) := by
    rw [← List.getElem?_take_of_lt (show j < k by omega), ht, List.getElem?_replicate, if_pos (by omega)]
  have := blk_cell (w := W.drew) (g := g) hh j
  rw [show (⟨g, 0, none⟩ : Addr).add j = ⟨g, j, none⟩ by simp [Addr.add]; intro h; exact h.symm]
  rw [this]
  simpa using e

set_option maxHeartbeats 4000000 in
set_option maxRecDepth 100000 in
theorem repeat1 (ad : Addr) (c m : Nat) (v : Int) (w : World) (hx : w.cell? ad = some (.int .i64 v)) (h1 : m ≤ 12) :
    Calls Try.prog 98 #[.slice (some ad) 1 c, .int .i64 m] w fun e w' => ∃ v0_ : Value, e = .returned (v0_) ∧ Kd.R (Kd.int .i64) 3 w' w.heap.size (fun _ => True) v0_ (List.replicate m v) ∧ Below w.heap.size w w' := by
  have hm := fun W => mul1 m W h1
  have hneg : ((m : Int) < 0) = False := eq_false (by omega)
  have hbig : ((m : Int) > 9223372036854775807) = False := eq_false (by omega)
  have hi : ((Try.prog.info? 3).map (·.size)) = some 1 := by kernel_rfl
  have hinf : (Try.prog.info? 3).map (fun i => (i.zero, i.size, i.bytes)) = some (some (.int .i64 0), 1, 8) := by kernel_rfl
  obtain ⟨cs, hcs⟩ : ∃ cs, cs = List.replicate (Nat.min 1 m) (Value.int .i64 v) := ⟨_, rfl⟩
  have HCS := Aside0.mk hcs
  have hcl : cs.length = Nat.min 1 m := by rw [hcs, List.length_replicate]
  have HCL := Aside0.mk hcl
  clear hcs hcl
  have hone : Aside0 (∀ u ∈ cs, u.oneCell' = true) := ⟨fun u hu => by rw [HCS.out] at hu; rw [List.eq_of_mem_replicate hu]; rfl⟩
  go_enter Try.func98, Try.ntmps98
  go_wp2_with (first | (go_at_call 129; refine (hm _).mono ?_; rintro e w' ⟨rfl, hw'⟩; rw [hw']; clear hw') | ((with_reducible refine gate_dst (N := 30) rfl ?_); refine Kd.R_make (Kd.int .i64) _ 3 rfl (N := 30) rfl 23 _ _ rfl (m : Int) rfl rfl Try.underlying23 (.int .i64 0) 8 hinf rfl (by decide) (by omega) (0 : Int) (ok := fun _ => True) (okp := fun _ => True) rfl (fun _ hk => hk) trivial (by omega) (by omega) (Below.refl _ _) (Nat.le_refl _) ?_; intro v1 w4 ho5 hb5 hg5 hn5; rw [Int.toNat_natCast] at ho5; obtain ⟨g, cap, cur, rfl, hgb, hh, hmc, hcm, hsz⟩ := row_open ho5 hn5; have HB := Aside0.mk hb5; have HG := Aside0.mk hgb; have HH := Aside0.mk hh; have HSZ := Aside0.mk hsz; have hfit0 : 0 + Nat.min 1 m ≤ cap := (by have : Nat.min 1 m ≤ m := Nat.min_le_right 1 m; omega); have hsrc : Aside0 (∀ j u, cs[j]? = some u → w4.cell? (ad.add j) = some u) := ⟨fun j u hj => src1 HCS.out hx hb5 hj⟩; clear ho5 hb5 hg5 hn5 hgb hh hsz) | (refine wpList_copy_splice rfl (.tmp 31) (.tmp 32) 23 23 rfl 3 Try.underlying23 hi (some ⟨g, 0, none⟩) (some ad) m cap 1 c rfl rfl g 0 cur 3 HH.out cs (HCL.out) (fun hp => ⟨rfl, ad, rfl, hsrc.out⟩) (by rw [HCL.out, HSZ.out]; exact hfit0) hone.out w.heap.size w HB.out HG.out ?_; intro w5 hh5 hb5))
  go_loopg [8] m (fun gg s8 wr => ∃ (k : Nat) (cu : List Value), k ≤ m ∧ m - k ≤ gg ∧ (0 < m → 0 < k) ∧ s8 = .int .i64 k ∧ Aside0 (wr.heap[g]? = some (.cells cu.toArray 3 (0, 0))) ∧ Aside0 (cu.length = cap) ∧ Aside0 (cu.take k = List.replicate k (.int .i64 v)) ∧ Aside0 (Below w.heap.size w wr))
  case atStart =>
    have hmin : Nat.min 1 m ≤ m := Nat.min_le_right 1 m
    have hle : 0 + Nat.min 1 m ≤ cur.length := by rw [HSZ.out]; exact hfit0
    refine ⟨Nat.min 1 m, splice cur 0 cs, hmin, by omega, fun h => by show 0 < min 1 m; omega, by rw [HCL.out], ⟨hh5⟩, ⟨by rw [length_splice _ _ _ (by rw [HCL.out]; exact hle)]; exact HSZ.out⟩, ⟨?_⟩, ⟨hb5⟩⟩
    rw [HCS.out]
    have := take_splice cur 0 (Nat.min 1 m) (.int .i64 v) rfl hle
    rw [Nat.zero_add] at this
    exact this
  case round =>
    obtain ⟨k, cu, hk, hg, hpos, rfl, HC, HL, HT, HB2⟩ := hrel
    by_cases hlt : k < m
    · have hltz : (k : Int) < (m : Int) := by omega
      have hkc : k ≤ cap := by omega
      have hk0 : (0 : Int) ≤ (k : Int) := by omega
      have hkm : (k : Int) ≤ (m : Int) := by omega
      have hkcz : (k : Int) ≤ (cap : Int) := by omega
      obtain ⟨c2, hc2⟩ : ∃ c2, c2 = Nat.min k (m - k) := ⟨_, rfl⟩
      have h2a : c2 ≤ k := by rw [hc2]; exact Nat.min_le_left _ _
      have h2b : c2 ≤ m - k := by rw [hc2]; exact Nat.min_le_right _ _
      have h2c : 0 < c2 := by rw [hc2]; show 0 < min k (m - k); have := hpos (by omega); omega
      obtain ⟨cs2, hcs2⟩ : ∃ cs2, cs2 = List.replicate c2 (Value.int .i64 v) := ⟨_, rfl⟩
      have HL2 : Aside0 (cs2.length = c2) := ⟨by rw [hcs2, List.length_replicate]⟩
      have HN2 : Aside0 (cs2.length = Nat.min k (m - k)) := ⟨by rw [HL2.out, hc2]⟩
      have HO2 : Aside0 (∀ u ∈ cs2, u.oneCell' = true) := ⟨fun u hu => by rw [hcs2] at hu; rw [List.eq_of_mem_replicate hu]; rfl⟩
      have HF2 : Aside0 (k + cs2.length ≤ cu.length) := ⟨by rw [HL2.out, HL.out]; omega⟩
      have HS2 : Aside0 (∀ j u, cs2[j]? = some u → wr.drew.cell? ((⟨g, 0, none⟩ : Addr).add j) = some u) := ⟨fun j u hj => src2 HC.out HT.out hcs2 h2a hj⟩
      have HC2 : Aside0 (wr.drew.heap[g]? = some (.cells cu.toArray 3 (0, 0))) := ⟨HC.out⟩
      have HB3 : Aside0 (Below w.heap.size w wr.drew) := ⟨below_drew1 HB2.out⟩
      have HCS2 := Aside0.mk hcs2
      clear hc2 hcs2
      go_wp2
      go_region_law (refine step_copy_splice rfl (.tmp 41) (.tmp 44) 23 23 rfl 3 Try.underlying23 hi (some ⟨g, k, none⟩) (some ⟨g, 0, none⟩) (m - k) (cap - k) k cap (by simp [Act.eval, Act.put]; omega) (by simp [Act.eval, Act.put]) g k cu 3 HC2.out cs2 HN2.out (fun _ => ⟨rfl, _, rfl, HS2.out⟩) HF2.out HO2.out w.heap.size w HB3.out HG.out ?_; intro w7 hh7 hb7)
      go_wp2
      go_roundg (m - (k + c2))
      case measure => omega
      case rel =>
        refine ⟨k + c2, splice cu k cs2, by omega, by omega, fun _ => by omega, ?_, ⟨hh7⟩, ⟨by rw [length_splice _ _ _ HF2.out]; exact HL.out⟩, ⟨?_⟩, ⟨hb7⟩⟩
        · rw [HL2.out]
          exact congrArg (Value.int .i64) (wrap_sum k c2 (by omega))
        · rw [HCS2.out]
          exact take_splice cu k c2 _ HT.out (by have := HF2.out; rw [HL2.out] at this; exact this)
    · obtain rfl : k = m := by omega
      clear hlt
      go_wp2
      go_ret
      exact ⟨_, rfl, row_close HG.out HC.out hmc hcm HL.out HT.out, HB2.out⟩
theorem repeat_int (A : Option Addr) (c : Nat) (l : List Int) (n : Int) (w : World) (hr : Kd.C (Kd.int .i64) w A l.length l) (hc : l.length ≤ c) (hl : l.length = 1) (h0 : 0 ≤ n) (h1 : n ≤ 12) :
    Calls Try.prog 98 #[.slice A l.length c, .int .i64 n] w fun e w' => ∃ v0_ : Value, e = .returned (v0_) ∧ Kd.R (Kd.int .i64) 3 w' w.heap.size (fun _ => True) v0_ (List.replicate n.toNat (rd l 0)) ∧ Below w.heap.size w w' := by
  obtain ⟨ad, rfl, hx⟩ := Kd.at_int hr 0 (by omega) (by omega)
  obtain ⟨m, rfl⟩ := Int.eq_ofNat_of_zero_le h0
  rw [hl, Int.toNat_natCast]
  refine repeat1 ad c m _ w ?_ (by omega)
  simpa only [Int.toNat_zero, Nat.zero_mul, Addr.add_zero'] using hx
end Go.Proofs.Ytbbppknnkghkjaa.Fns
