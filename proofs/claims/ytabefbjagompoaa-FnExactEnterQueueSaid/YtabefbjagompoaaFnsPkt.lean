/- Contracts of the library's IndexFunc and ContainsFunc over packets, for whatever literal that only computes. -/
import Derived.Test.YtabefbjagompoaaFns
namespace Go.Proofs.Ytabefbjagompoaa.Fns
open Go.RowKit Go.Proofs.YtabefbjagompoaaW.PrintWords
set_option linter.unusedVariables false
set_option linter.unusedSimpArgs false

abbrev PK := Int × Int × Int × Int × Int × Int × Int × List Int
/-- A row of packets that is read. -/
def Pkts (w : World) (A : Option Addr) (l : List PK) : Prop :=
  l.length ≤ 9223372036854775807 ∧ (0 < l.length → ∃ ad, A = some ad ∧ ∀ j (hj : j < l.length), ∃ A7 c7, w.cell? (ad.add (j * 8)) = some (.int .i64 l[j].1) ∧ w.cell? ⟨(ad.add (j * 8)).block, (ad.add (j * 8)).off + 1, none⟩ = some (.int .i64 l[j].2.1) ∧ w.cell? ⟨(ad.add (j * 8)).block, (ad.add (j * 8)).off + 2, none⟩ = some (.int .i64 l[j].2.2.1) ∧ w.cell? ⟨(ad.add (j * 8)).block, (ad.add (j * 8)).off + 3, none⟩ = some (.int .i64 l[j].2.2.2.1) ∧ w.cell? ⟨(ad.add (j * 8)).block, (ad.add (j * 8)).off + 4, none⟩ = some (.int .i64 l[j].2.2.2.2.1) ∧ w.cell? ⟨(ad.add (j * 8)).block, (ad.add (j * 8)).off + 5, none⟩ = some (.int .i64 l[j].2.2.2.2.2.1) ∧ w.cell? ⟨(ad.add (j * 8)).block, (ad.add (j * 8)).off + 6, none⟩ = some (.int .i64 l[j].2.2.2.2.2.2.1) ∧ w.cell? ⟨(ad.add (j * 8)).block, (ad.add (j * 8)).off + 7, none⟩ = some (.slice A7 l[j].2.2.2.2.2.2.2.length c7) ∧ l[j].2.2.2.2.2.2.2.length ≤ c7 ∧ Kd.C (Kd.int .i64) w A7 l[j].2.2.2.2.2.2.2.length l[j].2.2.2.2.2.2.2)
theorem Pkts.below {w W : World} {A : Option Addr} {l : List PK} (h : Pkts w A l) (hb : Below w.heap.size w W) : Pkts W A l :=
  ⟨h.1, fun hn => by
    obtain ⟨ad, e, hc⟩ := h.2 hn
    refine ⟨ad, e, fun j hj => ?_⟩
    obtain ⟨A7, c7, h0, h1, h2, h3, h4, h5, h6, h7, hl, hk⟩ := hc j hj
    exact ⟨A7, c7, pw_cell_below hb h0, pw_cell_below hb h1, pw_cell_below hb h2, pw_cell_below hb h3, pw_cell_below hb h4, pw_cell_below hb h5, pw_cell_below hb h6, pw_cell_below hb h7, hl, Kd.C_below hk hb⟩⟩

set_option maxHeartbeats 4000000 in
theorem index_pkt (p : PK → Bool) (g : Nat) (A : Option Addr) (c : Nat) (l : List PK) (w : World) (hr : Pkts w A l) (hc : l.length ≤ c)
    (hp : ∀ (W : World) (x : PK) (A7 : Option Addr) (c7 : Nat), x ∈ l → Kd.C (Kd.int .i64) W A7 x.2.2.2.2.2.2.2.length x.2.2.2.2.2.2.2 → x.2.2.2.2.2.2.2.length ≤ c7 → Calls Try.prog g #[.agg #[.int .i64 x.1, .int .i64 x.2.1, .int .i64 x.2.2.1, .int .i64 x.2.2.2.1, .int .i64 x.2.2.2.2.1, .int .i64 x.2.2.2.2.2.1, .int .i64 x.2.2.2.2.2.2.1, .slice A7 x.2.2.2.2.2.2.2.length c7]] W fun e w' => e = .returned (.bool (p x)) ∧ Below W.heap.size W w')
    (eg : ∀ args w, (callFunc g args).run Try.prog w = .ok (.enter g args) w) :
    Calls Try.prog 108 #[.slice A l.length c, .func (.func g) #[] #[]] w fun e w' => e = .returned (.int .i64 (idxFrom p 0 l)) ∧ Below w.heap.size w w' := by
  have hlen : l.length ≤ 9223372036854775807 := hr.1
  have HR := Aside0.mk hr
  have HP := Aside0.mk hp
  clear hr hp
  go_enter Try.func108, Try.ntmps108
  go_wp2
  go_loopg [5, 8] l.length (fun gg _ s8 wr => ∃ kk : Nat, kk ≤ l.length ∧ l.length - kk ≤ gg ∧ s8 = .int .i64 kk ∧ Aside0 (Below w.heap.size w wr) ∧ Aside0 (∀ j (hj : j < kk) (hl : j < l.length), p l[j] = false))
  case atStart => exact ⟨0, Nat.zero_le _, by omega, rfl, ⟨Below.refl _ _⟩, ⟨fun j hj => absurd hj (Nat.not_lt_zero _)⟩⟩
  case round =>
    obtain ⟨kk, hkk, hg, rfl, BW, B⟩ := hrel
    by_cases hlt : kk < l.length
    · have hltz : (kk : Int) < (l.length : Int) := by omega
      obtain ⟨ad, rfl, hcells⟩ := (HR.out.below BW.out).2 (by omega)
      obtain ⟨A7, c7, hx0, hx1, hx2, hx3, hx4, hx5, hx6, hx7, hxl, hxk⟩ := hcells kk hlt
      clear hcells
      have hcall := HP.out wr l[kk] A7 c7 (List.getElem_mem _) hxk hxl
      clear hxk hxl
      have HX : Aside0 (p l[kk] = p l[kk]) := ⟨rfl⟩
      generalize hq : p l[kk] = q at hcall
      have HQ := Aside0.mk hq
      clear hq HX
      generalize l[kk].1 = y0 at hx0 hcall
      generalize l[kk].2.1 = y1 at hx1 hcall
      generalize l[kk].2.2.1 = y2 at hx2 hcall
      generalize l[kk].2.2.2.1 = y3 at hx3 hcall
      generalize l[kk].2.2.2.2.1 = y4 at hx4 hcall
      generalize l[kk].2.2.2.2.2.1 = y5 at hx5 hcall
      generalize l[kk].2.2.2.2.2.2.1 = y6 at hx6 hcall
      generalize l[kk].2.2.2.2.2.2.2.length = y7 at hx7 hcall
      cases q with
      | true =>
        go_wp2_with (go_at_fn g; refine hcall.mono ?_; rintro e w' ⟨rfl, hb'⟩)
        go_ret
        refine ⟨?_, below_step BW.out hb'⟩
        rw [idxFrom_hit p l 0 kk hlt (fun j hj => B.out j hj (by omega)) HQ.out]
        simp
      | false =>
        go_wp2_with (go_at_fn g; refine hcall.mono ?_; rintro e w' ⟨rfl, hb'⟩)
        go_roundg (l.length - (kk + 1))
        case measure => omega
        case rel =>
          refine ⟨kk + 1, by omega, by omega, by go_num, ⟨below_step BW.out hb'⟩, ⟨fun j hj hl => ?_⟩⟩
          by_cases e : j = kk
          · subst e
            exact HQ.out
          · exact B.out j (by omega) hl
    · obtain rfl : kk = l.length := by omega
      clear hlt
      go_wp2
      go_ret
      refine ⟨?_, BW.out⟩
      rw [idxFrom_miss p l 0 (fun x hx => by
        obtain ⟨i, hi, rfl⟩ := List.mem_iff_getElem.1 hx
        exact B.out i (by omega) hi)]
      rfl

set_option maxHeartbeats 1000000 in
theorem contains_pkt (p : PK → Bool) (g : Nat) (A : Option Addr) (c : Nat) (l : List PK) (w : World) (hr : Pkts w A l) (hc : l.length ≤ c)
    (hp : ∀ (W : World) (x : PK) (A7 : Option Addr) (c7 : Nat), x ∈ l → Kd.C (Kd.int .i64) W A7 x.2.2.2.2.2.2.2.length x.2.2.2.2.2.2.2 → x.2.2.2.2.2.2.2.length ≤ c7 → Calls Try.prog g #[.agg #[.int .i64 x.1, .int .i64 x.2.1, .int .i64 x.2.2.1, .int .i64 x.2.2.2.1, .int .i64 x.2.2.2.2.1, .int .i64 x.2.2.2.2.2.1, .int .i64 x.2.2.2.2.2.2.1, .slice A7 x.2.2.2.2.2.2.2.length c7]] W fun e w' => e = .returned (.bool (p x)) ∧ Below W.heap.size W w')
    (eg : ∀ args w, (callFunc g args).run Try.prog w = .ok (.enter g args) w) :
    Calls Try.prog 96 #[.slice A l.length c, .func (.func g) #[] #[]] w fun e w' => e = .returned (.bool (l.any p)) ∧ Below w.heap.size w w' := by
  have HI := Aside0.mk (index_pkt p g A c l w hr hc hp eg)
  rw [← idxFrom_any p l 0 (by omega)]
  clear hr hp
  go_enter Try.func96, Try.ntmps96
  go_wp2_with (go_at_call 108; refine HI.out.mono ?_; rintro e w' ⟨rfl, hb'⟩)
  go_ret
  exact ⟨rfl, hb'⟩

set_option maxHeartbeats 4000000 in
theorem index_pkt2 (p : PK → Bool) (g : Nat) (qb ib : Nat) (A : Option Addr) (c : Nat) (l : List PK) (w : World) (hr : Pkts w A l) (hc : l.length ≤ c)
    (hp : ∀ (W : World) (x : PK) (A7 : Option Addr) (c7 : Nat), x ∈ l → Below w.heap.size w W → Kd.C (Kd.int .i64) W A7 x.2.2.2.2.2.2.2.length x.2.2.2.2.2.2.2 → x.2.2.2.2.2.2.2.length ≤ c7 → Calls Try.prog g #[.agg #[.int .i64 x.1, .int .i64 x.2.1, .int .i64 x.2.2.1, .int .i64 x.2.2.2.1, .int .i64 x.2.2.2.2.1, .int .i64 x.2.2.2.2.2.1, .int .i64 x.2.2.2.2.2.2.1, .slice A7 x.2.2.2.2.2.2.2.length c7], .pointer (some ⟨qb, 0, none⟩), .pointer (some ⟨ib, 0, none⟩)] W fun e w' => e = .returned (.bool (p x)) ∧ Below W.heap.size W w')
    (eg : ∀ args w, (callFunc g args).run Try.prog w = .ok (.enter g args) w) :
    Calls Try.prog 108 #[.slice A l.length c, .func (.func g) #[] #[.pointer (some ⟨qb, 0, none⟩), .pointer (some ⟨ib, 0, none⟩)]] w fun e w' => e = .returned (.int .i64 (idxFrom p 0 l)) ∧ Below w.heap.size w w' := by
  have hlen : l.length ≤ 9223372036854775807 := hr.1
  have HR := Aside0.mk hr
  have HP := Aside0.mk hp
  clear hr hp
  go_enter Try.func108, Try.ntmps108
  go_wp2
  go_loopg [5, 8] l.length (fun gg _ s8 wr => ∃ kk : Nat, kk ≤ l.length ∧ l.length - kk ≤ gg ∧ s8 = .int .i64 kk ∧ Aside0 (Below w.heap.size w wr) ∧ Aside0 (∀ j (hj : j < kk) (hl : j < l.length), p l[j] = false))
  case atStart => exact ⟨0, Nat.zero_le _, by omega, rfl, ⟨Below.refl _ _⟩, ⟨fun j hj => absurd hj (Nat.not_lt_zero _)⟩⟩
  case round =>
    obtain ⟨kk, hkk, hg, rfl, BW, B⟩ := hrel
    by_cases hlt : kk < l.length
    · have hltz : (kk : Int) < (l.length : Int) := by omega
      obtain ⟨ad, rfl, hcells⟩ := (HR.out.below BW.out).2 (by omega)
      obtain ⟨A7, c7, hx0, hx1, hx2, hx3, hx4, hx5, hx6, hx7, hxl, hxk⟩ := hcells kk hlt
      clear hcells
      have hcall := HP.out wr l[kk] A7 c7 (List.getElem_mem _) BW.out hxk hxl
      clear hxk hxl
      have HX : Aside0 (p l[kk] = p l[kk]) := ⟨rfl⟩
      generalize hq : p l[kk] = q at hcall
      have HQ := Aside0.mk hq
      clear hq HX
      generalize l[kk].1 = y0 at hx0 hcall
      generalize l[kk].2.1 = y1 at hx1 hcall
      generalize l[kk].2.2.1 = y2 at hx2 hcall
      generalize l[kk].2.2.2.1 = y3 at hx3 hcall
      generalize l[kk].2.2.2.2.1 = y4 at hx4 hcall
      generalize l[kk].2.2.2.2.2.1 = y5 at hx5 hcall
      generalize l[kk].2.2.2.2.2.2.1 = y6 at hx6 hcall
      generalize l[kk].2.2.2.2.2.2.2.length = y7 at hx7 hcall
      cases q with
      | true =>
        go_wp2_with (go_at_fn g; refine hcall.mono ?_; rintro e w' ⟨rfl, hb'⟩)
        go_ret
        refine ⟨?_, below_step BW.out hb'⟩
        rw [idxFrom_hit p l 0 kk hlt (fun j hj => B.out j hj (by omega)) HQ.out]
        simp
      | false =>
        go_wp2_with (go_at_fn g; refine hcall.mono ?_; rintro e w' ⟨rfl, hb'⟩)
        go_roundg (l.length - (kk + 1))
        case measure => omega
        case rel =>
          refine ⟨kk + 1, by omega, by omega, by go_num, ⟨below_step BW.out hb'⟩, ⟨fun j hj hl => ?_⟩⟩
          by_cases e : j = kk
          · subst e
            exact HQ.out
          · exact B.out j (by omega) hl
    · obtain rfl : kk = l.length := by omega
      clear hlt
      go_wp2
      go_ret
      refine ⟨?_, BW.out⟩
      rw [idxFrom_miss p l 0 (fun x hx => by
        obtain ⟨i, hi, rfl⟩ := List.mem_iff_getElem.1 hx
        exact B.out i (by omega) hi)]
      rfl

set_option maxHeartbeats 1000000 in
theorem contains_pkt2 (p : PK → Bool) (g : Nat) (qb ib : Nat) (A : Option Addr) (c : Nat) (l : List PK) (w : World) (hr : Pkts w A l) (hc : l.length ≤ c)
    (hp : ∀ (W : World) (x : PK) (A7 : Option Addr) (c7 : Nat), x ∈ l → Below w.heap.size w W → Kd.C (Kd.int .i64) W A7 x.2.2.2.2.2.2.2.length x.2.2.2.2.2.2.2 → x.2.2.2.2.2.2.2.length ≤ c7 → Calls Try.prog g #[.agg #[.int .i64 x.1, .int .i64 x.2.1, .int .i64 x.2.2.1, .int .i64 x.2.2.2.1, .int .i64 x.2.2.2.2.1, .int .i64 x.2.2.2.2.2.1, .int .i64 x.2.2.2.2.2.2.1, .slice A7 x.2.2.2.2.2.2.2.length c7], .pointer (some ⟨qb, 0, none⟩), .pointer (some ⟨ib, 0, none⟩)] W fun e w' => e = .returned (.bool (p x)) ∧ Below W.heap.size W w')
    (eg : ∀ args w, (callFunc g args).run Try.prog w = .ok (.enter g args) w) :
    Calls Try.prog 96 #[.slice A l.length c, .func (.func g) #[] #[.pointer (some ⟨qb, 0, none⟩), .pointer (some ⟨ib, 0, none⟩)]] w fun e w' => e = .returned (.bool (l.any p)) ∧ Below w.heap.size w w' := by
  have HI := Aside0.mk (index_pkt2 p g qb ib A c l w hr hc hp eg)
  rw [← idxFrom_any p l 0 (by omega)]
  clear hr hp
  go_enter Try.func96, Try.ntmps96
  go_wp2_with (go_at_call 108; refine HI.out.mono ?_; rintro e w' ⟨rfl, hb'⟩)
  go_ret
  exact ⟨rfl, hb'⟩
end Go.Proofs.Ytabefbjagompoaa.Fns
