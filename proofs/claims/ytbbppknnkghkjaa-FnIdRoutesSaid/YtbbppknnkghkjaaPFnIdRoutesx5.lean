/- Printed by a program of this session out of the translation: each Go function as a Lean function, with the proof that Go comes to just its answer (no condition beyond what each theorem says). (squeezed) -/
import Derived.Test.YtbbppknnkghkjaaPFnIdRoutesx0
import Derived.Test.YtbbppknnkghkjaaSteps
import Derived.Test.YtbbppknnkghkjaaPFnIdRoutesx2
import Derived.Test.YtbbppknnkghkjaaPFnIdRoutesx3
namespace Go.Proofs.Ytbbppknnkghkjaa.PFnIdRoutes
open Go.RowKit Go.Proofs.YtbbppknnkghkjaaW.PrintWords Go.Proofs.YtbbppknnkghkjaaW.PrintLast Go.Proofs.YtbbppknnkghkjaaW.PrintMore Go.Proofs.Ytbbppknnkghkjaa.Kit Go.Proofs.Ytbbppknnkghkjaa.Steps Go.Proofs.Ytbbppknnkghkjaa.Kit2
attribute [local go_sem] max2_int min2_int max_two min_two max_three min_three max_four min_four   -- for this text's walks alone
set_option linter.unusedVariables false
set_option linter.unusedSimpArgs false

/-! ### impl_IsUnder: function 43 -/
def impl_IsUnder.f (l0_0 : List Int) (l0_1 : List Int) (l0_2 : List Int) (a1 : Int) (a2 : Int) : Option (Bool) := (impl_within.f a1 0 (wrap64 ((mn (l0_1.length : Int) (l0_2.length : Int)) - 1))).bind fun t193 => (if t193 = true then (if 0 ≤ a1 then (if a1 < (l0_1.length : Int) then (if (rd l0_1 a1) ≥ 0 then (if a1 < (l0_2.length : Int) then ((impl_within.f a2 (rd l0_1 a1) (rd l0_2 a1)).bind fun t197 => (some t197)) else (none)) else (some false)) else (none)) else (none)) else (some false))
def impl_IsUnder.T1 : Bool × List (List Nat × List Nat) := (true, [([], []), ([], []), ([1], [1]), ([2], [2]), ([], []), ([4], [4]), ([5], [5]), ([3, 6], [3, 6]), ([7], [7]), ([0, 8], [0, 8]), ([9, 9], [9]), ([10], [10]), ([11, 10], [10, 11]), ([10], [10]), ([12, 13, 10], [10, 12, 13]), ([14, 10], [10, 14]), ([15, 10], [10, 15]), ([10, 16], [10, 16]), ([17, 10], [17]), ([18], [18]), ([18], [18]), ([20, 18], [18, 20]), ([18], [18]), ([21, 22, 18], [18, 21, 22]), ([23, 18], [18, 23]), ([18], [18]), ([25, 18], [18, 25]), ([18], [18]), ([26, 27, 18], [18, 26, 27]), ([28, 18], [18, 28]), ([19, 24, 29, 18, 18], [18, 19, 24, 29]), ([18, 30], [18, 30]), ([31, 30, 0, 1, 2, 3, 4, 5, 6, 7, 8, 9, 10, 11, 12, 13, 14, 15, 16, 17, 18, 19, 20, 21, 22, 23, 24, 25, 26, 27, 28, 29, 30, 31], [31])])
def impl_IsUnder.B1 : List Nat := [0, 0, 2, 6, 0, 16, 48, 126, 254, 511, 1023, 2047, 4095, 2047, 16383, 32767, 65535, 131071, 262143, 524287, 524287, 1572863, 524287, 7864319, 16252927, 524287, 34078719, 524287, 235405311, 503840767, 1073741823, 2147483647, 4294967295]
theorem impl_IsUnder.tab1 : rtab .any (opsOf Try.f43 1) = impl_IsUnder.T1 := by kernel_rfl
theorem impl_IsUnder.bits1 : waitsOk impl_IsUnder.T1.2 impl_IsUnder.B1 = true := by kernel_rfl
set_option maxHeartbeats 8000000 in
set_option maxRecDepth 100000 in
theorem impl_IsUnder.calls (A0_0 : Option Addr) (c0_0 : Nat) (l0_0 : List Int) (A0_1 : Option Addr) (c0_1 : Nat) (l0_1 : List Int) (A0_2 : Option Addr) (c0_2 : Nat) (l0_2 : List Int) (a1 : Int) (a2 : Int) (r : Bool) (w : World) (hr0_0 : Kd.C (Kd.int .i64) w A0_0 l0_0.length l0_0) (hc0_0 : l0_0.length ≤ c0_0) (hr0_1 : Kd.C (Kd.int .i64) w A0_1 l0_1.length l0_1) (hc0_1 : l0_1.length ≤ c0_1) (hr0_2 : Kd.C (Kd.int .i64) w A0_2 l0_2.length l0_2) (hc0_2 : l0_2.length ≤ c0_2) (h : impl_IsUnder.f l0_0 l0_1 l0_2 a1 a2 = some r) :
  Calls Try.prog 43 #[.agg #[.slice A0_0 l0_0.length c0_0, .slice A0_1 l0_1.length c0_1, .slice A0_2 l0_2.length c0_2], .int .i64 a1, .int .i64 a2] w fun e w' => e = .returned (.bool r) ∧ Below w.heap.size w w' := by
 have hu31 := Try.underlying31
 have HR0_0 := Aside0.mk hr0_0
 have HC0_0 := Aside0.mk hc0_0
 clear hr0_0 hc0_0
 have HR0_1 := Aside0.mk hr0_1
 have HC0_1 := Aside0.mk hc0_1
 clear hr0_1 hc0_1
 have HR0_2 := Aside0.mk hr0_2
 have HC0_2 := Aside0.mk hc0_2
 clear hr0_2 hc0_2
 have HB := Aside0.mk (Below.refl w.heap.size w)
 have H : ((impl_within.f a1 0 (wrap64 ((mn (l0_1.length : Int) (l0_2.length : Int)) - 1))).bind fun t193 => (if t193 = true then (if 0 ≤ a1 then (if a1 < (l0_1.length : Int) then (if (rd l0_1 a1) ≥ 0 then (if a1 < (l0_2.length : Int) then ((impl_within.f a2 (rd l0_1 a1) (rd l0_2 a1)).bind fun t197 => (some t197)) else (none)) else (some false)) else (none)) else (none)) else (some false))) = some r := h
 clear h
 obtain ⟨ji4, hji4⟩ : ∃ j_ : Int, (mn (l0_1.length : Int) (l0_2.length : Int)) = j_ := ⟨_, rfl⟩
 replace H : ((impl_within.f a1 0 (wrap64 ((ji4) - 1))).bind fun t193 => (if t193 = true then (if 0 ≤ a1 then (if a1 < (l0_1.length : Int) then (if (rd l0_1 a1) ≥ 0 then (if a1 < (l0_2.length : Int) then ((impl_within.f a2 (rd l0_1 a1) (rd l0_2 a1)).bind fun t197 => (some t197)) else (none)) else (some false)) else (none)) else (none)) else (some false))) = some r := by first | (rw [hji4] at H; exact H) | (simp only [hji4] at H ⊢; exact H)
 (try (have hji4l : 0 ≤ ji4 := by (rw [← hji4]; unfold mn; (repeat' split) <;> omega)))
 (try (have hji4m : 0 ≤ ji4 := by omega))
 have hji4_ : (if (l0_2.length : Int) < (l0_1.length : Int) then (l0_2.length : Int) else (l0_1.length : Int)) = ji4 := hji4
 have hji4n : (if l0_2.length < l0_1.length then (l0_2.length : Int) else (l0_1.length : Int)) = ji4 := by rw [← hji4_]; simp only [Int.ofNat_lt]
 replace H := Option.bind_eq_some_iff.mp H
 obtain ⟨t193, A50, H⟩ := H
 replace H : (if t193 = true then (if 0 ≤ a1 then (if a1 < (l0_1.length : Int) then (if (rd l0_1 a1) ≥ 0 then (if a1 < (l0_2.length : Int) then ((impl_within.f a2 (rd l0_1 a1) (rd l0_2 a1)).bind fun t197 => (some t197)) else (none)) else (some false)) else (none)) else (none)) else (some false)) = some r := H
 have A5 := Aside0.mk A50
 clear A50
 by_cases c6 : t193 = true
 ·subst c6
  have H1 : (if 0 ≤ a1 then (if a1 < (l0_1.length : Int) then (if (rd l0_1 a1) ≥ 0 then (if a1 < (l0_2.length : Int) then ((impl_within.f a2 (rd l0_1 a1) (rd l0_2 a1)).bind fun t197 => (some t197)) else (none)) else (some false)) else (none)) else (none)) = some r := by rw [if_pos rfl] at H; exact H
  clear H
  have H := H1
  clear H1
  by_cases c7 : 0 ≤ a1
  ·rw [if_pos c7] at H
   have c7b0 : decide (0 ≤ a1) = true := decide_eq_true c7
   clear c7
   by_cases c8 : a1 < (l0_1.length : Int)
   ·rw [if_pos c8] at H
    have c8b0 : decide (a1 < (l0_1.length : Int)) = true := decide_eq_true c8
    clear c8
    by_cases c9 : (rd l0_1 a1) ≥ 0
    ·rw [if_pos c9] at H
     have c9b0 : decide (0 ≤ (rd l0_1 a1)) = true := decide_eq_true c9
     clear c9
     by_cases c10 : a1 < (l0_2.length : Int)
     ·rw [if_pos c10] at H
      have c10b0 : decide (a1 < (l0_2.length : Int)) = true := decide_eq_true c10
      clear c10
      replace H := Option.bind_eq_some_iff.mp H
      obtain ⟨t197, A110, H⟩ := H
      replace H : (some t197) = some r := H
      have A11 := Aside0.mk A110
      clear A110
      obtain rfl := Option.some.inj H
      go_enter Try.func43, Try.ntmps43
      try go_wp2_with (first | ((with_reducible refine gate_dst (N := 3) rfl ?_); refine box_event ?hg (N := 3) ?hd (cs := #[.slice A0_0 l0_0.length c0_0, .slice A0_1 l0_1.length c0_1, .slice A0_2 l0_2.length c0_2]) (t := 31) ?hr ?_; (case hd => rfl); (case hg => rfl); (case hr => first | (go_simp; done) | (go_simp; rfl)); intro gb192 hg w12 hbox hb; have t_ := fc4 (below_step bb hb) (hbox) (bg hg : w.heap.size ≤ gb192) (bg hg : w.heap.size ≤ gb192); clear HB; obtain ⟨HB, BK192, GW192, GE192⟩ := t_; clear hb hbox hg))
      have t_ := fc2 (blk_drew BK192.out) (below_drew1 HB.out)
      clear BK192 HB
      obtain ⟨BK192, HB⟩ := t_
      have p194 : 0 ≤ (a1 : Int) := of_decide_eq_true as_
      have q194 : a1 < (l0_1.length : Int) := of_decide_eq_true as_
      obtain ⟨ad194, e194, hx194_0⟩ := Kd.at_int HR0_1.out a1 p194 q194
      have hw194_0 := hx194_0
      cases e194
      replace hx194_0 := pw_cell_below HB.out hx194_0
      replace p194 := eq_true p194
      replace q194 := eq_true q194
      have p195 : 0 ≤ (a1 : Int) := of_decide_eq_true as_
      have q195 : a1 < (l0_1.length : Int) := of_decide_eq_true as_
      obtain ⟨ad195, e195, hx195_0⟩ := Kd.at_int HR0_1.out a1 p195 q195
      have hw195_0 := hx195_0
      obtain rfl : ad194 = ad195 := (by injection e195)
      replace hx195_0 := pw_cell_below HB.out hx195_0
      replace p195 := eq_true p195
      replace q195 := eq_true q195
      have p196 : 0 ≤ (a1 : Int) := of_decide_eq_true as_
      have q196 : a1 < (l0_2.length : Int) := of_decide_eq_true as_
      obtain ⟨ad196, e196, hx196_0⟩ := Kd.at_int HR0_2.out a1 p196 q196
      have hw196_0 := hx196_0
      cases e196
      replace hx196_0 := pw_cell_below HB.out hx196_0
      replace p196 := eq_true p196
      replace q196 := eq_true q196
      refine start_ (n := 33) (S := fun w' => w'.cell? ⟨gb192, 0, none⟩ = some (.slice A0_0 l0_0.length c0_0) ∧ w'.cell? ⟨gb192, 1, none⟩ = some (.slice (some ad194) l0_1.length c0_1) ∧ w'.cell? ⟨gb192, 2, none⟩ = some (.slice (some ad196) l0_2.length c0_2) ∧ w'.cell? (ad194.add (a1).toNat) = some (.int .i64 (rd l0_1 a1)) ∧ w'.cell? (ad194.add (a1).toNat) = some (.int .i64 (rd l0_1 a1)) ∧ w'.cell? (ad196.add (a1).toNat) = some (.int .i64 (rd l0_2 a1))) (ds := []) (bz 33 0) (by kernel_rfl) rfl (by kernel_rfl) ⟨(blk_cell BK192.out 0).trans rfl, (blk_cell BK192.out 1).trans rfl, (blk_cell BK192.out 2).trans rfl, ((HB.out.cell (World.block_lt_of_cell? w _ hw194_0)).trans hw194_0), ((HB.out.cell (World.block_lt_of_cell? w _ hw195_0)).trans hw195_0), ((HB.out.cell (World.block_lt_of_cell? w _ hw196_0)).trans hw196_0)⟩ (fun hHeld => ?_); refine with_tabW impl_IsUnder.tab1 impl_IsUnder.bits1 (fun HT_ HW_ => ?_)
      generalize w12.drew = w13 at BK192 HB hx194_0 hx195_0 hx196_0 hHeld ⊢
      refine pv 0 7 (bz 33 1) HT_ (h := ?_)
      refine pv 1 8 (bz 33 3) HT_ (h := ?_)
      refine pv 4 11 (bz 33 19) HT_ (h := ?_)
      refine tv6 2 9 (bz 33 23) HT_ HW_ hHeld (h := ?_)
      refine pv 3 10 (bz 33 31) HT_ (h := ?_)
      refine tv6 5 12 (bz 33 63) HT_ HW_ hHeld (h := ?_)
      refine pv 6 13 (bz 33 127) HT_ (h := ?_)
      refine pv 7 14 (bz 33 255) HT_ (h := ?_)
      refine pv 8 15 (bz 33 511) HT_ (h := ?_)
      refine one_ (i := 9) (N := some 16) (bz 33 1023) rfl rfl (one_of HT_.out (by kernel_rfl)) (by decide) (fun K hK => ?_)
      refine goes_ Try.func94 (by kernel_rfl) rfl #[.int .i64 a1, .int .i64 0, .int .i64 (wrap64 ((ji4) - 1))] (by rfl) rfl rfl (by (try simp only [List.map_toArray, List.map_cons, List.map_nil]); first | done | (simp only [hji4]; rfl) | rfl | (simp only [List.length_drop, List.length_take]; rfl)) ?_
      with_reducible refine (impl_within.calls a1 0 (wrap64 ((ji4) - 1)) true _ A5.out).mono ?_
      rintro e w' ⟨rfl, ⟨nd, rfl⟩⟩
      refine ⟨_, rfl, ?_⟩
      refine hK.out _ _ ⟨(blk_cell BK192.out 0).trans rfl, (blk_cell BK192.out 1).trans rfl, (blk_cell BK192.out 2).trans rfl, ((HB.out.cell (World.block_lt_of_cell? w _ hw194_0)).trans hw194_0), ((HB.out.cell (World.block_lt_of_cell? w _ hw195_0)).trans hw195_0), ((HB.out.cell (World.block_lt_of_cell? w _ hw196_0)).trans hw196_0)⟩ (fun hHeld => ?_)
      clear hK K
      refine norm_ (a' := ?_) ?_ ?_
      rotate_left
      ·show Act.put _ (some 16) _ = _
       simp only [Act.put, List.setIfInBounds_toArray, List.set_cons_zero, List.set_cons_succ, i64_w, i32_w]
       rfl
      refine pv 10 17 (bz 33 2047) HT_ (h := ?_)
      refine pv 11 18 (bz 33 4095) HT_ (h := ?_)
      refine pv 13 20 (bz 33 12287) HT_ (h := ?_)
      refine tv6 12 19 (bz 33 16383) HT_ HW_ hHeld (h := ?_)
      refine pv 14 21 (bz 33 32767) HT_ (h := ?_)
      refine tv6 15 22 (bz 33 65535) HT_ HW_ hHeld (h := ?_)
      refine pv 16 23 (bz 33 131071) HT_ (h := ?_)
      refine pv 17 24 (bz 33 262143) HT_ (h := ?_)
      refine pv 18 25 (bz 33 524287) HT_ (h := ?_)
      refine pv 19 26 (bz 33 1048575) HT_ (h := ?_)
      refine pv 20 27 (bz 33 2097151) HT_ (h := ?_)
      refine pv 22 29 (bz 33 6291455) HT_ (h := ?_)
      refine pv 25 32 (bz 33 39845887) HT_ (h := ?_)
      refine pv 27 34 (bz 33 174063615) HT_ (h := ?_)
      refine tv6 21 28 (bz 33 176160767) HT_ HW_ hHeld (h := ?_)
      refine pv 23 30 (bz 33 184549375) HT_ (h := ?_)
      refine tv6 24 31 (bz 33 201326591) HT_ HW_ hHeld (h := ?_)
      refine tv6 26 33 (bz 33 268435455) HT_ HW_ hHeld (h := ?_)
      refine pv 28 35 (bz 33 536870911) HT_ (h := ?_)
      refine tv6 29 36 (bz 33 1073741823) HT_ HW_ hHeld (h := ?_)
      refine one_ (i := 30) (N := some 37) (bz 33 2147483647) rfl rfl (one_of HT_.out (by kernel_rfl)) (by decide) (fun K hK => ?_)
      refine goes_ Try.func94 (by kernel_rfl) rfl #[.int .i64 a2, .int .i64 (rd l0_1 a1), .int .i64 (rd l0_2 a1)] (by rfl) rfl rfl ms ?_
      with_reducible refine (impl_within.calls a2 (rd l0_1 a1) (rd l0_2 a1) t197 _ A11.out).mono ?_
      rintro e w' ⟨rfl, ⟨nd, rfl⟩⟩
      refine ⟨_, rfl, ?_⟩
      refine hK.out _ _ ⟨(blk_cell BK192.out 0).trans rfl, (blk_cell BK192.out 1).trans rfl, (blk_cell BK192.out 2).trans rfl, ((HB.out.cell (World.block_lt_of_cell? w _ hw194_0)).trans hw194_0), ((HB.out.cell (World.block_lt_of_cell? w _ hw195_0)).trans hw195_0), ((HB.out.cell (World.block_lt_of_cell? w _ hw196_0)).trans hw196_0)⟩ (fun hHeld => ?_)
      clear hK K
      refine norm_ (a' := ?_) ?_ ?_
      rotate_left
      ·show Act.put _ (some 37) _ = _
       simp only [Act.put, List.setIfInBounds_toArray, List.set_cons_zero, List.set_cons_succ, i64_w, i32_w]
       rfl
      refine pv 31 38 (bz 33 4294967295) HT_ (h := ?_)
      refine pv 32 6 (bz 33 8589934591) HT_ (h := ?_)
      refine done_ (done_of HT_.out (by kernel_rfl)) ?_
      try go_wp2
      go_ret
      exact ⟨by first | rfl | (simp [errW_none, errW_some] <;> rfl) | (simp only [← hji4]; first | rfl | (simp [errW_none, errW_some] <;> rfl)) | (simp [*, errW_none, errW_some] <;> rfl), bb⟩
     ·rw [if_neg c10] at H
      exact absurd H (by simp)
    ·rw [if_neg c9] at H
     have c9b0 : decide (0 ≤ (rd l0_1 a1)) = false := decide_eq_false c9
     clear c9
     obtain rfl := Option.some.inj H
     go_enter Try.func43, Try.ntmps43
     try go_wp2_with (first | ((with_reducible refine gate_dst (N := 3) rfl ?_); refine box_event ?hg (N := 3) ?hd (cs := #[.slice A0_0 l0_0.length c0_0, .slice A0_1 l0_1.length c0_1, .slice A0_2 l0_2.length c0_2]) (t := 31) ?hr ?_; (case hd => rfl); (case hg => rfl); (case hr => first | (go_simp; done) | (go_simp; rfl)); intro gb192 hg w14 hbox hb; have t_ := fc4 (below_step bb hb) (hbox) (bg hg : w.heap.size ≤ gb192) (bg hg : w.heap.size ≤ gb192); clear HB; obtain ⟨HB, BK192, GW192, GE192⟩ := t_; clear hb hbox hg))
     have t_ := fc2 (blk_drew BK192.out) (below_drew1 HB.out)
     clear BK192 HB
     obtain ⟨BK192, HB⟩ := t_
     have p194 : 0 ≤ (a1 : Int) := of_decide_eq_true as_
     have q194 : a1 < (l0_1.length : Int) := of_decide_eq_true as_
     obtain ⟨ad194, e194, hx194_0⟩ := Kd.at_int HR0_1.out a1 p194 q194
     have hw194_0 := hx194_0
     cases e194
     replace hx194_0 := pw_cell_below HB.out hx194_0
     replace p194 := eq_true p194
     replace q194 := eq_true q194
     refine start_ (n := 33) (S := fun w' => w'.cell? ⟨gb192, 0, none⟩ = some (.slice A0_0 l0_0.length c0_0) ∧ w'.cell? ⟨gb192, 1, none⟩ = some (.slice (some ad194) l0_1.length c0_1) ∧ w'.cell? ⟨gb192, 2, none⟩ = some (.slice A0_2 l0_2.length c0_2) ∧ w'.cell? (ad194.add (a1).toNat) = some (.int .i64 (rd l0_1 a1))) (ds := []) (bz 33 0) (by kernel_rfl) rfl (by kernel_rfl) ⟨(blk_cell BK192.out 0).trans rfl, (blk_cell BK192.out 1).trans rfl, (blk_cell BK192.out 2).trans rfl, ((HB.out.cell (World.block_lt_of_cell? w _ hw194_0)).trans hw194_0)⟩ (fun hHeld => ?_); refine with_tabW impl_IsUnder.tab1 impl_IsUnder.bits1 (fun HT_ HW_ => ?_)
     generalize w14.drew = w15 at BK192 HB hx194_0 hHeld ⊢
     refine pv 0 7 (bz 33 1) HT_ (h := ?_)
     refine pv 1 8 (bz 33 3) HT_ (h := ?_)
     refine pv 4 11 (bz 33 19) HT_ (h := ?_)
     refine tv4 2 9 (bz 33 23) HT_ HW_ hHeld (h := ?_)
     refine pv 3 10 (bz 33 31) HT_ (h := ?_)
     refine tv4 5 12 (bz 33 63) HT_ HW_ hHeld (h := ?_)
     refine pv 6 13 (bz 33 127) HT_ (h := ?_)
     refine pv 7 14 (bz 33 255) HT_ (h := ?_)
     refine pv 8 15 (bz 33 511) HT_ (h := ?_)
     refine one_ (i := 9) (N := some 16) (bz 33 1023) rfl rfl (one_of HT_.out (by kernel_rfl)) (by decide) (fun K hK => ?_)
     refine goes_ Try.func94 (by kernel_rfl) rfl #[.int .i64 a1, .int .i64 0, .int .i64 (wrap64 ((ji4) - 1))] (by rfl) rfl rfl (by (try simp only [List.map_toArray, List.map_cons, List.map_nil]); first | done | (simp only [hji4]; rfl) | rfl | (simp only [List.length_drop, List.length_take]; rfl)) ?_
     with_reducible refine (impl_within.calls a1 0 (wrap64 ((ji4) - 1)) true _ A5.out).mono ?_
     rintro e w' ⟨rfl, ⟨nd, rfl⟩⟩
     refine ⟨_, rfl, ?_⟩
     refine hK.out _ _ ⟨(blk_cell BK192.out 0).trans rfl, (blk_cell BK192.out 1).trans rfl, (blk_cell BK192.out 2).trans rfl, ((HB.out.cell (World.block_lt_of_cell? w _ hw194_0)).trans hw194_0)⟩ (fun hHeld => ?_)
     clear hK K
     refine norm_ (a' := ?_) ?_ ?_
     rotate_left
     ·show Act.put _ (some 16) _ = _
      simp only [Act.put, List.setIfInBounds_toArray, List.set_cons_zero, List.set_cons_succ, i64_w, i32_w]
      rfl
     refine pv 10 17 (bz 33 2047) HT_ (h := ?_)
     refine pv 11 18 (bz 33 4095) HT_ (h := ?_)
     refine pv 13 20 (bz 33 12287) HT_ (h := ?_)
     refine tv4 12 19 (bz 33 16383) HT_ HW_ hHeld (h := ?_)
     refine pv 14 21 (bz 33 32767) HT_ (h := ?_)
     refine tv4 15 22 (bz 33 65535) HT_ HW_ hHeld (h := ?_)
     refine pv 16 23 (bz 33 131071) HT_ (h := ?_)
     refine pv 17 24 (bz 33 262143) HT_ (h := ?_)
     refine pv 18 25 (bz 33 524287) HT_ (h := ?_)
     refine pu 19 26 (bz 33 1048575) HT_ (h := ?_)
     refine pu 20 27 (bz 33 2097151) HT_ (h := ?_)
     refine pu 21 28 (bz 33 4194303) HT_ (h := ?_)
     refine pu 22 29 (bz 33 8388607) HT_ (h := ?_)
     refine pu 23 30 (bz 33 16777215) HT_ (h := ?_)
     refine pu 24 31 (bz 33 33554431) HT_ (h := ?_)
     refine pu 25 32 (bz 33 67108863) HT_ (h := ?_)
     refine pu 26 33 (bz 33 134217727) HT_ (h := ?_)
     refine pu 27 34 (bz 33 268435455) HT_ (h := ?_)
     refine pu 28 35 (bz 33 536870911) HT_ (h := ?_)
     refine pu 29 36 (bz 33 1073741823) HT_ (h := ?_)
     refine pu 30 37 (bz 33 2147483647) HT_ (h := ?_)
     refine pv 31 38 (bz 33 4294967295) HT_ (h := ?_)
     refine pv 32 6 (bz 33 8589934591) HT_ (h := ?_)
     refine done_ (done_of HT_.out (by kernel_rfl)) ?_
     try go_wp2
     go_ret
     exact ⟨by first | rfl | (simp [errW_none, errW_some] <;> rfl) | (simp only [← hji4]; first | rfl | (simp [errW_none, errW_some] <;> rfl)) | (simp [*, errW_none, errW_some] <;> rfl), bb⟩
   ·rw [if_neg c8] at H
    exact absurd H (by simp)
  ·rw [if_neg c7] at H
   exact absurd H (by simp)
 ·replace c6 := Bool.eq_false_iff.mpr c6
  subst c6
  have H1 : (some false) = some r := by rw [if_neg (show ¬ (false = true) by decide)] at H; exact H
  clear H
  have H := H1
  clear H1
  obtain rfl := Option.some.inj H
  go_enter Try.func43, Try.ntmps43
  try go_wp2_with (first | ((with_reducible refine gate_dst (N := 3) rfl ?_); refine box_event ?hg (N := 3) ?hd (cs := #[.slice A0_0 l0_0.length c0_0, .slice A0_1 l0_1.length c0_1, .slice A0_2 l0_2.length c0_2]) (t := 31) ?hr ?_; (case hd => rfl); (case hg => rfl); (case hr => first | (go_simp; done) | (go_simp; rfl)); intro gb192 hg w16 hbox hb; have t_ := fc4 (below_step bb hb) (hbox) (bg hg : w.heap.size ≤ gb192) (bg hg : w.heap.size ≤ gb192); clear HB; obtain ⟨HB, BK192, GW192, GE192⟩ := t_; clear hb hbox hg))
  have t_ := fc2 (blk_drew BK192.out) (below_drew1 HB.out)
  clear BK192 HB
  obtain ⟨BK192, HB⟩ := t_
  refine start_ (n := 33) (S := fun w' => w'.cell? ⟨gb192, 0, none⟩ = some (.slice A0_0 l0_0.length c0_0) ∧ w'.cell? ⟨gb192, 1, none⟩ = some (.slice A0_1 l0_1.length c0_1) ∧ w'.cell? ⟨gb192, 2, none⟩ = some (.slice A0_2 l0_2.length c0_2)) (ds := []) (bz 33 0) (by kernel_rfl) rfl (by kernel_rfl) ⟨(blk_cell BK192.out 0).trans rfl, (blk_cell BK192.out 1).trans rfl, (blk_cell BK192.out 2).trans rfl⟩ (fun hHeld => ?_); refine with_tabW impl_IsUnder.tab1 impl_IsUnder.bits1 (fun HT_ HW_ => ?_)
  generalize w16.drew = w17 at BK192 HB hHeld ⊢
  refine pv 0 7 (bz 33 1) HT_ (h := ?_)
  refine pv 1 8 (bz 33 3) HT_ (h := ?_)
  refine pv 4 11 (bz 33 19) HT_ (h := ?_)
  refine tv3 2 9 (bz 33 23) HT_ HW_ hHeld (h := ?_)
  refine pv 3 10 (bz 33 31) HT_ (h := ?_)
  refine tv3 5 12 (bz 33 63) HT_ HW_ hHeld (h := ?_)
  refine pv 6 13 (bz 33 127) HT_ (h := ?_)
  refine pv 7 14 (bz 33 255) HT_ (h := ?_)
  refine pv 8 15 (bz 33 511) HT_ (h := ?_)
  refine one_ (i := 9) (N := some 16) (bz 33 1023) rfl rfl (one_of HT_.out (by kernel_rfl)) (by decide) (fun K hK => ?_)
  refine goes_ Try.func94 (by kernel_rfl) rfl #[.int .i64 a1, .int .i64 0, .int .i64 (wrap64 ((ji4) - 1))] (by rfl) rfl rfl (by (try simp only [List.map_toArray, List.map_cons, List.map_nil]); first | done | (simp only [hji4]; rfl) | rfl | (simp only [List.length_drop, List.length_take]; rfl)) ?_
  with_reducible refine (impl_within.calls a1 0 (wrap64 ((ji4) - 1)) false _ A5.out).mono ?_
  rintro e w' ⟨rfl, ⟨nd, rfl⟩⟩
  refine ⟨_, rfl, ?_⟩
  refine hK.out _ _ ⟨(blk_cell BK192.out 0).trans rfl, (blk_cell BK192.out 1).trans rfl, (blk_cell BK192.out 2).trans rfl⟩ (fun hHeld => ?_)
  clear hK K
  refine norm_ (a' := ?_) ?_ ?_
  rotate_left
  ·show Act.put _ (some 16) _ = _
   simp only [Act.put, List.setIfInBounds_toArray, List.set_cons_zero, List.set_cons_succ, i64_w, i32_w]
   rfl
  refine pv 10 17 (bz 33 2047) HT_ (h := ?_)
  refine pu 11 18 (bz 33 4095) HT_ (h := ?_)
  refine pu 12 19 (bz 33 8191) HT_ (h := ?_)
  refine pu 13 20 (bz 33 16383) HT_ (h := ?_)
  refine pu 14 21 (bz 33 32767) HT_ (h := ?_)
  refine pu 15 22 (bz 33 65535) HT_ (h := ?_)
  refine pu 16 23 (bz 33 131071) HT_ (h := ?_)
  refine pv 17 24 (bz 33 262143) HT_ (h := ?_)
  refine pv 18 25 (bz 33 524287) HT_ (h := ?_)
  refine pu 19 26 (bz 33 1048575) HT_ (h := ?_)
  refine pu 20 27 (bz 33 2097151) HT_ (h := ?_)
  refine pu 21 28 (bz 33 4194303) HT_ (h := ?_)
  refine pu 22 29 (bz 33 8388607) HT_ (h := ?_)
  refine pu 23 30 (bz 33 16777215) HT_ (h := ?_)
  refine pu 24 31 (bz 33 33554431) HT_ (h := ?_)
  refine pu 25 32 (bz 33 67108863) HT_ (h := ?_)
  refine pu 26 33 (bz 33 134217727) HT_ (h := ?_)
  refine pu 27 34 (bz 33 268435455) HT_ (h := ?_)
  refine pu 28 35 (bz 33 536870911) HT_ (h := ?_)
  refine pu 29 36 (bz 33 1073741823) HT_ (h := ?_)
  refine pu 30 37 (bz 33 2147483647) HT_ (h := ?_)
  refine pv 31 38 (bz 33 4294967295) HT_ (h := ?_)
  refine pv 32 6 (bz 33 8589934591) HT_ (h := ?_)
  refine done_ (done_of HT_.out (by kernel_rfl)) ?_
  try go_wp2
  go_ret
  exact ⟨by first | rfl | (simp [errW_none, errW_some] <;> rfl) | (simp only [← hji4]; first | rfl | (simp [errW_none, errW_some] <;> rfl)) | (simp [*, errW_none, errW_some] <;> rfl), bb⟩

/-! ### impl_DeviceOf: function 80 -/
def impl_DeviceOf.f (a0 : Int) : Option (Int) := (impl_IsId.f a0).bind fun t198 => (if t198 = true then (some (Int.tmod (wrap64 (Int.tdiv a0 4)) 4)) else (some (-1)))
set_option maxHeartbeats 8000000 in
set_option maxRecDepth 100000 in
theorem impl_DeviceOf.calls (a0 : Int) (r : Int) (w : World) (h : impl_DeviceOf.f a0 = some r) :
  Calls Try.prog 80 #[.int .i64 a0] w fun e w' => e = .returned (.int .i64 r) ∧ Drawn0 w w' := by
 have H : ((impl_IsId.f a0).bind fun t198 => (if t198 = true then (some (Int.tmod (wrap64 (Int.tdiv a0 4)) 4)) else (some (-1)))) = some r := h
 clear h
 replace H := Option.bind_eq_some_iff.mp H
 obtain ⟨t198, A20, H⟩ := H
 replace H : (if t198 = true then (some (Int.tmod (wrap64 (Int.tdiv a0 4)) 4)) else (some (-1))) = some r := H
 have A2 := Aside0.mk A20
 clear A20
 by_cases c3 : t198 = true
 ·subst c3
  have H1 : (some (Int.tmod (wrap64 (Int.tdiv a0 4)) 4)) = some r := by rw [if_pos rfl] at H; exact H
  clear H
  have H := H1
  clear H1
  obtain rfl := Option.some.inj H
  go_enter Try.func80, Try.ntmps80
  go_wp2_with (first | ((with_reducible refine gate_callee (f := 47) rfl ?_); refine goesL_ (some 4) rfl rfl Try.func47 (by kernel_rfl) rfl #[.int .i64 a0] rfl ms ?_; (with_reducible refine (impl_IsId.calls a0 true _ A2.out).mono ?_); rintro e w' ⟨rfl, ⟨nd, rfl⟩⟩; refine ⟨_, rfl, ?_⟩))
  go_ret
  exact ⟨by first | rfl | (simp; done) | (simp [*]; done), by repeat (first | exact Drawn0.refl _ | apply Drawn0.step)⟩
 ·replace c3 := Bool.eq_false_iff.mpr c3
  subst c3
  have H1 : (some (-1)) = some r := by rw [if_neg (show ¬ (false = true) by decide)] at H; exact H
  clear H
  have H := H1
  clear H1
  obtain rfl := Option.some.inj H
  go_enter Try.func80, Try.ntmps80
  go_wp2_with (first | ((with_reducible refine gate_callee (f := 47) rfl ?_); refine goesL_ (some 4) rfl rfl Try.func47 (by kernel_rfl) rfl #[.int .i64 a0] rfl ms ?_; (with_reducible refine (impl_IsId.calls a0 false _ A2.out).mono ?_); rintro e w' ⟨rfl, ⟨nd, rfl⟩⟩; refine ⟨_, rfl, ?_⟩))
  go_ret
  exact ⟨by first | rfl | (simp; done) | (simp [*]; done), by repeat (first | exact Drawn0.refl _ | apply Drawn0.step)⟩

end Go.Proofs.Ytbbppknnkghkjaa.PFnIdRoutes
