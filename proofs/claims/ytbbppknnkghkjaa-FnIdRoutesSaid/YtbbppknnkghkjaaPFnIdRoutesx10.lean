/- Printed by a program of this session out of the translation: each Go function as a Lean function, with the proof that Go comes to just its answer (no condition beyond what each theorem says). (squeezed) -/
import Derived.Test.YtbbppknnkghkjaaPFnIdRoutesx0
import Derived.Test.YtbbppknnkghkjaaSteps
import Derived.Test.YtbbppknnkghkjaaPFnIdRoutesx9
namespace Go.Proofs.Ytbbppknnkghkjaa.PFnIdRoutes
open Go.RowKit Go.Proofs.YtbbppknnkghkjaaW.PrintWords Go.Proofs.YtbbppknnkghkjaaW.PrintLast Go.Proofs.YtbbppknnkghkjaaW.PrintMore Go.Proofs.Ytbbppknnkghkjaa.Kit Go.Proofs.Ytbbppknnkghkjaa.Steps Go.Proofs.Ytbbppknnkghkjaa.Kit2
attribute [local go_sem] max2_int min2_int max_two min_two max_three min_three max_four min_four   -- for this text's walks alone
set_option linter.unusedVariables false
set_option linter.unusedSimpArgs false

/-! ### impl_IsLocal: function 34 -/
def impl_IsLocal.f (k : Nat) (l0 : List (S50)) (l1_0 : List Int) (l1_1 : List Int) (l1_2 : List Int) (a2 : Int) (a3 : Int) : Option (Bool) := (impl_NodeId.f k l0 l1_0 l1_1 l1_2 a3 0).bind fun t306 => ((impl_RouteToId.f k l0 l1_0 l1_1 l1_2 a2 t306).bind fun t307 => (if (t307.length : Int) > 0 then (if a2 = 0 then (some true) else ((slices_Contains_int_int.f k t307 0).bind fun t310 => (some (!t310)))) else (some false)))
def impl_IsLocal.T1 : Bool × List (List Nat × List Nat) := (true, [([], []), ([], []), ([], []), ([], []), ([], []), ([], []), ([3, 4, 5], [3, 4, 5]), ([0, 1, 2, 6, 6], [0, 1, 2, 6]), ([7, 7, 0, 1, 2, 3, 4, 5, 6, 7], [7])])
def impl_IsLocal.B1 : List Nat := [0, 0, 0, 0, 0, 0, 56, 127, 255]
theorem impl_IsLocal.tab1 : rtab .any (opsOf Try.f34 1) = impl_IsLocal.T1 := by kernel_rfl
theorem impl_IsLocal.bits1 : waitsOk impl_IsLocal.T1.2 impl_IsLocal.B1 = true := by kernel_rfl
set_option maxHeartbeats 8000000 in
set_option maxRecDepth 100000 in
theorem impl_IsLocal.calls (k : Nat) (A0 : Option Addr) (c0 : Nat) (l0 : List (S50)) (A1_0 : Option Addr) (c1_0 : Nat) (l1_0 : List Int) (A1_1 : Option Addr) (c1_1 : Nat) (l1_1 : List Int) (A1_2 : Option Addr) (c1_2 : Nat) (l1_2 : List Int) (a2 : Int) (a3 : Int) (r : Bool) (w : World) (hr0 : Kd.C k50 w A0 l0.length l0) (hc0 : l0.length ≤ c0) (hr1_0 : Kd.C (Kd.int .i64) w A1_0 l1_0.length l1_0) (hc1_0 : l1_0.length ≤ c1_0) (hr1_1 : Kd.C (Kd.int .i64) w A1_1 l1_1.length l1_1) (hc1_1 : l1_1.length ≤ c1_1) (hr1_2 : Kd.C (Kd.int .i64) w A1_2 l1_2.length l1_2) (hc1_2 : l1_2.length ≤ c1_2) (h : impl_IsLocal.f k l0 l1_0 l1_1 l1_2 a2 a3 = some r) :
  Calls Try.prog 34 #[.slice A0 l0.length c0, .agg #[.slice A1_0 l1_0.length c1_0, .slice A1_1 l1_1.length c1_1, .slice A1_2 l1_2.length c1_2], .int .i64 a2, .int .i64 a3] w fun e w' => e = .returned (.bool r) ∧ Below w.heap.size w w' := by
 have hu31 := Try.underlying31
 have HR0 := Aside0.mk hr0
 have HC0 := Aside0.mk hc0
 clear hr0 hc0
 have HR1_0 := Aside0.mk hr1_0
 have HC1_0 := Aside0.mk hc1_0
 clear hr1_0 hc1_0
 have HR1_1 := Aside0.mk hr1_1
 have HC1_1 := Aside0.mk hc1_1
 clear hr1_1 hc1_1
 have HR1_2 := Aside0.mk hr1_2
 have HC1_2 := Aside0.mk hc1_2
 clear hr1_2 hc1_2
 have HB := Aside0.mk (Below.refl w.heap.size w)
 have H : ((impl_NodeId.f k l0 l1_0 l1_1 l1_2 a3 0).bind fun t306 => ((impl_RouteToId.f k l0 l1_0 l1_1 l1_2 a2 t306).bind fun t307 => (if (t307.length : Int) > 0 then (if a2 = 0 then (some true) else ((slices_Contains_int_int.f k t307 0).bind fun t310 => (some (!t310)))) else (some false)))) = some r := h
 clear h
 replace H := Option.bind_eq_some_iff.mp H
 obtain ⟨t306, A50, H⟩ := H
 replace H : ((impl_RouteToId.f k l0 l1_0 l1_1 l1_2 a2 t306).bind fun t307 => (if (t307.length : Int) > 0 then (if a2 = 0 then (some true) else ((slices_Contains_int_int.f k t307 0).bind fun t310 => (some (!t310)))) else (some false))) = some r := H
 have A5 := Aside0.mk A50
 clear A50
 replace H := Option.bind_eq_some_iff.mp H
 obtain ⟨t307, A60, H⟩ := H
 replace H : (if (t307.length : Int) > 0 then (if a2 = 0 then (some true) else ((slices_Contains_int_int.f k t307 0).bind fun t310 => (some (!t310)))) else (some false)) = some r := H
 have A6 := Aside0.mk A60
 clear A60
 by_cases c7 : (t307.length : Int) > 0
 ·rw [if_pos c7] at H
  have c7b0 : decide (0 < (t307.length : Int)) = true := decide_eq_true c7
  have c7b1 : decide (0 < t307.length) = true := decide_eq_true (by omega)
  clear c7
  by_cases c8 : a2 = 0
  ·rw [if_pos c8] at H
   have c8b0 : (a2 == 0) = true := beq_iff_eq.mpr c8
   have c8b1 : (a2 != 0) = false := bne_eq_false_iff_eq.mpr c8
   clear c8
   obtain rfl := Option.some.inj H
   go_enter Try.func34, Try.ntmps34
   try go_wp2_with (first | ((with_reducible refine gate_dst (N := 5) rfl ?_); refine box_event ?hg (N := 5) ?hd (cs := #[.slice A1_0 l1_0.length c1_0, .slice A1_1 l1_1.length c1_1, .slice A1_2 l1_2.length c1_2]) (t := 31) ?hr ?_; (case hd => rfl); (case hg => rfl); (case hr => first | (go_simp; done) | (go_simp; rfl)); intro gb305 hg w9 hbox hb; have t_ := fc4 (below_step bb hb) (hbox) (bg hg : w.heap.size ≤ gb305) (bg hg : w.heap.size ≤ gb305); clear HB; obtain ⟨HB, BK305, GW305, GE305⟩ := t_; clear hb hbox hg))
   have t_ := fc2 (blk_drew BK305.out) (below_drew1 HB.out)
   clear BK305 HB
   obtain ⟨BK305, HB⟩ := t_
   refine start_ (n := 9) (S := fun w' => w'.cell? ⟨gb305, 0, none⟩ = some (.slice A1_0 l1_0.length c1_0) ∧ w'.cell? ⟨gb305, 1, none⟩ = some (.slice A1_1 l1_1.length c1_1) ∧ w'.cell? ⟨gb305, 2, none⟩ = some (.slice A1_2 l1_2.length c1_2)) (ds := []) (bz 9 0) (by kernel_rfl) rfl (by kernel_rfl) ⟨(blk_cell BK305.out 0).trans rfl, (blk_cell BK305.out 1).trans rfl, (blk_cell BK305.out 2).trans rfl⟩ (fun hHeld => ?_); refine with_tabW impl_IsLocal.tab1 impl_IsLocal.bits1 (fun HT_ HW_ => ?_)
   generalize w9.drew = w10 at BK305 HB hHeld ⊢
   refine pv 0 10 (bz 9 1) HT_ (h := ?_)
   refine pv 2 12 (bz 9 5) HT_ (h := ?_)
   refine pv 3 13 (bz 9 13) HT_ (h := ?_)
   refine pv 5 15 (bz 9 45) HT_ (h := ?_)
   refine tv3 1 11 (bz 9 47) HT_ HW_ hHeld (h := ?_)
   refine tv3 4 14 (bz 9 63) HT_ HW_ hHeld (h := ?_)
   refine one_ (i := 6) (N := some 16) (bz 9 127) rfl rfl (one_of HT_.out (by kernel_rfl)) (by decide) (fun K hK => ?_)
   refine goes_ Try.func45 (by kernel_rfl) rfl #[.slice A0 l0.length c0, .agg #[.slice A1_0 l1_0.length c1_0, .slice A1_1 l1_1.length c1_1, .slice A1_2 l1_2.length c1_2], .int .i64 a3, .int .i64 0] (by rfl) rfl rfl ms ?_
   with_reducible refine (impl_NodeId.calls k _ _ l0 _ _ l1_0 _ _ l1_1 _ _ l1_2 a3 0 t306 _ ?side1 ?side2 ?side3 ?side4 ?side5 ?side6 ?side7 ?side8 A5.out).mono ?_
   (case side1 => exact kc)
   (case side2 => exact HC0.out)
   (case side3 => exact kc)
   (case side4 => exact HC1_0.out)
   (case side5 => exact kc)
   (case side6 => exact HC1_1.out)
   (case side7 => exact kc)
   (case side8 => exact HC1_2.out)
   rintro e w11 ⟨rfl, hb⟩
   refine ⟨_, rfl, ?_⟩
   have t_ := fc2 (bw BK305 hb) (below_step bb hb)
   clear BK305 HB
   obtain ⟨BK305, HB⟩ := t_
   (try clear hb)
   (try clear hb2)
   (try clear hk)
   (try clear hi)
   refine hK.out _ _ ⟨(blk_cell BK305.out 0).trans rfl, (blk_cell BK305.out 1).trans rfl, (blk_cell BK305.out 2).trans rfl⟩ (fun hHeld => ?_)
   clear hK K
   refine norm_ (a' := ?_) ?_ ?_
   rotate_left
   ·show Act.put _ (some 16) _ = _
    simp only [Act.put, List.setIfInBounds_toArray, List.set_cons_zero, List.set_cons_succ, i64_w, i32_w]
    rfl
   refine one_ (i := 7) (N := some 17) (bz 9 255) rfl rfl (one_of HT_.out (by kernel_rfl)) (by decide) (fun K hK => ?_)
   refine goes_ Try.func32 (by kernel_rfl) rfl #[.slice A0 l0.length c0, .agg #[.slice A1_0 l1_0.length c1_0, .slice A1_1 l1_1.length c1_1, .slice A1_2 l1_2.length c1_2], .int .i64 a2, .int .i64 t306] (by rfl) rfl rfl ms ?_
   with_reducible refine (impl_RouteToId.calls k _ _ l0 _ _ l1_0 _ _ l1_1 _ _ l1_2 a2 t306 t307 _ ?side1 ?side2 ?side3 ?side4 ?side5 ?side6 ?side7 ?side8 A6.out).mono ?_
   (case side1 => exact kc)
   (case side2 => exact HC0.out)
   (case side3 => exact kc)
   (case side4 => exact HC1_0.out)
   (case side5 => exact kc)
   (case side6 => exact HC1_1.out)
   (case side7 => exact kc)
   (case side8 => exact HC1_2.out)
   rintro e w12 ⟨v308, rfl, ho0, hb⟩
   refine ⟨_, rfl, ?_⟩
   have t_ := fc3 (Kd.R_lower ho0 (below_size bb)) (bw BK305 hb) (below_step bb hb)
   clear BK305 HB
   obtain ⟨HO309, BK305, HB⟩ := t_
   (try clear hb)
   (try clear hb2)
   (try clear hk)
   (try clear hi)
   (try clear ho0)
   refine hK.out _ _ ⟨(blk_cell BK305.out 0).trans rfl, (blk_cell BK305.out 1).trans rfl, (blk_cell BK305.out 2).trans rfl⟩ (fun hHeld => ?_)
   clear hK K
   refine norm_ (a' := ?_) ?_ ?_
   rotate_left
   ·show Act.put _ (some 17) _ = _
    simp only [Act.put, List.setIfInBounds_toArray, List.set_cons_zero, List.set_cons_succ, i64_w, i32_w]
    rfl
   refine pv 8 9 (bz 9 511) HT_ (h := ?_)
   refine done_ (done_of HT_.out (by kernel_rfl)) ?_
   obtain ⟨Ao13, co13, eo13⟩ := Kd.R_slice HO309.out
   subst eo13
   try go_wp2
   go_ret
   exact ⟨er, bb⟩
  ·rw [if_neg c8] at H
   have c8b0 : (a2 == 0) = false := beq_eq_false_iff_ne.mpr c8
   have c8b1 : (a2 != 0) = true := bne_iff_ne.mpr c8
   replace H := Option.bind_eq_some_iff.mp H
   obtain ⟨t310, A140, H⟩ := H
   replace H : (some (!t310)) = some r := H
   have A14 := Aside0.mk A140
   clear A140
   obtain rfl := Option.some.inj H
   go_enter Try.func34, Try.ntmps34
   try go_wp2_with (first | ((with_reducible refine gate_dst (N := 5) rfl ?_); refine box_event ?hg (N := 5) ?hd (cs := #[.slice A1_0 l1_0.length c1_0, .slice A1_1 l1_1.length c1_1, .slice A1_2 l1_2.length c1_2]) (t := 31) ?hr ?_; (case hd => rfl); (case hg => rfl); (case hr => first | (go_simp; done) | (go_simp; rfl)); intro gb305 hg w15 hbox hb; have t_ := fc4 (below_step bb hb) (hbox) (bg hg : w.heap.size ≤ gb305) (bg hg : w.heap.size ≤ gb305); clear HB; obtain ⟨HB, BK305, GW305, GE305⟩ := t_; clear hb hbox hg))
   have t_ := fc2 (blk_drew BK305.out) (below_drew1 HB.out)
   clear BK305 HB
   obtain ⟨BK305, HB⟩ := t_
   refine start_ (n := 9) (S := fun w' => w'.cell? ⟨gb305, 0, none⟩ = some (.slice A1_0 l1_0.length c1_0) ∧ w'.cell? ⟨gb305, 1, none⟩ = some (.slice A1_1 l1_1.length c1_1) ∧ w'.cell? ⟨gb305, 2, none⟩ = some (.slice A1_2 l1_2.length c1_2)) (ds := []) (bz 9 0) (by kernel_rfl) rfl (by kernel_rfl) ⟨(blk_cell BK305.out 0).trans rfl, (blk_cell BK305.out 1).trans rfl, (blk_cell BK305.out 2).trans rfl⟩ (fun hHeld => ?_); refine with_tabW impl_IsLocal.tab1 impl_IsLocal.bits1 (fun HT_ HW_ => ?_)
   generalize w15.drew = w16 at BK305 HB hHeld ⊢
   refine pv 0 10 (bz 9 1) HT_ (h := ?_)
   refine pv 2 12 (bz 9 5) HT_ (h := ?_)
   refine pv 3 13 (bz 9 13) HT_ (h := ?_)
   refine pv 5 15 (bz 9 45) HT_ (h := ?_)
   refine tv3 1 11 (bz 9 47) HT_ HW_ hHeld (h := ?_)
   refine tv3 4 14 (bz 9 63) HT_ HW_ hHeld (h := ?_)
   refine one_ (i := 6) (N := some 16) (bz 9 127) rfl rfl (one_of HT_.out (by kernel_rfl)) (by decide) (fun K hK => ?_)
   refine goes_ Try.func45 (by kernel_rfl) rfl #[.slice A0 l0.length c0, .agg #[.slice A1_0 l1_0.length c1_0, .slice A1_1 l1_1.length c1_1, .slice A1_2 l1_2.length c1_2], .int .i64 a3, .int .i64 0] (by rfl) rfl rfl ms ?_
   with_reducible refine (impl_NodeId.calls k _ _ l0 _ _ l1_0 _ _ l1_1 _ _ l1_2 a3 0 t306 _ ?side1 ?side2 ?side3 ?side4 ?side5 ?side6 ?side7 ?side8 A5.out).mono ?_
   (case side1 => exact kc)
   (case side2 => exact HC0.out)
   (case side3 => exact kc)
   (case side4 => exact HC1_0.out)
   (case side5 => exact kc)
   (case side6 => exact HC1_1.out)
   (case side7 => exact kc)
   (case side8 => exact HC1_2.out)
   rintro e w17 ⟨rfl, hb⟩
   refine ⟨_, rfl, ?_⟩
   have t_ := fc2 (bw BK305 hb) (below_step bb hb)
   clear BK305 HB
   obtain ⟨BK305, HB⟩ := t_
   (try clear hb)
   (try clear hb2)
   (try clear hk)
   (try clear hi)
   refine hK.out _ _ ⟨(blk_cell BK305.out 0).trans rfl, (blk_cell BK305.out 1).trans rfl, (blk_cell BK305.out 2).trans rfl⟩ (fun hHeld => ?_)
   clear hK K
   refine norm_ (a' := ?_) ?_ ?_
   rotate_left
   ·show Act.put _ (some 16) _ = _
    simp only [Act.put, List.setIfInBounds_toArray, List.set_cons_zero, List.set_cons_succ, i64_w, i32_w]
    rfl
   refine one_ (i := 7) (N := some 17) (bz 9 255) rfl rfl (one_of HT_.out (by kernel_rfl)) (by decide) (fun K hK => ?_)
   refine goes_ Try.func32 (by kernel_rfl) rfl #[.slice A0 l0.length c0, .agg #[.slice A1_0 l1_0.length c1_0, .slice A1_1 l1_1.length c1_1, .slice A1_2 l1_2.length c1_2], .int .i64 a2, .int .i64 t306] (by rfl) rfl rfl ms ?_
   with_reducible refine (impl_RouteToId.calls k _ _ l0 _ _ l1_0 _ _ l1_1 _ _ l1_2 a2 t306 t307 _ ?side1 ?side2 ?side3 ?side4 ?side5 ?side6 ?side7 ?side8 A6.out).mono ?_
   (case side1 => exact kc)
   (case side2 => exact HC0.out)
   (case side3 => exact kc)
   (case side4 => exact HC1_0.out)
   (case side5 => exact kc)
   (case side6 => exact HC1_1.out)
   (case side7 => exact kc)
   (case side8 => exact HC1_2.out)
   rintro e w18 ⟨v308, rfl, ho0, hb⟩
   refine ⟨_, rfl, ?_⟩
   have t_ := fc3 (Kd.R_lower ho0 (below_size bb)) (bw BK305 hb) (below_step bb hb)
   clear BK305 HB
   obtain ⟨HO309, BK305, HB⟩ := t_
   (try clear hb)
   (try clear hb2)
   (try clear hk)
   (try clear hi)
   (try clear ho0)
   refine hK.out _ _ ⟨(blk_cell BK305.out 0).trans rfl, (blk_cell BK305.out 1).trans rfl, (blk_cell BK305.out 2).trans rfl⟩ (fun hHeld => ?_)
   clear hK K
   refine norm_ (a' := ?_) ?_ ?_
   rotate_left
   ·show Act.put _ (some 17) _ = _
    simp only [Act.put, List.setIfInBounds_toArray, List.set_cons_zero, List.set_cons_succ, i64_w, i32_w]
    rfl
   refine pv 8 9 (bz 9 511) HT_ (h := ?_)
   refine done_ (done_of HT_.out (by kernel_rfl)) ?_
   obtain ⟨Ao19, co19, eo19⟩ := Kd.R_slice HO309.out
   subst eo19
   try go_wp2_with (first | (go_at_call 87; (with_reducible refine (slices_Contains_int_int.calls k _ _ t307 0 t310 _ ?side1 ?side2 A14.out).mono ?_); (case side1 => repeat (first | exact (Kd.R_reads' HO309.out).2.2 | (with_reducible refine Kd.C_alloc ?_ _) | (with_reducible refine Kd.C_drewN ?_ _) | (with_reducible refine Kd.C_drew ?_))); (case side2 => exact (Kd.R_reads' HO309.out).2.1); rintro e w' ⟨rfl, ⟨nd, rfl⟩⟩))
   go_ret
   exact ⟨er, bb⟩
 ·rw [if_neg c7] at H
  have c7b0 : decide (0 < (t307.length : Int)) = false := decide_eq_false c7
  have c7b1 : decide (0 < t307.length) = false := decide_eq_false (by omega)
  clear c7
  obtain rfl := Option.some.inj H
  go_enter Try.func34, Try.ntmps34
  try go_wp2_with (first | ((with_reducible refine gate_dst (N := 5) rfl ?_); refine box_event ?hg (N := 5) ?hd (cs := #[.slice A1_0 l1_0.length c1_0, .slice A1_1 l1_1.length c1_1, .slice A1_2 l1_2.length c1_2]) (t := 31) ?hr ?_; (case hd => rfl); (case hg => rfl); (case hr => first | (go_simp; done) | (go_simp; rfl)); intro gb305 hg w20 hbox hb; have t_ := fc4 (below_step bb hb) (hbox) (bg hg : w.heap.size ≤ gb305) (bg hg : w.heap.size ≤ gb305); clear HB; obtain ⟨HB, BK305, GW305, GE305⟩ := t_; clear hb hbox hg))
  have t_ := fc2 (blk_drew BK305.out) (below_drew1 HB.out)
  clear BK305 HB
  obtain ⟨BK305, HB⟩ := t_
  refine start_ (n := 9) (S := fun w' => w'.cell? ⟨gb305, 0, none⟩ = some (.slice A1_0 l1_0.length c1_0) ∧ w'.cell? ⟨gb305, 1, none⟩ = some (.slice A1_1 l1_1.length c1_1) ∧ w'.cell? ⟨gb305, 2, none⟩ = some (.slice A1_2 l1_2.length c1_2)) (ds := []) (bz 9 0) (by kernel_rfl) rfl (by kernel_rfl) ⟨(blk_cell BK305.out 0).trans rfl, (blk_cell BK305.out 1).trans rfl, (blk_cell BK305.out 2).trans rfl⟩ (fun hHeld => ?_); refine with_tabW impl_IsLocal.tab1 impl_IsLocal.bits1 (fun HT_ HW_ => ?_)
  generalize w20.drew = w21 at BK305 HB hHeld ⊢
  refine pv 0 10 (bz 9 1) HT_ (h := ?_)
  refine pv 2 12 (bz 9 5) HT_ (h := ?_)
  refine pv 3 13 (bz 9 13) HT_ (h := ?_)
  refine pv 5 15 (bz 9 45) HT_ (h := ?_)
  refine tv3 1 11 (bz 9 47) HT_ HW_ hHeld (h := ?_)
  refine tv3 4 14 (bz 9 63) HT_ HW_ hHeld (h := ?_)
  refine one_ (i := 6) (N := some 16) (bz 9 127) rfl rfl (one_of HT_.out (by kernel_rfl)) (by decide) (fun K hK => ?_)
  refine goes_ Try.func45 (by kernel_rfl) rfl #[.slice A0 l0.length c0, .agg #[.slice A1_0 l1_0.length c1_0, .slice A1_1 l1_1.length c1_1, .slice A1_2 l1_2.length c1_2], .int .i64 a3, .int .i64 0] (by rfl) rfl rfl ms ?_
  with_reducible refine (impl_NodeId.calls k _ _ l0 _ _ l1_0 _ _ l1_1 _ _ l1_2 a3 0 t306 _ ?side1 ?side2 ?side3 ?side4 ?side5 ?side6 ?side7 ?side8 A5.out).mono ?_
  (case side1 => exact kc)
  (case side2 => exact HC0.out)
  (case side3 => exact kc)
  (case side4 => exact HC1_0.out)
  (case side5 => exact kc)
  (case side6 => exact HC1_1.out)
  (case side7 => exact kc)
  (case side8 => exact HC1_2.out)
  rintro e w22 ⟨rfl, hb⟩
  refine ⟨_, rfl, ?_⟩
  have t_ := fc2 (bw BK305 hb) (below_step bb hb)
  clear BK305 HB
  obtain ⟨BK305, HB⟩ := t_
  (try clear hb)
  (try clear hb2)
  (try clear hk)
  (try clear hi)
  refine hK.out _ _ ⟨(blk_cell BK305.out 0).trans rfl, (blk_cell BK305.out 1).trans rfl, (blk_cell BK305.out 2).trans rfl⟩ (fun hHeld => ?_)
  clear hK K
  refine norm_ (a' := ?_) ?_ ?_
  rotate_left
  ·show Act.put _ (some 16) _ = _
   simp only [Act.put, List.setIfInBounds_toArray, List.set_cons_zero, List.set_cons_succ, i64_w, i32_w]
   rfl
  refine one_ (i := 7) (N := some 17) (bz 9 255) rfl rfl (one_of HT_.out (by kernel_rfl)) (by decide) (fun K hK => ?_)
  refine goes_ Try.func32 (by kernel_rfl) rfl #[.slice A0 l0.length c0, .agg #[.slice A1_0 l1_0.length c1_0, .slice A1_1 l1_1.length c1_1, .slice A1_2 l1_2.length c1_2], .int .i64 a2, .int .i64 t306] (by rfl) rfl rfl ms ?_
  with_reducible refine (impl_RouteToId.calls k _ _ l0 _ _ l1_0 _ _ l1_1 _ _ l1_2 a2 t306 t307 _ ?side1 ?side2 ?side3 ?side4 ?side5 ?side6 ?side7 ?side8 A6.out).mono ?_
  (case side1 => exact kc)
  (case side2 => exact HC0.out)
  (case side3 => exact kc)
  (case side4 => exact HC1_0.out)
  (case side5 => exact kc)
  (case side6 => exact HC1_1.out)
  (case side7 => exact kc)
  (case side8 => exact HC1_2.out)
  rintro e w23 ⟨v308, rfl, ho0, hb⟩
  refine ⟨_, rfl, ?_⟩
  have t_ := fc3 (Kd.R_lower ho0 (below_size bb)) (bw BK305 hb) (below_step bb hb)
  clear BK305 HB
  obtain ⟨HO309, BK305, HB⟩ := t_
  (try clear hb)
  (try clear hb2)
  (try clear hk)
  (try clear hi)
  (try clear ho0)
  refine hK.out _ _ ⟨(blk_cell BK305.out 0).trans rfl, (blk_cell BK305.out 1).trans rfl, (blk_cell BK305.out 2).trans rfl⟩ (fun hHeld => ?_)
  clear hK K
  refine norm_ (a' := ?_) ?_ ?_
  rotate_left
  ·show Act.put _ (some 17) _ = _
   simp only [Act.put, List.setIfInBounds_toArray, List.set_cons_zero, List.set_cons_succ, i64_w, i32_w]
   rfl
  refine pv 8 9 (bz 9 511) HT_ (h := ?_)
  refine done_ (done_of HT_.out (by kernel_rfl)) ?_
  obtain ⟨Ao24, co24, eo24⟩ := Kd.R_slice HO309.out
  subst eo24
  try go_wp2
  go_ret
  exact ⟨er, bb⟩

/-! ### laws_big: function 35 -/
def laws_big.f (l0 : List Int) : Option (Bool) := some (decide ((l0.length : Int) > 1048576))
set_option maxHeartbeats 8000000 in
set_option maxRecDepth 100000 in
theorem laws_big.calls (A0 : Option Addr) (c0 : Nat) (l0 : List Int) (r : Bool) (w : World) (hr0 : Kd.C (Kd.int .u8) w A0 l0.length l0) (hc0 : l0.length ≤ c0) (h : laws_big.f l0 = some r) :
  Calls Try.prog 35 #[.slice A0 l0.length c0] w fun e w' => e = .returned (.bool r) ∧ Drawn0 w w' := by
 have HR0 := Aside0.mk hr0
 have HC0 := Aside0.mk hc0
 clear hr0 hc0
 have H : (some (decide ((l0.length : Int) > 1048576))) = some r := h
 clear h
 obtain rfl := Option.some.inj H
 go_enter Try.func35, Try.ntmps35
 go_wp2
 go_ret
 exact ⟨by first | rfl | (simp; done) | (simp [*]; done), by repeat (first | exact Drawn0.refl _ | apply Drawn0.step)⟩

/-! ### spec_l01In: function 103 -/
def spec_l01In.f (a0 : Int) (a1 : Int) (a2 : Int) : Option (Bool) := if a0 ≥ a1 then (some (decide (a0 ≤ a2))) else (some false)
set_option maxHeartbeats 8000000 in
set_option maxRecDepth 100000 in
theorem spec_l01In.calls (a0 : Int) (a1 : Int) (a2 : Int) (r : Bool) (w : World) (h : spec_l01In.f a0 a1 a2 = some r) :
  Calls Try.prog 103 #[.int .i64 a0, .int .i64 a1, .int .i64 a2] w fun e w' => e = .returned (.bool r) ∧ Drawn0 w w' := by
 have H : (if a0 ≥ a1 then (some (decide (a0 ≤ a2))) else (some false)) = some r := h
 clear h
 by_cases c4 : a0 ≥ a1
 ·rw [if_pos c4] at H
  have c4b0 : decide (a1 ≤ a0) = true := decide_eq_true c4
  clear c4
  obtain rfl := Option.some.inj H
  go_enter Try.func103, Try.ntmps103
  go_wp2
  go_ret
  exact ⟨by first | rfl | (simp; done) | (simp [*]; done), by repeat (first | exact Drawn0.refl _ | apply Drawn0.step)⟩
 ·rw [if_neg c4] at H
  have c4b0 : decide (a1 ≤ a0) = false := decide_eq_false c4
  clear c4
  obtain rfl := Option.some.inj H
  go_enter Try.func103, Try.ntmps103
  go_wp2
  go_ret
  exact ⟨by first | rfl | (simp; done) | (simp [*]; done), by repeat (first | exact Drawn0.refl _ | apply Drawn0.step)⟩

end Go.Proofs.Ytbbppknnkghkjaa.PFnIdRoutes
