/- Printed by a program of this session out of the translation: each Go function as a Lean function, with the proof that Go comes to just its answer (no condition beyond what each theorem says). (squeezed) -/
import Derived.Test.YtbbppknnkghkjaaPFnIdRoutesx0
import Derived.Test.YtbbppknnkghkjaaPFnIdRoutesx2
import Derived.Test.YtbbppknnkghkjaaPFnIdRoutesx4
import Derived.Test.YtbbppknnkghkjaaPFnIdRoutesx6
import Derived.Test.YtbbppknnkghkjaaPFnIdRoutesx7
import Derived.Test.YtbbppknnkghkjaaPFnIdRoutesx8
namespace Go.Proofs.Ytbbppknnkghkjaa.PFnIdRoutes
open Go.RowKit Go.Proofs.YtbbppknnkghkjaaW.PrintWords Go.Proofs.YtbbppknnkghkjaaW.PrintLast Go.Proofs.YtbbppknnkghkjaaW.PrintMore Go.Proofs.Ytbbppknnkghkjaa.Kit Go.Proofs.Ytbbppknnkghkjaa.Kit2
attribute [local go_sem] max2_int min2_int max_two min_two max_three min_three max_four min_four   -- for this text's walks alone
set_option linter.unusedVariables false
set_option linter.unusedSimpArgs false

/-! ### impl_RouteToId: function 32 -/
def impl_RouteToId.f (k : Nat) (l0 : List (S50)) (l1_0 : List Int) (l1_1 : List Int) (l1_2 : List Int) (a2 : Int) (a3 : Int) : Option (List Int) := (impl_DownToId.f k l0 l1_0 l1_1 l1_2 a3).bind fun t285 => (if (t285.length : Int) = 0 then (some ([] : List Int)) else (if 0 ≤ (wrap64 ((t285.length : Int) - 1)) then (if (wrap64 ((t285.length : Int) - 1)) < (t285.length : Int) then ((impl_PathBetween.f k l0 a2 (rd t285 (wrap64 ((t285.length : Int) - 1)))).bind fun t289 => (some t289)) else (none)) else (none)))
set_option maxHeartbeats 8000000 in
set_option maxRecDepth 100000 in
theorem impl_RouteToId.calls (k : Nat) (A0 : Option Addr) (c0 : Nat) (l0 : List (S50)) (A1_0 : Option Addr) (c1_0 : Nat) (l1_0 : List Int) (A1_1 : Option Addr) (c1_1 : Nat) (l1_1 : List Int) (A1_2 : Option Addr) (c1_2 : Nat) (l1_2 : List Int) (a2 : Int) (a3 : Int) (r : List Int) (w : World) (hr0 : Kd.C k50 w A0 l0.length l0) (hc0 : l0.length ≤ c0) (hr1_0 : Kd.C (Kd.int .i64) w A1_0 l1_0.length l1_0) (hc1_0 : l1_0.length ≤ c1_0) (hr1_1 : Kd.C (Kd.int .i64) w A1_1 l1_1.length l1_1) (hc1_1 : l1_1.length ≤ c1_1) (hr1_2 : Kd.C (Kd.int .i64) w A1_2 l1_2.length l1_2) (hc1_2 : l1_2.length ≤ c1_2) (h : impl_RouteToId.f k l0 l1_0 l1_1 l1_2 a2 a3 = some r) :
  Calls Try.prog 32 #[.slice A0 l0.length c0, .agg #[.slice A1_0 l1_0.length c1_0, .slice A1_1 l1_1.length c1_1, .slice A1_2 l1_2.length c1_2], .int .i64 a2, .int .i64 a3] w fun e w' => ∃ v0_ : Value, e = .returned (v0_) ∧ Kd.R (Kd.int .i64) 3 w' w.heap.size (fun _ => True) v0_ r ∧ Below w.heap.size w w' := by
 have hu31 := Try.underlying31
 have HR0 := Aside0.mk hr0
 have HC0 := Aside0.mk hc0
 clear hr0 hc0
 have HR1_0 := Aside0.mk hr1_0
 have HC1_0 := Aside0.mk hc1_0
 clear hr1_0 hc1_0
 have HR1_1 := Aside0.mk hr1_1
 have HC1_1 := Aside0.mk hc1_1
 clear hr1_1 hc1_1
 have HR1_2 := Aside0.mk hr1_2
 have HC1_2 := Aside0.mk hc1_2
 clear hr1_2 hc1_2
 have HB := Aside0.mk (Below.refl w.heap.size w)
 have H : ((impl_DownToId.f k l0 l1_0 l1_1 l1_2 a3).bind fun t285 => (if (t285.length : Int) = 0 then (some ([] : List Int)) else (if 0 ≤ (wrap64 ((t285.length : Int) - 1)) then (if (wrap64 ((t285.length : Int) - 1)) < (t285.length : Int) then ((impl_PathBetween.f k l0 a2 (rd t285 (wrap64 ((t285.length : Int) - 1)))).bind fun t289 => (some t289)) else (none)) else (none)))) = some r := h
 clear h
 replace H := Option.bind_eq_some_iff.mp H
 obtain ⟨t285, A50, H⟩ := H
 replace H : (if (t285.length : Int) = 0 then (some ([] : List Int)) else (if 0 ≤ (wrap64 ((t285.length : Int) - 1)) then (if (wrap64 ((t285.length : Int) - 1)) < (t285.length : Int) then ((impl_PathBetween.f k l0 a2 (rd t285 (wrap64 ((t285.length : Int) - 1)))).bind fun t289 => (some t289)) else (none)) else (none))) = some r := H
 have A5 := Aside0.mk A50
 clear A50
 by_cases c6 : (t285.length : Int) = 0
 ·rw [if_pos c6] at H
  have c6b0 : ((t285.length : Int) == 0) = true := beq_iff_eq.mpr c6
  have c6b1 : ((t285.length : Int) != 0) = false := bne_eq_false_iff_eq.mpr c6
  clear c6
  obtain rfl := Option.some.inj H
  go_enter Try.func32, Try.ntmps32
  go_wp2_with (first | ((with_reducible refine gate_dst (N := 5) rfl ?_); refine box_event ?hg (N := 5) ?hd (cs := #[.slice A1_0 l1_0.length c1_0, .slice A1_1 l1_1.length c1_1, .slice A1_2 l1_2.length c1_2]) (t := 31) ?hr ?_; (case hd => rfl); (case hg => rfl); (case hr => first | (go_simp; done) | (go_simp; rfl)); intro gb284 hg w7 hbox hb; have t_ := fc4 (below_step bb hb) (hbox) (bg hg : w.heap.size ≤ gb284) (bg hg : w.heap.size ≤ gb284); clear HB; obtain ⟨HB, BK284, GW284, GE284⟩ := t_; clear hb hbox hg; obtain ⟨hcz8_0, hcz8_1, hcz8_2, hfz8_0, hfz8_1, hfz8_2⟩ := bx3 BK284.out) | ((with_reducible refine gate_callee (f := 23) rfl ?_); refine goesL_ (some 13) rfl rfl Try.func23 (by kernel_rfl) rfl #[.slice A0 l0.length c0, .agg #[.slice A1_0 l1_0.length c1_0, .slice A1_1 l1_1.length c1_1, .slice A1_2 l1_2.length c1_2], .int .i64 a3] rfl ms ?_; (with_reducible refine (impl_DownToId.calls k _ _ l0 _ _ l1_0 _ _ l1_1 _ _ l1_2 a3 t285 _ ?side1 ?side2 ?side3 ?side4 ?side5 ?side6 ?side7 ?side8 A5.out).mono ?_); (case side1 => exact kc); (case side2 => exact HC0.out); (case side3 => exact kc); (case side4 => exact HC1_0.out); (case side5 => exact kc); (case side6 => exact HC1_1.out); (case side7 => exact kc); (case side8 => exact HC1_2.out); rintro e w9 ⟨v286, rfl, ho0, hb⟩; refine ⟨_, rfl, ?_⟩; have t_ := fc3 (Kd.R_lower ho0 (below_size bb)) (bw BK284 hb) (below_step bb hb); clear BK284 HB; obtain ⟨HO287, BK284, HB⟩ := t_; (try clear hb); (try clear ho0); obtain ⟨Ao10, co10, eo10⟩ := Kd.R_slice HO287.out; subst eo10))
  go_ret
  exact ⟨_, er, by first | exact Kd.R_nil _ _ _ _ _ | exact Kd.N_nil _ _ _ _ _ | exact Kd.V_nil _ _ _ _ _ | exact Kd.Q_nil _ _ _ _ _ | exact Kd.S_nil _ _ _ _ _, bb⟩
 ·rw [if_neg c6] at H
  have c6b0 : ((t285.length : Int) == 0) = false := beq_eq_false_iff_ne.mpr c6
  have c6b1 : ((t285.length : Int) != 0) = true := bne_iff_ne.mpr c6
  have c6b2 : ¬ (t285 = []) := fun h_ => c6 (by rw [h_]; rfl)
  obtain ⟨ji11, hji11⟩ : ∃ j_ : Int, (wrap64 ((t285.length : Int) - 1)) = j_ := ⟨_, rfl⟩
  replace H : (if 0 ≤ (ji11) then (if (ji11) < (t285.length : Int) then ((impl_PathBetween.f k l0 a2 (rd t285 (ji11))).bind fun t289 => (some t289)) else (none)) else (none)) = some r := by first | (rw [hji11] at H; exact H) | (simp only [hji11] at H ⊢; exact H)
  (try rw [hji11] at A5)
  have hji11w : (IntKind.i64.wrap ((t285.length : Int) - 1)) = ji11 := (i64_w _).trans hji11
  by_cases c12 : 0 ≤ (ji11)
  ·rw [if_pos c12] at H
   have c12b0 : decide (0 ≤ (ji11)) = true := decide_eq_true c12
   clear c12
   by_cases c13 : (ji11) < (t285.length : Int)
   ·rw [if_pos c13] at H
    have c13b0 : decide ((ji11) < (t285.length : Int)) = true := decide_eq_true c13
    clear c13
    replace H := Option.bind_eq_some_iff.mp H
    obtain ⟨t289, A140, H⟩ := H
    replace H : (some t289) = some r := H
    have A14 := Aside0.mk A140
    clear A140
    obtain rfl := Option.some.inj H
    go_enter Try.func32, Try.ntmps32
    go_wp2_with (first | ((with_reducible refine gate_dst (N := 5) rfl ?_); refine box_event ?hg (N := 5) ?hd (cs := #[.slice A1_0 l1_0.length c1_0, .slice A1_1 l1_1.length c1_1, .slice A1_2 l1_2.length c1_2]) (t := 31) ?hr ?_; (case hd => rfl); (case hg => rfl); (case hr => first | (go_simp; done) | (go_simp; rfl)); intro gb284 hg w15 hbox hb; have t_ := fc4 (below_step bb hb) (hbox) (bg hg : w.heap.size ≤ gb284) (bg hg : w.heap.size ≤ gb284); clear HB; obtain ⟨HB, BK284, GW284, GE284⟩ := t_; clear hb hbox hg; obtain ⟨hcz16_0, hcz16_1, hcz16_2, hfz16_0, hfz16_1, hfz16_2⟩ := bx3 BK284.out) | ((with_reducible refine gate_callee (f := 23) rfl ?_); refine goesL_ (some 13) rfl rfl Try.func23 (by kernel_rfl) rfl #[.slice A0 l0.length c0, .agg #[.slice A1_0 l1_0.length c1_0, .slice A1_1 l1_1.length c1_1, .slice A1_2 l1_2.length c1_2], .int .i64 a3] rfl ms ?_; (with_reducible refine (impl_DownToId.calls k _ _ l0 _ _ l1_0 _ _ l1_1 _ _ l1_2 a3 t285 _ ?side1 ?side2 ?side3 ?side4 ?side5 ?side6 ?side7 ?side8 A5.out).mono ?_); (case side1 => exact kc); (case side2 => exact HC0.out); (case side3 => exact kc); (case side4 => exact HC1_0.out); (case side5 => exact kc); (case side6 => exact HC1_1.out); (case side7 => exact kc); (case side8 => exact HC1_2.out); rintro e w17 ⟨v286, rfl, ho0, hb⟩; refine ⟨_, rfl, ?_⟩; have t_ := fc3 (Kd.R_lower ho0 (below_size bb)) (bw BK284 hb) (below_step bb hb); clear BK284 HB; obtain ⟨HO287, BK284, HB⟩ := t_; (try clear hb); (try clear ho0); obtain ⟨Ao18, co18, eo18⟩ := Kd.R_slice HO287.out; subst eo18; have p288 : 0 ≤ ((ji11) : Int) := of_decide_eq_true as_; have q288 : (ji11) < (t285.length : Int) := of_decide_eq_true as_; obtain ⟨ad288, e288, hx288_0⟩ := Kd.at_int (Kd.R_reads' HO287.out).2.2 (ji11) p288 q288; cases e288; replace p288 := eq_true p288; replace q288 := eq_true q288) | ((with_reducible refine gate_callee (f := 62) rfl ?_); refine goesL_ (some 25) rfl rfl Try.func62 (by kernel_rfl) rfl #[.slice A0 l0.length c0, .int .i64 a2, .int .i64 (rd t285 (ji11))] rfl (by (try simp only [List.map_toArray, List.map_cons, List.map_nil]); first | done | (simp only [hji11]; rfl) | rfl | (simp only [List.length_drop, List.length_take]; rfl)) ?_; (with_reducible refine (impl_PathBetween.calls k _ _ l0 a2 (rd t285 (ji11)) t289 _ ?side1 ?side2 A14.out).mono ?_); (case side1 => exact kc); (case side2 => exact HC0.out); rintro e w19 ⟨v290, rfl, ho0, hb⟩; refine ⟨_, rfl, ?_⟩; have t_ := fc4 (Kd.R_elder' (ra HO287.out) (Kd.R_base ho0) hb) (Kd.R_lower (Kd.R_new' ho0 (Kd.R_lt (ra HO287.out))) (below_size bb)) (bw BK284 hb) (below_step bb hb); clear HO287 BK284 HB; obtain ⟨HO287, HO291, BK284, HB⟩ := t_; (try clear hb); (try clear ho0)))
    go_ret
    exact ⟨_, by first | rfl | (simp [errW_none, errW_some] <;> rfl) | (simp only [← hji11]; first | rfl | (simp [errW_none, errW_some] <;> rfl)) | (simp [*, errW_none, errW_some] <;> rfl), by (with_reducible repeat (first | apply Kd.R_alloc | apply Kd.R_drewN | apply Kd.R_drew)); exact Kd.R_mono HO291.out (fun _ hk => trivial), bb⟩
   ·rw [if_neg c13] at H
    exact absurd H (by simp)
  ·rw [if_neg c12] at H
   exact absurd H (by simp)

/-! ### impl_MakeId: function 101 -/
def impl_MakeId.f (a0 : Int) (a1 : Int) (a2 : Int) : Option (Int) := (impl_within.f a0 0 15).bind fun t292 => (if t292 = true then ((impl_within.f a1 0 3).bind fun t293 => (if t293 = true then ((impl_within.f a2 0 3).bind fun t294 => (if t294 = true then (some (wrap64 ((wrap64 ((wrap64 (a0 * 16)) + (wrap64 (a1 * 4)))) + a2))) else (some (-1)))) else (some (-1)))) else (some (-1)))
set_option maxHeartbeats 8000000 in
set_option maxRecDepth 100000 in
theorem impl_MakeId.calls (a0 : Int) (a1 : Int) (a2 : Int) (r : Int) (w : World) (h : impl_MakeId.f a0 a1 a2 = some r) :
  Calls Try.prog 101 #[.int .i64 a0, .int .i64 a1, .int .i64 a2] w fun e w' => e = .returned (.int .i64 r) ∧ Drawn0 w w' := by
 have H : ((impl_within.f a0 0 15).bind fun t292 => (if t292 = true then ((impl_within.f a1 0 3).bind fun t293 => (if t293 = true then ((impl_within.f a2 0 3).bind fun t294 => (if t294 = true then (some (wrap64 ((wrap64 ((wrap64 (a0 * 16)) + (wrap64 (a1 * 4)))) + a2))) else (some (-1)))) else (some (-1)))) else (some (-1)))) = some r := h
 clear h
 replace H := Option.bind_eq_some_iff.mp H
 obtain ⟨t292, A40, H⟩ := H
 replace H : (if t292 = true then ((impl_within.f a1 0 3).bind fun t293 => (if t293 = true then ((impl_within.f a2 0 3).bind fun t294 => (if t294 = true then (some (wrap64 ((wrap64 ((wrap64 (a0 * 16)) + (wrap64 (a1 * 4)))) + a2))) else (some (-1)))) else (some (-1)))) else (some (-1))) = some r := H
 have A4 := Aside0.mk A40
 clear A40
 by_cases c5 : t292 = true
 ·subst c5
  have H1 : ((impl_within.f a1 0 3).bind fun t293 => (if t293 = true then ((impl_within.f a2 0 3).bind fun t294 => (if t294 = true then (some (wrap64 ((wrap64 ((wrap64 (a0 * 16)) + (wrap64 (a1 * 4)))) + a2))) else (some (-1)))) else (some (-1)))) = some r := by rw [if_pos rfl] at H; exact H
  clear H
  have H := H1
  clear H1
  replace H := Option.bind_eq_some_iff.mp H
  obtain ⟨t293, A60, H⟩ := H
  replace H : (if t293 = true then ((impl_within.f a2 0 3).bind fun t294 => (if t294 = true then (some (wrap64 ((wrap64 ((wrap64 (a0 * 16)) + (wrap64 (a1 * 4)))) + a2))) else (some (-1)))) else (some (-1))) = some r := H
  have A6 := Aside0.mk A60
  clear A60
  by_cases c7 : t293 = true
  ·subst c7
   have H1 : ((impl_within.f a2 0 3).bind fun t294 => (if t294 = true then (some (wrap64 ((wrap64 ((wrap64 (a0 * 16)) + (wrap64 (a1 * 4)))) + a2))) else (some (-1)))) = some r := by rw [if_pos rfl] at H; exact H
   clear H
   have H := H1
   clear H1
   replace H := Option.bind_eq_some_iff.mp H
   obtain ⟨t294, A80, H⟩ := H
   replace H : (if t294 = true then (some (wrap64 ((wrap64 ((wrap64 (a0 * 16)) + (wrap64 (a1 * 4)))) + a2))) else (some (-1))) = some r := H
   have A8 := Aside0.mk A80
   clear A80
   by_cases c9 : t294 = true
   ·subst c9
    have H1 : (some (wrap64 ((wrap64 ((wrap64 (a0 * 16)) + (wrap64 (a1 * 4)))) + a2))) = some r := by rw [if_pos rfl] at H; exact H
    clear H
    have H := H1
    clear H1
    obtain rfl := Option.some.inj H
    go_enter Try.func101, Try.ntmps101
    go_wp2_with (first | ((with_reducible refine gate_callee (f := 94) rfl ?_); refine goesL_ (some 8) rfl rfl Try.func94 (by kernel_rfl) rfl #[.int .i64 a0, .int .i64 0, .int .i64 15] rfl ms ?_; (with_reducible refine (impl_within.calls a0 0 15 true _ A4.out).mono ?_); rintro e w' ⟨rfl, ⟨nd, rfl⟩⟩; refine ⟨_, rfl, ?_⟩) | (go_at_call 94; (with_reducible refine (impl_within.calls a1 0 3 true _ A6.out).mono ?_); rintro e w' ⟨rfl, ⟨nd, rfl⟩⟩) | (go_at_call 94; (with_reducible refine (impl_within.calls a2 0 3 true _ A8.out).mono ?_); rintro e w' ⟨rfl, ⟨nd, rfl⟩⟩))
    go_ret
    exact ⟨by first | rfl | (simp; done) | (simp [*]; done), by repeat (first | exact Drawn0.refl _ | apply Drawn0.step)⟩
   ·replace c9 := Bool.eq_false_iff.mpr c9
    subst c9
    have H1 : (some (-1)) = some r := by rw [if_neg (show ¬ (false = true) by decide)] at H; exact H
    clear H
    have H := H1
    clear H1
    obtain rfl := Option.some.inj H
    go_enter Try.func101, Try.ntmps101
    go_wp2_with (first | ((with_reducible refine gate_callee (f := 94) rfl ?_); refine goesL_ (some 8) rfl rfl Try.func94 (by kernel_rfl) rfl #[.int .i64 a0, .int .i64 0, .int .i64 15] rfl ms ?_; (with_reducible refine (impl_within.calls a0 0 15 true _ A4.out).mono ?_); rintro e w' ⟨rfl, ⟨nd, rfl⟩⟩; refine ⟨_, rfl, ?_⟩) | (go_at_call 94; (with_reducible refine (impl_within.calls a1 0 3 true _ A6.out).mono ?_); rintro e w' ⟨rfl, ⟨nd, rfl⟩⟩) | (go_at_call 94; (with_reducible refine (impl_within.calls a2 0 3 false _ A8.out).mono ?_); rintro e w' ⟨rfl, ⟨nd, rfl⟩⟩))
    go_ret
    exact ⟨by first | rfl | (simp; done) | (simp [*]; done), by repeat (first | exact Drawn0.refl _ | apply Drawn0.step)⟩
  ·replace c7 := Bool.eq_false_iff.mpr c7
   subst c7
   have H1 : (some (-1)) = some r := by rw [if_neg (show ¬ (false = true) by decide)] at H; exact H
   clear H
   have H := H1
   clear H1
   obtain rfl := Option.some.inj H
   go_enter Try.func101, Try.ntmps101
   go_wp2_with (first | ((with_reducible refine gate_callee (f := 94) rfl ?_); refine goesL_ (some 8) rfl rfl Try.func94 (by kernel_rfl) rfl #[.int .i64 a0, .int .i64 0, .int .i64 15] rfl ms ?_; (with_reducible refine (impl_within.calls a0 0 15 true _ A4.out).mono ?_); rintro e w' ⟨rfl, ⟨nd, rfl⟩⟩; refine ⟨_, rfl, ?_⟩) | (go_at_call 94; (with_reducible refine (impl_within.calls a1 0 3 false _ A6.out).mono ?_); rintro e w' ⟨rfl, ⟨nd, rfl⟩⟩))
   go_ret
   exact ⟨by first | rfl | (simp; done) | (simp [*]; done), by repeat (first | exact Drawn0.refl _ | apply Drawn0.step)⟩
 ·replace c5 := Bool.eq_false_iff.mpr c5
  subst c5
  have H1 : (some (-1)) = some r := by rw [if_neg (show ¬ (false = true) by decide)] at H; exact H
  clear H
  have H := H1
  clear H1
  obtain rfl := Option.some.inj H
  go_enter Try.func101, Try.ntmps101
  go_wp2_with (first | ((with_reducible refine gate_callee (f := 94) rfl ?_); refine goesL_ (some 8) rfl rfl Try.func94 (by kernel_rfl) rfl #[.int .i64 a0, .int .i64 0, .int .i64 15] rfl ms ?_; (with_reducible refine (impl_within.calls a0 0 15 false _ A4.out).mono ?_); rintro e w' ⟨rfl, ⟨nd, rfl⟩⟩; refine ⟨_, rfl, ?_⟩))
  go_ret
  exact ⟨by first | rfl | (simp; done) | (simp [*]; done), by repeat (first | exact Drawn0.refl _ | apply Drawn0.step)⟩

/-! ### impl_NodeId: function 45 -/
def impl_NodeId.f (k : Nat) (l0 : List (S50)) (l1_0 : List Int) (l1_1 : List Int) (l1_2 : List Int) (a2 : Int) (a3 : Int) : Option (Int) := (impl_areNumbers.f k l0 l1_0 l1_1 l1_2).bind fun t296 => (if t296 = true then ((impl_within.f a2 1 (wrap64 ((l0.length : Int) - 1))).bind fun t297 => (if t297 = true then (if 0 ≤ a2 then (if a2 < (l0.length : Int) then ((impl_hasFunction.f ((rd_T50 l0 a2).f0) ((rd_T50 l0 a2).f1) ((rd_T50 l0 a2).f2) a3).bind fun t299 => (if t299 = true then (if a2 < (l1_0.length : Int) then ((impl_MakeId.f (rd l1_0 a2) ((rd_T50 l0 a2).f1) a3).bind fun t302 => (some t302)) else (none)) else (some (-1)))) else (none)) else (none)) else (some (-1)))) else (some (-1)))
set_option maxHeartbeats 8000000 in
set_option maxRecDepth 100000 in
theorem impl_NodeId.calls (k : Nat) (A0 : Option Addr) (c0 : Nat) (l0 : List (S50)) (A1_0 : Option Addr) (c1_0 : Nat) (l1_0 : List Int) (A1_1 : Option Addr) (c1_1 : Nat) (l1_1 : List Int) (A1_2 : Option Addr) (c1_2 : Nat) (l1_2 : List Int) (a2 : Int) (a3 : Int) (r : Int) (w : World) (hr0 : Kd.C k50 w A0 l0.length l0) (hc0 : l0.length ≤ c0) (hr1_0 : Kd.C (Kd.int .i64) w A1_0 l1_0.length l1_0) (hc1_0 : l1_0.length ≤ c1_0) (hr1_1 : Kd.C (Kd.int .i64) w A1_1 l1_1.length l1_1) (hc1_1 : l1_1.length ≤ c1_1) (hr1_2 : Kd.C (Kd.int .i64) w A1_2 l1_2.length l1_2) (hc1_2 : l1_2.length ≤ c1_2) (h : impl_NodeId.f k l0 l1_0 l1_1 l1_2 a2 a3 = some r) :
  Calls Try.prog 45 #[.slice A0 l0.length c0, .agg #[.slice A1_0 l1_0.length c1_0, .slice A1_1 l1_1.length c1_1, .slice A1_2 l1_2.length c1_2], .int .i64 a2, .int .i64 a3] w fun e w' => e = .returned (.int .i64 r) ∧ Below w.heap.size w w' := by
 have hu31 := Try.underlying31
 have hu50 := Try.underlying50
 have HR0 := Aside0.mk hr0
 have HC0 := Aside0.mk hc0
 clear hr0 hc0
 have HR1_0 := Aside0.mk hr1_0
 have HC1_0 := Aside0.mk hc1_0
 clear hr1_0 hc1_0
 have HR1_1 := Aside0.mk hr1_1
 have HC1_1 := Aside0.mk hc1_1
 clear hr1_1 hc1_1
 have HR1_2 := Aside0.mk hr1_2
 have HC1_2 := Aside0.mk hc1_2
 clear hr1_2 hc1_2
 have HB := Aside0.mk (Below.refl w.heap.size w)
 have H : ((impl_areNumbers.f k l0 l1_0 l1_1 l1_2).bind fun t296 => (if t296 = true then ((impl_within.f a2 1 (wrap64 ((l0.length : Int) - 1))).bind fun t297 => (if t297 = true then (if 0 ≤ a2 then (if a2 < (l0.length : Int) then ((impl_hasFunction.f ((rd_T50 l0 a2).f0) ((rd_T50 l0 a2).f1) ((rd_T50 l0 a2).f2) a3).bind fun t299 => (if t299 = true then (if a2 < (l1_0.length : Int) then ((impl_MakeId.f (rd l1_0 a2) ((rd_T50 l0 a2).f1) a3).bind fun t302 => (some t302)) else (none)) else (some (-1)))) else (none)) else (none)) else (some (-1)))) else (some (-1)))) = some r := h
 clear h
 replace H := Option.bind_eq_some_iff.mp H
 obtain ⟨t296, A50, H⟩ := H
 replace H : (if t296 = true then ((impl_within.f a2 1 (wrap64 ((l0.length : Int) - 1))).bind fun t297 => (if t297 = true then (if 0 ≤ a2 then (if a2 < (l0.length : Int) then ((impl_hasFunction.f ((rd_T50 l0 a2).f0) ((rd_T50 l0 a2).f1) ((rd_T50 l0 a2).f2) a3).bind fun t299 => (if t299 = true then (if a2 < (l1_0.length : Int) then ((impl_MakeId.f (rd l1_0 a2) ((rd_T50 l0 a2).f1) a3).bind fun t302 => (some t302)) else (none)) else (some (-1)))) else (none)) else (none)) else (some (-1)))) else (some (-1))) = some r := H
 have A5 := Aside0.mk A50
 clear A50
 by_cases c6 : t296 = true
 ·subst c6
  have H1 : ((impl_within.f a2 1 (wrap64 ((l0.length : Int) - 1))).bind fun t297 => (if t297 = true then (if 0 ≤ a2 then (if a2 < (l0.length : Int) then ((impl_hasFunction.f ((rd_T50 l0 a2).f0) ((rd_T50 l0 a2).f1) ((rd_T50 l0 a2).f2) a3).bind fun t299 => (if t299 = true then (if a2 < (l1_0.length : Int) then ((impl_MakeId.f (rd l1_0 a2) ((rd_T50 l0 a2).f1) a3).bind fun t302 => (some t302)) else (none)) else (some (-1)))) else (none)) else (none)) else (some (-1)))) = some r := by rw [if_pos rfl] at H; exact H
  clear H
  have H := H1
  clear H1
  replace H := Option.bind_eq_some_iff.mp H
  obtain ⟨t297, A70, H⟩ := H
  replace H : (if t297 = true then (if 0 ≤ a2 then (if a2 < (l0.length : Int) then ((impl_hasFunction.f ((rd_T50 l0 a2).f0) ((rd_T50 l0 a2).f1) ((rd_T50 l0 a2).f2) a3).bind fun t299 => (if t299 = true then (if a2 < (l1_0.length : Int) then ((impl_MakeId.f (rd l1_0 a2) ((rd_T50 l0 a2).f1) a3).bind fun t302 => (some t302)) else (none)) else (some (-1)))) else (none)) else (none)) else (some (-1))) = some r := H
  have A7 := Aside0.mk A70
  clear A70
  by_cases c8 : t297 = true
  ·subst c8
   have H1 : (if 0 ≤ a2 then (if a2 < (l0.length : Int) then ((impl_hasFunction.f ((rd_T50 l0 a2).f0) ((rd_T50 l0 a2).f1) ((rd_T50 l0 a2).f2) a3).bind fun t299 => (if t299 = true then (if a2 < (l1_0.length : Int) then ((impl_MakeId.f (rd l1_0 a2) ((rd_T50 l0 a2).f1) a3).bind fun t302 => (some t302)) else (none)) else (some (-1)))) else (none)) else (none)) = some r := by rw [if_pos rfl] at H; exact H
   clear H
   have H := H1
   clear H1
   by_cases c9 : 0 ≤ a2
   ·rw [if_pos c9] at H
    have c9b0 : decide (0 ≤ a2) = true := decide_eq_true c9
    clear c9
    by_cases c10 : a2 < (l0.length : Int)
    ·rw [if_pos c10] at H
     have c10b0 : decide (a2 < (l0.length : Int)) = true := decide_eq_true c10
     clear c10
     replace H := Option.bind_eq_some_iff.mp H
     obtain ⟨t299, A110, H⟩ := H
     replace H : (if t299 = true then (if a2 < (l1_0.length : Int) then ((impl_MakeId.f (rd l1_0 a2) ((rd_T50 l0 a2).f1) a3).bind fun t302 => (some t302)) else (none)) else (some (-1))) = some r := H
     have A11 := Aside0.mk A110
     clear A110
     by_cases c12 : t299 = true
     ·subst c12
      have H1 : (if a2 < (l1_0.length : Int) then ((impl_MakeId.f (rd l1_0 a2) ((rd_T50 l0 a2).f1) a3).bind fun t302 => (some t302)) else (none)) = some r := by rw [if_pos rfl] at H; exact H
      clear H
      have H := H1
      clear H1
      by_cases c13 : a2 < (l1_0.length : Int)
      ·rw [if_pos c13] at H
       have c13b0 : decide (a2 < (l1_0.length : Int)) = true := decide_eq_true c13
       clear c13
       replace H := Option.bind_eq_some_iff.mp H
       obtain ⟨t302, A140, H⟩ := H
       replace H : (some t302) = some r := H
       have A14 := Aside0.mk A140
       clear A140
       obtain rfl := Option.some.inj H
       go_enter Try.func45, Try.ntmps45
       go_wp2_with (first | ((with_reducible refine gate_dst (N := 5) rfl ?_); (try (refine gate_guard (by rfl) ?_; dsimp only)); refine box_event ?hg (N := 5) ?hd (cs := #[.slice A1_0 l1_0.length c1_0, .slice A1_1 l1_1.length c1_1, .slice A1_2 l1_2.length c1_2]) (t := 31) ?hr ?_; (case hd => rfl); (case hg => rfl); (case hr => first | (go_simp; done) | (go_simp; rfl)); intro gb295 hg w15 hbox hb; have t_ := fc4 (below_step bb hb) (hbox) (bg hg : w.heap.size ≤ gb295) (bg hg : w.heap.size ≤ gb295); clear HB; obtain ⟨HB, BK295, GW295, GE295⟩ := t_; clear hb hbox hg; obtain ⟨hcz16_0, hcz16_1, hcz16_2, hfz16_0, hfz16_1, hfz16_2⟩ := bx3 BK295.out) | (go_at_call 76; (with_reducible refine (impl_areNumbers.calls k _ _ l0 _ _ l1_0 _ _ l1_1 _ _ l1_2 true _ ?side1 ?side2 ?side3 ?side4 ?side5 ?side6 ?side7 ?side8 A5.out).mono ?_); (case side1 => exact kc); (case side2 => exact HC0.out); (case side3 => exact kc); (case side4 => exact HC1_0.out); (case side5 => exact kc); (case side6 => exact HC1_1.out); (case side7 => exact kc); (case side8 => exact HC1_2.out); rintro e w17 ⟨rfl, hb⟩; have t_ := fc2 (bw BK295 hb) (below_step bb hb); clear BK295 HB; obtain ⟨BK295, HB⟩ := t_; (try clear hb)) | (go_at_call 94; (with_reducible refine (impl_within.calls a2 1 (wrap64 ((l0.length : Int) - 1)) true _ A7.out).mono ?_); rintro e w' ⟨rfl, ⟨nd, rfl⟩⟩; (try first | exact ⟨rfl, _, World.drewN_drewN _ _ _⟩ | exact ⟨rfl, _, Eq.trans (World.drewN_drewN _ _ _) (congrArg (World.drewN _) (Nat.add_assoc _ _ _))⟩); have p298 : 0 ≤ (a2 : Int) := of_decide_eq_true as_; have q298 : a2 < (l0.length : Int) := of_decide_eq_true as_; obtain ⟨ad298, e298, hx298_0, hx298_1, hx298_2⟩ := at_T50 HR0.out a2 p298 q298; cases e298; replace hx298_0 := pw_cell_below HB.out hx298_0; replace hx298_1 := pw_cell_below HB.out hx298_1; replace hx298_2 := pw_cell_below HB.out hx298_2; replace p298 := eq_true p298; replace q298 := eq_true q298) | (go_at_call 82; (with_reducible refine (impl_hasFunction.calls ((rd_T50 l0 a2).f0) ((rd_T50 l0 a2).f1) ((rd_T50 l0 a2).f2) a3 true _ A11.out).mono ?_); rintro e w18 ⟨rfl, hb⟩; have t_ := fc2 (bw BK295 hb) (below_step bb hb); clear BK295 HB; obtain ⟨BK295, HB⟩ := t_; (try clear hb); obtain ⟨hcz19_0, hcz19_1, hcz19_2, hfz19_0, hfz19_1, hfz19_2⟩ := bx3 BK295.out; have p300 : 0 ≤ (a2 : Int) := of_decide_eq_true as_; have q300 : a2 < (l1_0.length : Int) := of_decide_eq_true as_; obtain ⟨ad300, e300, hx300_0⟩ := Kd.at_int HR1_0.out a2 p300 q300; cases e300; replace hx300_0 := pw_cell_below HB.out hx300_0; replace p300 := eq_true p300; replace q300 := eq_true q300; have p301 : 0 ≤ (a2 : Int) := of_decide_eq_true as_; have q301 : a2 < (l0.length : Int) := of_decide_eq_true as_; obtain ⟨ad301, e301, hx301_0, hx301_1, hx301_2⟩ := at_T50 HR0.out a2 p301 q301; obtain rfl : ad298 = ad301 := (by injection e301); replace hx301_0 := pw_cell_below HB.out hx301_0; replace hx301_1 := pw_cell_below HB.out hx301_1; replace hx301_2 := pw_cell_below HB.out hx301_2; replace p301 := eq_true p301; replace q301 := eq_true q301) | (go_at_call 101; (with_reducible refine (impl_MakeId.calls (rd l1_0 a2) ((rd_T50 l0 a2).f1) a3 t302 _ A14.out).mono ?_); rintro e w' ⟨rfl, ⟨nd, rfl⟩⟩; (try first | exact ⟨rfl, _, World.drewN_drewN _ _ _⟩ | exact ⟨rfl, _, Eq.trans (World.drewN_drewN _ _ _) (congrArg (World.drewN _) (Nat.add_assoc _ _ _))⟩)))
       repeat (go_quiet (first | ((with_reducible refine gate_dst (N := 5) rfl ?_); (try (refine gate_guard (by rfl) ?_; dsimp only)); refine box_event ?hg (N := 5) ?hd (cs := #[.slice A1_0 l1_0.length c1_0, .slice A1_1 l1_1.length c1_1, .slice A1_2 l1_2.length c1_2]) (t := 31) ?hr ?_; (case hd => rfl); (case hg => rfl); (case hr => first | (go_simp; done) | (go_simp; rfl)); intro gb295 hg w15 hbox hb; have t_ := fc4 (below_step bb hb) (hbox) (bg hg : w.heap.size ≤ gb295) (bg hg : w.heap.size ≤ gb295); clear HB; obtain ⟨HB, BK295, GW295, GE295⟩ := t_; clear hb hbox hg; obtain ⟨hcz16_0, hcz16_1, hcz16_2, hfz16_0, hfz16_1, hfz16_2⟩ := bx3 BK295.out) | (go_at_call 76; (with_reducible refine (impl_areNumbers.calls k _ _ l0 _ _ l1_0 _ _ l1_1 _ _ l1_2 true _ ?side1 ?side2 ?side3 ?side4 ?side5 ?side6 ?side7 ?side8 A5.out).mono ?_); (case side1 => exact kc); (case side2 => exact HC0.out); (case side3 => exact kc); (case side4 => exact HC1_0.out); (case side5 => exact kc); (case side6 => exact HC1_1.out); (case side7 => exact kc); (case side8 => exact HC1_2.out); rintro e w17 ⟨rfl, hb⟩; have t_ := fc2 (bw BK295 hb) (below_step bb hb); clear BK295 HB; obtain ⟨BK295, HB⟩ := t_; (try clear hb)) | (go_at_call 94; (with_reducible refine (impl_within.calls a2 1 (wrap64 ((l0.length : Int) - 1)) true _ A7.out).mono ?_); rintro e w' ⟨rfl, ⟨nd, rfl⟩⟩; (try first | exact ⟨rfl, _, World.drewN_drewN _ _ _⟩ | exact ⟨rfl, _, Eq.trans (World.drewN_drewN _ _ _) (congrArg (World.drewN _) (Nat.add_assoc _ _ _))⟩); have p298 : 0 ≤ (a2 : Int) := of_decide_eq_true as_; have q298 : a2 < (l0.length : Int) := of_decide_eq_true as_; obtain ⟨ad298, e298, hx298_0, hx298_1, hx298_2⟩ := at_T50 HR0.out a2 p298 q298; cases e298; replace hx298_0 := pw_cell_below HB.out hx298_0; replace hx298_1 := pw_cell_below HB.out hx298_1; replace hx298_2 := pw_cell_below HB.out hx298_2; replace p298 := eq_true p298; replace q298 := eq_true q298) | (go_at_call 82; (with_reducible refine (impl_hasFunction.calls ((rd_T50 l0 a2).f0) ((rd_T50 l0 a2).f1) ((rd_T50 l0 a2).f2) a3 true _ A11.out).mono ?_); rintro e w18 ⟨rfl, hb⟩; have t_ := fc2 (bw BK295 hb) (below_step bb hb); clear BK295 HB; obtain ⟨BK295, HB⟩ := t_; (try clear hb); obtain ⟨hcz19_0, hcz19_1, hcz19_2, hfz19_0, hfz19_1, hfz19_2⟩ := bx3 BK295.out; have p300 : 0 ≤ (a2 : Int) := of_decide_eq_true as_; have q300 : a2 < (l1_0.length : Int) := of_decide_eq_true as_; obtain ⟨ad300, e300, hx300_0⟩ := Kd.at_int HR1_0.out a2 p300 q300; cases e300; replace hx300_0 := pw_cell_below HB.out hx300_0; replace p300 := eq_true p300; replace q300 := eq_true q300; have p301 : 0 ≤ (a2 : Int) := of_decide_eq_true as_; have q301 : a2 < (l0.length : Int) := of_decide_eq_true as_; obtain ⟨ad301, e301, hx301_0, hx301_1, hx301_2⟩ := at_T50 HR0.out a2 p301 q301; obtain rfl : ad298 = ad301 := (by injection e301); replace hx301_0 := pw_cell_below HB.out hx301_0; replace hx301_1 := pw_cell_below HB.out hx301_1; replace hx301_2 := pw_cell_below HB.out hx301_2; replace p301 := eq_true p301; replace q301 := eq_true q301) | (go_at_call 101; (with_reducible refine (impl_MakeId.calls (rd l1_0 a2) ((rd_T50 l0 a2).f1) a3 t302 _ A14.out).mono ?_); rintro e w' ⟨rfl, ⟨nd, rfl⟩⟩; (try first | exact ⟨rfl, _, World.drewN_drewN _ _ _⟩ | exact ⟨rfl, _, Eq.trans (World.drewN_drewN _ _ _) (congrArg (World.drewN _) (Nat.add_assoc _ _ _))⟩))); try go_wp2_with (first | ((with_reducible refine gate_dst (N := 5) rfl ?_); (try (refine gate_guard (by rfl) ?_; dsimp only)); refine box_event ?hg (N := 5) ?hd (cs := #[.slice A1_0 l1_0.length c1_0, .slice A1_1 l1_1.length c1_1, .slice A1_2 l1_2.length c1_2]) (t := 31) ?hr ?_; (case hd => rfl); (case hg => rfl); (case hr => first | (go_simp; done) | (go_simp; rfl)); intro gb295 hg w15 hbox hb; have t_ := fc4 (below_step bb hb) (hbox) (bg hg : w.heap.size ≤ gb295) (bg hg : w.heap.size ≤ gb295); clear HB; obtain ⟨HB, BK295, GW295, GE295⟩ := t_; clear hb hbox hg; obtain ⟨hcz16_0, hcz16_1, hcz16_2, hfz16_0, hfz16_1, hfz16_2⟩ := bx3 BK295.out) | (go_at_call 76; (with_reducible refine (impl_areNumbers.calls k _ _ l0 _ _ l1_0 _ _ l1_1 _ _ l1_2 true _ ?side1 ?side2 ?side3 ?side4 ?side5 ?side6 ?side7 ?side8 A5.out).mono ?_); (case side1 => exact kc); (case side2 => exact HC0.out); (case side3 => exact kc); (case side4 => exact HC1_0.out); (case side5 => exact kc); (case side6 => exact HC1_1.out); (case side7 => exact kc); (case side8 => exact HC1_2.out); rintro e w17 ⟨rfl, hb⟩; have t_ := fc2 (bw BK295 hb) (below_step bb hb); clear BK295 HB; obtain ⟨BK295, HB⟩ := t_; (try clear hb)) | (go_at_call 94; (with_reducible refine (impl_within.calls a2 1 (wrap64 ((l0.length : Int) - 1)) true _ A7.out).mono ?_); rintro e w' ⟨rfl, ⟨nd, rfl⟩⟩; (try first | exact ⟨rfl, _, World.drewN_drewN _ _ _⟩ | exact ⟨rfl, _, Eq.trans (World.drewN_drewN _ _ _) (congrArg (World.drewN _) (Nat.add_assoc _ _ _))⟩); have p298 : 0 ≤ (a2 : Int) := of_decide_eq_true as_; have q298 : a2 < (l0.length : Int) := of_decide_eq_true as_; obtain ⟨ad298, e298, hx298_0, hx298_1, hx298_2⟩ := at_T50 HR0.out a2 p298 q298; cases e298; replace hx298_0 := pw_cell_below HB.out hx298_0; replace hx298_1 := pw_cell_below HB.out hx298_1; replace hx298_2 := pw_cell_below HB.out hx298_2; replace p298 := eq_true p298; replace q298 := eq_true q298) | (go_at_call 82; (with_reducible refine (impl_hasFunction.calls ((rd_T50 l0 a2).f0) ((rd_T50 l0 a2).f1) ((rd_T50 l0 a2).f2) a3 true _ A11.out).mono ?_); rintro e w18 ⟨rfl, hb⟩; have t_ := fc2 (bw BK295 hb) (below_step bb hb); clear BK295 HB; obtain ⟨BK295, HB⟩ := t_; (try clear hb); obtain ⟨hcz19_0, hcz19_1, hcz19_2, hfz19_0, hfz19_1, hfz19_2⟩ := bx3 BK295.out; have p300 : 0 ≤ (a2 : Int) := of_decide_eq_true as_; have q300 : a2 < (l1_0.length : Int) := of_decide_eq_true as_; obtain ⟨ad300, e300, hx300_0⟩ := Kd.at_int HR1_0.out a2 p300 q300; cases e300; replace hx300_0 := pw_cell_below HB.out hx300_0; replace p300 := eq_true p300; replace q300 := eq_true q300; have p301 : 0 ≤ (a2 : Int) := of_decide_eq_true as_; have q301 : a2 < (l0.length : Int) := of_decide_eq_true as_; obtain ⟨ad301, e301, hx301_0, hx301_1, hx301_2⟩ := at_T50 HR0.out a2 p301 q301; obtain rfl : ad298 = ad301 := (by injection e301); replace hx301_0 := pw_cell_below HB.out hx301_0; replace hx301_1 := pw_cell_below HB.out hx301_1; replace hx301_2 := pw_cell_below HB.out hx301_2; replace p301 := eq_true p301; replace q301 := eq_true q301) | (go_at_call 101; (with_reducible refine (impl_MakeId.calls (rd l1_0 a2) ((rd_T50 l0 a2).f1) a3 t302 _ A14.out).mono ?_); rintro e w' ⟨rfl, ⟨nd, rfl⟩⟩; (try first | exact ⟨rfl, _, World.drewN_drewN _ _ _⟩ | exact ⟨rfl, _, Eq.trans (World.drewN_drewN _ _ _) (congrArg (World.drewN _) (Nat.add_assoc _ _ _))⟩))))
       go_ret
       exact ⟨er, bb⟩
      ·rw [if_neg c13] at H
       exact absurd H (by simp)
     ·replace c12 := Bool.eq_false_iff.mpr c12
      subst c12
      have H1 : (some (-1)) = some r := by rw [if_neg (show ¬ (false = true) by decide)] at H; exact H
      clear H
      have H := H1
      clear H1
      obtain rfl := Option.some.inj H
      go_enter Try.func45, Try.ntmps45
      go_wp2_with (first | ((with_reducible refine gate_dst (N := 5) rfl ?_); (try (refine gate_guard (by rfl) ?_; dsimp only)); refine box_event ?hg (N := 5) ?hd (cs := #[.slice A1_0 l1_0.length c1_0, .slice A1_1 l1_1.length c1_1, .slice A1_2 l1_2.length c1_2]) (t := 31) ?hr ?_; (case hd => rfl); (case hg => rfl); (case hr => first | (go_simp; done) | (go_simp; rfl)); intro gb295 hg w20 hbox hb; have t_ := fc4 (below_step bb hb) (hbox) (bg hg : w.heap.size ≤ gb295) (bg hg : w.heap.size ≤ gb295); clear HB; obtain ⟨HB, BK295, GW295, GE295⟩ := t_; clear hb hbox hg; obtain ⟨hcz21_0, hcz21_1, hcz21_2, hfz21_0, hfz21_1, hfz21_2⟩ := bx3 BK295.out) | (go_at_call 76; (with_reducible refine (impl_areNumbers.calls k _ _ l0 _ _ l1_0 _ _ l1_1 _ _ l1_2 true _ ?side1 ?side2 ?side3 ?side4 ?side5 ?side6 ?side7 ?side8 A5.out).mono ?_); (case side1 => exact kc); (case side2 => exact HC0.out); (case side3 => exact kc); (case side4 => exact HC1_0.out); (case side5 => exact kc); (case side6 => exact HC1_1.out); (case side7 => exact kc); (case side8 => exact HC1_2.out); rintro e w22 ⟨rfl, hb⟩; have t_ := fc2 (bw BK295 hb) (below_step bb hb); clear BK295 HB; obtain ⟨BK295, HB⟩ := t_; (try clear hb)) | (go_at_call 94; (with_reducible refine (impl_within.calls a2 1 (wrap64 ((l0.length : Int) - 1)) true _ A7.out).mono ?_); rintro e w' ⟨rfl, ⟨nd, rfl⟩⟩; (try first | exact ⟨rfl, _, World.drewN_drewN _ _ _⟩ | exact ⟨rfl, _, Eq.trans (World.drewN_drewN _ _ _) (congrArg (World.drewN _) (Nat.add_assoc _ _ _))⟩); have p298 : 0 ≤ (a2 : Int) := of_decide_eq_true as_; have q298 : a2 < (l0.length : Int) := of_decide_eq_true as_; obtain ⟨ad298, e298, hx298_0, hx298_1, hx298_2⟩ := at_T50 HR0.out a2 p298 q298; cases e298; replace hx298_0 := pw_cell_below HB.out hx298_0; replace hx298_1 := pw_cell_below HB.out hx298_1; replace hx298_2 := pw_cell_below HB.out hx298_2; replace p298 := eq_true p298; replace q298 := eq_true q298) | (go_at_call 82; (with_reducible refine (impl_hasFunction.calls ((rd_T50 l0 a2).f0) ((rd_T50 l0 a2).f1) ((rd_T50 l0 a2).f2) a3 false _ A11.out).mono ?_); rintro e w23 ⟨rfl, hb⟩; have t_ := fc2 (bw BK295 hb) (below_step bb hb); clear BK295 HB; obtain ⟨BK295, HB⟩ := t_; (try clear hb)))
      repeat (go_quiet (first | ((with_reducible refine gate_dst (N := 5) rfl ?_); (try (refine gate_guard (by rfl) ?_; dsimp only)); refine box_event ?hg (N := 5) ?hd (cs := #[.slice A1_0 l1_0.length c1_0, .slice A1_1 l1_1.length c1_1, .slice A1_2 l1_2.length c1_2]) (t := 31) ?hr ?_; (case hd => rfl); (case hg => rfl); (case hr => first | (go_simp; done) | (go_simp; rfl)); intro gb295 hg w20 hbox hb; have t_ := fc4 (below_step bb hb) (hbox) (bg hg : w.heap.size ≤ gb295) (bg hg : w.heap.size ≤ gb295); clear HB; obtain ⟨HB, BK295, GW295, GE295⟩ := t_; clear hb hbox hg; obtain ⟨hcz21_0, hcz21_1, hcz21_2, hfz21_0, hfz21_1, hfz21_2⟩ := bx3 BK295.out) | (go_at_call 76; (with_reducible refine (impl_areNumbers.calls k _ _ l0 _ _ l1_0 _ _ l1_1 _ _ l1_2 true _ ?side1 ?side2 ?side3 ?side4 ?side5 ?side6 ?side7 ?side8 A5.out).mono ?_); (case side1 => exact kc); (case side2 => exact HC0.out); (case side3 => exact kc); (case side4 => exact HC1_0.out); (case side5 => exact kc); (case side6 => exact HC1_1.out); (case side7 => exact kc); (case side8 => exact HC1_2.out); rintro e w22 ⟨rfl, hb⟩; have t_ := fc2 (bw BK295 hb) (below_step bb hb); clear BK295 HB; obtain ⟨BK295, HB⟩ := t_; (try clear hb)) | (go_at_call 94; (with_reducible refine (impl_within.calls a2 1 (wrap64 ((l0.length : Int) - 1)) true _ A7.out).mono ?_); rintro e w' ⟨rfl, ⟨nd, rfl⟩⟩; (try first | exact ⟨rfl, _, World.drewN_drewN _ _ _⟩ | exact ⟨rfl, _, Eq.trans (World.drewN_drewN _ _ _) (congrArg (World.drewN _) (Nat.add_assoc _ _ _))⟩); have p298 : 0 ≤ (a2 : Int) := of_decide_eq_true as_; have q298 : a2 < (l0.length : Int) := of_decide_eq_true as_; obtain ⟨ad298, e298, hx298_0, hx298_1, hx298_2⟩ := at_T50 HR0.out a2 p298 q298; cases e298; replace hx298_0 := pw_cell_below HB.out hx298_0; replace hx298_1 := pw_cell_below HB.out hx298_1; replace hx298_2 := pw_cell_below HB.out hx298_2; replace p298 := eq_true p298; replace q298 := eq_true q298) | (go_at_call 82; (with_reducible refine (impl_hasFunction.calls ((rd_T50 l0 a2).f0) ((rd_T50 l0 a2).f1) ((rd_T50 l0 a2).f2) a3 false _ A11.out).mono ?_); rintro e w23 ⟨rfl, hb⟩; have t_ := fc2 (bw BK295 hb) (below_step bb hb); clear BK295 HB; obtain ⟨BK295, HB⟩ := t_; (try clear hb))); try go_wp2_with (first | ((with_reducible refine gate_dst (N := 5) rfl ?_); (try (refine gate_guard (by rfl) ?_; dsimp only)); refine box_event ?hg (N := 5) ?hd (cs := #[.slice A1_0 l1_0.length c1_0, .slice A1_1 l1_1.length c1_1, .slice A1_2 l1_2.length c1_2]) (t := 31) ?hr ?_; (case hd => rfl); (case hg => rfl); (case hr => first | (go_simp; done) | (go_simp; rfl)); intro gb295 hg w20 hbox hb; have t_ := fc4 (below_step bb hb) (hbox) (bg hg : w.heap.size ≤ gb295) (bg hg : w.heap.size ≤ gb295); clear HB; obtain ⟨HB, BK295, GW295, GE295⟩ := t_; clear hb hbox hg; obtain ⟨hcz21_0, hcz21_1, hcz21_2, hfz21_0, hfz21_1, hfz21_2⟩ := bx3 BK295.out) | (go_at_call 76; (with_reducible refine (impl_areNumbers.calls k _ _ l0 _ _ l1_0 _ _ l1_1 _ _ l1_2 true _ ?side1 ?side2 ?side3 ?side4 ?side5 ?side6 ?side7 ?side8 A5.out).mono ?_); (case side1 => exact kc); (case side2 => exact HC0.out); (case side3 => exact kc); (case side4 => exact HC1_0.out); (case side5 => exact kc); (case side6 => exact HC1_1.out); (case side7 => exact kc); (case side8 => exact HC1_2.out); rintro e w22 ⟨rfl, hb⟩; have t_ := fc2 (bw BK295 hb) (below_step bb hb); clear BK295 HB; obtain ⟨BK295, HB⟩ := t_; (try clear hb)) | (go_at_call 94; (with_reducible refine (impl_within.calls a2 1 (wrap64 ((l0.length : Int) - 1)) true _ A7.out).mono ?_); rintro e w' ⟨rfl, ⟨nd, rfl⟩⟩; (try first | exact ⟨rfl, _, World.drewN_drewN _ _ _⟩ | exact ⟨rfl, _, Eq.trans (World.drewN_drewN _ _ _) (congrArg (World.drewN _) (Nat.add_assoc _ _ _))⟩); have p298 : 0 ≤ (a2 : Int) := of_decide_eq_true as_; have q298 : a2 < (l0.length : Int) := of_decide_eq_true as_; obtain ⟨ad298, e298, hx298_0, hx298_1, hx298_2⟩ := at_T50 HR0.out a2 p298 q298; cases e298; replace hx298_0 := pw_cell_below HB.out hx298_0; replace hx298_1 := pw_cell_below HB.out hx298_1; replace hx298_2 := pw_cell_below HB.out hx298_2; replace p298 := eq_true p298; replace q298 := eq_true q298) | (go_at_call 82; (with_reducible refine (impl_hasFunction.calls ((rd_T50 l0 a2).f0) ((rd_T50 l0 a2).f1) ((rd_T50 l0 a2).f2) a3 false _ A11.out).mono ?_); rintro e w23 ⟨rfl, hb⟩; have t_ := fc2 (bw BK295 hb) (below_step bb hb); clear BK295 HB; obtain ⟨BK295, HB⟩ := t_; (try clear hb))))
      go_ret
      exact ⟨er, bb⟩
    ·rw [if_neg c10] at H
     exact absurd H (by simp)
   ·rw [if_neg c9] at H
    exact absurd H (by simp)
  ·replace c8 := Bool.eq_false_iff.mpr c8
   subst c8
   have H1 : (some (-1)) = some r := by rw [if_neg (show ¬ (false = true) by decide)] at H; exact H
   clear H
   have H := H1
   clear H1
   obtain rfl := Option.some.inj H
   go_enter Try.func45, Try.ntmps45
   go_wp2_with (first | ((with_reducible refine gate_dst (N := 5) rfl ?_); (try (refine gate_guard (by rfl) ?_; dsimp only)); refine box_event ?hg (N := 5) ?hd (cs := #[.slice A1_0 l1_0.length c1_0, .slice A1_1 l1_1.length c1_1, .slice A1_2 l1_2.length c1_2]) (t := 31) ?hr ?_; (case hd => rfl); (case hg => rfl); (case hr => first | (go_simp; done) | (go_simp; rfl)); intro gb295 hg w24 hbox hb; have t_ := fc4 (below_step bb hb) (hbox) (bg hg : w.heap.size ≤ gb295) (bg hg : w.heap.size ≤ gb295); clear HB; obtain ⟨HB, BK295, GW295, GE295⟩ := t_; clear hb hbox hg; obtain ⟨hcz25_0, hcz25_1, hcz25_2, hfz25_0, hfz25_1, hfz25_2⟩ := bx3 BK295.out) | (go_at_call 76; (with_reducible refine (impl_areNumbers.calls k _ _ l0 _ _ l1_0 _ _ l1_1 _ _ l1_2 true _ ?side1 ?side2 ?side3 ?side4 ?side5 ?side6 ?side7 ?side8 A5.out).mono ?_); (case side1 => exact kc); (case side2 => exact HC0.out); (case side3 => exact kc); (case side4 => exact HC1_0.out); (case side5 => exact kc); (case side6 => exact HC1_1.out); (case side7 => exact kc); (case side8 => exact HC1_2.out); rintro e w26 ⟨rfl, hb⟩; have t_ := fc2 (bw BK295 hb) (below_step bb hb); clear BK295 HB; obtain ⟨BK295, HB⟩ := t_; (try clear hb)) | (go_at_call 94; (with_reducible refine (impl_within.calls a2 1 (wrap64 ((l0.length : Int) - 1)) false _ A7.out).mono ?_); rintro e w' ⟨rfl, ⟨nd, rfl⟩⟩; (try first | exact ⟨rfl, _, World.drewN_drewN _ _ _⟩ | exact ⟨rfl, _, Eq.trans (World.drewN_drewN _ _ _) (congrArg (World.drewN _) (Nat.add_assoc _ _ _))⟩)))
   repeat (go_quiet (first | ((with_reducible refine gate_dst (N := 5) rfl ?_); (try (refine gate_guard (by rfl) ?_; dsimp only)); refine box_event ?hg (N := 5) ?hd (cs := #[.slice A1_0 l1_0.length c1_0, .slice A1_1 l1_1.length c1_1, .slice A1_2 l1_2.length c1_2]) (t := 31) ?hr ?_; (case hd => rfl); (case hg => rfl); (case hr => first | (go_simp; done) | (go_simp; rfl)); intro gb295 hg w24 hbox hb; have t_ := fc4 (below_step bb hb) (hbox) (bg hg : w.heap.size ≤ gb295) (bg hg : w.heap.size ≤ gb295); clear HB; obtain ⟨HB, BK295, GW295, GE295⟩ := t_; clear hb hbox hg; obtain ⟨hcz25_0, hcz25_1, hcz25_2, hfz25_0, hfz25_1, hfz25_2⟩ := bx3 BK295.out) | (go_at_call 76; (with_reducible refine (impl_areNumbers.calls k _ _ l0 _ _ l1_0 _ _ l1_1 _ _ l1_2 true _ ?side1 ?side2 ?side3 ?side4 ?side5 ?side6 ?side7 ?side8 A5.out).mono ?_); (case side1 => exact kc); (case side2 => exact HC0.out); (case side3 => exact kc); (case side4 => exact HC1_0.out); (case side5 => exact kc); (case side6 => exact HC1_1.out); (case side7 => exact kc); (case side8 => exact HC1_2.out); rintro e w26 ⟨rfl, hb⟩; have t_ := fc2 (bw BK295 hb) (below_step bb hb); clear BK295 HB; obtain ⟨BK295, HB⟩ := t_; (try clear hb)) | (go_at_call 94; (with_reducible refine (impl_within.calls a2 1 (wrap64 ((l0.length : Int) - 1)) false _ A7.out).mono ?_); rintro e w' ⟨rfl, ⟨nd, rfl⟩⟩; (try first | exact ⟨rfl, _, World.drewN_drewN _ _ _⟩ | exact ⟨rfl, _, Eq.trans (World.drewN_drewN _ _ _) (congrArg (World.drewN _) (Nat.add_assoc _ _ _))⟩))); try go_wp2_with (first | ((with_reducible refine gate_dst (N := 5) rfl ?_); (try (refine gate_guard (by rfl) ?_; dsimp only)); refine box_event ?hg (N := 5) ?hd (cs := #[.slice A1_0 l1_0.length c1_0, .slice A1_1 l1_1.length c1_1, .slice A1_2 l1_2.length c1_2]) (t := 31) ?hr ?_; (case hd => rfl); (case hg => rfl); (case hr => first | (go_simp; done) | (go_simp; rfl)); intro gb295 hg w24 hbox hb; have t_ := fc4 (below_step bb hb) (hbox) (bg hg : w.heap.size ≤ gb295) (bg hg : w.heap.size ≤ gb295); clear HB; obtain ⟨HB, BK295, GW295, GE295⟩ := t_; clear hb hbox hg; obtain ⟨hcz25_0, hcz25_1, hcz25_2, hfz25_0, hfz25_1, hfz25_2⟩ := bx3 BK295.out) | (go_at_call 76; (with_reducible refine (impl_areNumbers.calls k _ _ l0 _ _ l1_0 _ _ l1_1 _ _ l1_2 true _ ?side1 ?side2 ?side3 ?side4 ?side5 ?side6 ?side7 ?side8 A5.out).mono ?_); (case side1 => exact kc); (case side2 => exact HC0.out); (case side3 => exact kc); (case side4 => exact HC1_0.out); (case side5 => exact kc); (case side6 => exact HC1_1.out); (case side7 => exact kc); (case side8 => exact HC1_2.out); rintro e w26 ⟨rfl, hb⟩; have t_ := fc2 (bw BK295 hb) (below_step bb hb); clear BK295 HB; obtain ⟨BK295, HB⟩ := t_; (try clear hb)) | (go_at_call 94; (with_reducible refine (impl_within.calls a2 1 (wrap64 ((l0.length : Int) - 1)) false _ A7.out).mono ?_); rintro e w' ⟨rfl, ⟨nd, rfl⟩⟩; (try first | exact ⟨rfl, _, World.drewN_drewN _ _ _⟩ | exact ⟨rfl, _, Eq.trans (World.drewN_drewN _ _ _) (congrArg (World.drewN _) (Nat.add_assoc _ _ _))⟩))))
   go_ret
   exact ⟨er, bb⟩
 ·replace c6 := Bool.eq_false_iff.mpr c6
  subst c6
  have H1 : (some (-1)) = some r := by rw [if_neg (show ¬ (false = true) by decide)] at H; exact H
  clear H
  have H := H1
  clear H1
  obtain rfl := Option.some.inj H
  go_enter Try.func45, Try.ntmps45
  go_wp2_with (first | ((with_reducible refine gate_dst (N := 5) rfl ?_); (try (refine gate_guard (by rfl) ?_; dsimp only)); refine box_event ?hg (N := 5) ?hd (cs := #[.slice A1_0 l1_0.length c1_0, .slice A1_1 l1_1.length c1_1, .slice A1_2 l1_2.length c1_2]) (t := 31) ?hr ?_; (case hd => rfl); (case hg => rfl); (case hr => first | (go_simp; done) | (go_simp; rfl)); intro gb295 hg w27 hbox hb; have t_ := fc4 (below_step bb hb) (hbox) (bg hg : w.heap.size ≤ gb295) (bg hg : w.heap.size ≤ gb295); clear HB; obtain ⟨HB, BK295, GW295, GE295⟩ := t_; clear hb hbox hg; obtain ⟨hcz28_0, hcz28_1, hcz28_2, hfz28_0, hfz28_1, hfz28_2⟩ := bx3 BK295.out) | (go_at_call 76; (with_reducible refine (impl_areNumbers.calls k _ _ l0 _ _ l1_0 _ _ l1_1 _ _ l1_2 false _ ?side1 ?side2 ?side3 ?side4 ?side5 ?side6 ?side7 ?side8 A5.out).mono ?_); (case side1 => exact kc); (case side2 => exact HC0.out); (case side3 => exact kc); (case side4 => exact HC1_0.out); (case side5 => exact kc); (case side6 => exact HC1_1.out); (case side7 => exact kc); (case side8 => exact HC1_2.out); rintro e w29 ⟨rfl, hb⟩; have t_ := fc2 (bw BK295 hb) (below_step bb hb); clear BK295 HB; obtain ⟨BK295, HB⟩ := t_; (try clear hb)))
  repeat (go_quiet (first | ((with_reducible refine gate_dst (N := 5) rfl ?_); (try (refine gate_guard (by rfl) ?_; dsimp only)); refine box_event ?hg (N := 5) ?hd (cs := #[.slice A1_0 l1_0.length c1_0, .slice A1_1 l1_1.length c1_1, .slice A1_2 l1_2.length c1_2]) (t := 31) ?hr ?_; (case hd => rfl); (case hg => rfl); (case hr => first | (go_simp; done) | (go_simp; rfl)); intro gb295 hg w27 hbox hb; have t_ := fc4 (below_step bb hb) (hbox) (bg hg : w.heap.size ≤ gb295) (bg hg : w.heap.size ≤ gb295); clear HB; obtain ⟨HB, BK295, GW295, GE295⟩ := t_; clear hb hbox hg; obtain ⟨hcz28_0, hcz28_1, hcz28_2, hfz28_0, hfz28_1, hfz28_2⟩ := bx3 BK295.out) | (go_at_call 76; (with_reducible refine (impl_areNumbers.calls k _ _ l0 _ _ l1_0 _ _ l1_1 _ _ l1_2 false _ ?side1 ?side2 ?side3 ?side4 ?side5 ?side6 ?side7 ?side8 A5.out).mono ?_); (case side1 => exact kc); (case side2 => exact HC0.out); (case side3 => exact kc); (case side4 => exact HC1_0.out); (case side5 => exact kc); (case side6 => exact HC1_1.out); (case side7 => exact kc); (case side8 => exact HC1_2.out); rintro e w29 ⟨rfl, hb⟩; have t_ := fc2 (bw BK295 hb) (below_step bb hb); clear BK295 HB; obtain ⟨BK295, HB⟩ := t_; (try clear hb))); try go_wp2_with (first | ((with_reducible refine gate_dst (N := 5) rfl ?_); (try (refine gate_guard (by rfl) ?_; dsimp only)); refine box_event ?hg (N := 5) ?hd (cs := #[.slice A1_0 l1_0.length c1_0, .slice A1_1 l1_1.length c1_1, .slice A1_2 l1_2.length c1_2]) (t := 31) ?hr ?_; (case hd => rfl); (case hg => rfl); (case hr => first | (go_simp; done) | (go_simp; rfl)); intro gb295 hg w27 hbox hb; have t_ := fc4 (below_step bb hb) (hbox) (bg hg : w.heap.size ≤ gb295) (bg hg : w.heap.size ≤ gb295); clear HB; obtain ⟨HB, BK295, GW295, GE295⟩ := t_; clear hb hbox hg; obtain ⟨hcz28_0, hcz28_1, hcz28_2, hfz28_0, hfz28_1, hfz28_2⟩ := bx3 BK295.out) | (go_at_call 76; (with_reducible refine (impl_areNumbers.calls k _ _ l0 _ _ l1_0 _ _ l1_1 _ _ l1_2 false _ ?side1 ?side2 ?side3 ?side4 ?side5 ?side6 ?side7 ?side8 A5.out).mono ?_); (case side1 => exact kc); (case side2 => exact HC0.out); (case side3 => exact kc); (case side4 => exact HC1_0.out); (case side5 => exact kc); (case side6 => exact HC1_1.out); (case side7 => exact kc); (case side8 => exact HC1_2.out); rintro e w29 ⟨rfl, hb⟩; have t_ := fc2 (bw BK295 hb) (below_step bb hb); clear BK295 HB; obtain ⟨BK295, HB⟩ := t_; (try clear hb))))
  go_ret
  exact ⟨er, bb⟩

/-! ### slices_Index_int_int: function 123 -/
def slices_Index_int_int.l0 : Nat → List Int → Int → Int → Int → Option (Int)
 | 0, _, _, _, _ => none
 | k + 1, x0, x1, x7, x8 => if x8 < x7 then (if 0 ≤ x8 then (if x8 < (x0.length : Int) then (if x1 = (rd x0 x8) then (some x8) else (slices_Index_int_int.l0 k x0 x1 x7 (wrap64 (x8 + 1)))) else (none)) else (none)) else (some (-1))
def slices_Index_int_int.f (k : Nat) (l0 : List Int) (a1 : Int) : Option (Int) := slices_Index_int_int.l0 k l0 a1 (l0.length : Int) 0
set_option maxHeartbeats 8000000 in
set_option maxRecDepth 100000 in
theorem slices_Index_int_int.calls (k : Nat) (A0 : Option Addr) (c0 : Nat) (l0 : List Int) (a1 : Int) (r : Int) (w : World) (hr0 : Kd.C (Kd.int .i64) w A0 l0.length l0) (hc0 : l0.length ≤ c0) (h : slices_Index_int_int.f k l0 a1 = some r) :
  Calls Try.prog 123 #[.slice A0 l0.length c0, .int .i64 a1] w fun e w' => e = .returned (.int .i64 r) ∧ Drawn0 w w' := by
 have HR0 := Aside0.mk hr0
 have HC0 := Aside0.mk hc0
 clear hr0 hc0
 have H : (slices_Index_int_int.l0 k l0 a1 (l0.length : Int) 0) = some r := h
 clear h
 have H' := Aside0.mk H
 clear H
 go_enter Try.func123, Try.ntmps123
 go_wp2
 go_loopg [8] k (fun kq v8 w' => ∃ (x8_1 : Int), v8 = .int .i64 x8_1 ∧ Aside0 (slices_Index_int_int.l0 kq l0 a1 (l0.length : Int) x8_1 = some r) ∧ Aside0 (kq ≤ k) ∧ Drawn0 w w')
 case atStart => exact ⟨(0), (by first | rfl | (simp; done) | (simp [*]; done)), H', ⟨Nat.le_refl _⟩, by repeat (first | exact Drawn0.refl _ | apply Drawn0.step)⟩
 case round =>
  clear H'
  try clear c1
  try clear p2
  obtain ⟨x8_1, rfl, HA, HK1, ⟨m1, rfl⟩⟩ := hrel
  cases gk with
  | zero => exact absurd HA.out (by simp [slices_Index_int_int.l0])
  | succ k1 =>
   have H := HA.out
   clear HA
   simp only [slices_Index_int_int.l0] at H
   by_cases c3 : x8_1 < (l0.length : Int)
   ·rw [if_pos c3] at H
    have c3b0 : decide (x8_1 < (l0.length : Int)) = true := decide_eq_true c3
    clear c3
    by_cases c4 : 0 ≤ x8_1
    ·rw [if_pos c4] at H
     have c4b0 : decide (0 ≤ x8_1) = true := decide_eq_true c4
     clear c4
     by_cases c5 : x8_1 < (l0.length : Int)
     ·rw [if_pos c5] at H
      have c5b0 : decide (x8_1 < (l0.length : Int)) = true := decide_eq_true c5
      clear c5
      by_cases c6 : a1 = (rd l0 x8_1)
      ·rw [if_pos c6] at H
       have c6b0 : (a1 == (rd l0 x8_1)) = true := beq_iff_eq.mpr c6
       have c6b1 : (a1 != (rd l0 x8_1)) = false := bne_eq_false_iff_eq.mpr c6
       clear c6
       obtain rfl := Option.some.inj H
       have p303 : 0 ≤ (x8_1 : Int) := of_decide_eq_true as_
       have q303 : x8_1 < (l0.length : Int) := of_decide_eq_true as_
       obtain ⟨ad303, e303, hx303_0⟩ := Kd.at_int HR0.out x8_1 p303 q303
       cases e303
       replace p303 := eq_true p303
       replace q303 := eq_true q303
       go_wp2
       go_ret
       exact ⟨by first | rfl | (simp; done) | (simp [*]; done), by repeat (first | exact Drawn0.refl _ | apply Drawn0.step)⟩
      ·rw [if_neg c6] at H
       have c6b0 : (a1 == (rd l0 x8_1)) = false := beq_eq_false_iff_ne.mpr c6
       have c6b1 : (a1 != (rd l0 x8_1)) = true := bne_iff_ne.mpr c6
       have H' := Aside0.mk H
       clear H
       have p303 : 0 ≤ (x8_1 : Int) := of_decide_eq_true as_
       have q303 : x8_1 < (l0.length : Int) := of_decide_eq_true as_
       obtain ⟨ad303, e303, hx303_0⟩ := Kd.at_int HR0.out x8_1 p303 q303
       cases e303
       replace p303 := eq_true p303
       replace q303 := eq_true q303
       go_wp2
       go_roundg k1
       case measure => have := HK1.out; omega
       case rel => exact ⟨(wrap64 (x8_1 + 1)), (by first | rfl | (simp; done) | (simp [*]; done)), H', ⟨by have := HK1.out; omega⟩, by repeat (first | exact Drawn0.refl _ | apply Drawn0.step)⟩
     ·rw [if_neg c5] at H
      exact absurd H (by simp)
    ·rw [if_neg c4] at H
     exact absurd H (by simp)
   ·rw [if_neg c3] at H
    have c3b0 : decide (x8_1 < (l0.length : Int)) = false := decide_eq_false c3
    clear c3
    obtain rfl := Option.some.inj H
    go_wp2
    go_ret
    exact ⟨by first | rfl | (simp; done) | (simp [*]; done), by repeat (first | exact Drawn0.refl _ | apply Drawn0.step)⟩

/-! ### slices_Contains_int_int: function 87 -/
def slices_Contains_int_int.f (k : Nat) (l0 : List Int) (a1 : Int) : Option (Bool) := (slices_Index_int_int.f k l0 a1).bind fun t304 => (some (decide (t304 ≥ 0)))
set_option maxHeartbeats 8000000 in
set_option maxRecDepth 100000 in
theorem slices_Contains_int_int.calls (k : Nat) (A0 : Option Addr) (c0 : Nat) (l0 : List Int) (a1 : Int) (r : Bool) (w : World) (hr0 : Kd.C (Kd.int .i64) w A0 l0.length l0) (hc0 : l0.length ≤ c0) (h : slices_Contains_int_int.f k l0 a1 = some r) :
  Calls Try.prog 87 #[.slice A0 l0.length c0, .int .i64 a1] w fun e w' => e = .returned (.bool r) ∧ Drawn0 w w' := by
 have HR0 := Aside0.mk hr0
 have HC0 := Aside0.mk hc0
 clear hr0 hc0
 have H : ((slices_Index_int_int.f k l0 a1).bind fun t304 => (some (decide (t304 ≥ 0)))) = some r := h
 clear h
 replace H := Option.bind_eq_some_iff.mp H
 obtain ⟨t304, A30, H⟩ := H
 replace H : (some (decide (t304 ≥ 0))) = some r := H
 have A3 := Aside0.mk A30
 clear A30
 obtain rfl := Option.some.inj H
 go_enter Try.func87, Try.ntmps87
 go_wp2_with (first | ((with_reducible refine gate_callee (f := 123) rfl ?_); refine goesL_ (some 7) rfl rfl Try.func123 (by kernel_rfl) rfl #[.slice A0 l0.length c0, .int .i64 a1] rfl ms ?_; (with_reducible refine (slices_Index_int_int.calls k _ _ l0 a1 t304 _ ?side1 ?side2 A3.out).mono ?_); (case side1 => repeat (first | exact HR0.out | (with_reducible refine Kd.C_alloc ?_ _) | (with_reducible refine Kd.C_drewN ?_ _) | (with_reducible refine Kd.C_drew ?_))); (case side2 => exact HC0.out); rintro e w' ⟨rfl, ⟨nd, rfl⟩⟩; refine ⟨_, rfl, ?_⟩))
 go_ret
 exact ⟨by first | rfl | (simp; done) | (simp [*]; done), by repeat (first | exact Drawn0.refl _ | apply Drawn0.step)⟩

end Go.Proofs.Ytbbppknnkghkjaa.PFnIdRoutes
