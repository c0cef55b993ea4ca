/- Printed: each Go function as a Lean function, with the proof that Go comes to just its answer (squeezed) -/
import Derived.Test.YtbbppknnkghkjaaPFnExactAllocatex0
import Derived.Test.YtbbppknnkghkjaaPFnExactAllocatex2
import Derived.Test.YtbbppknnkghkjaaPFnExactAllocatex3
import Derived.Test.YtbbppknnkghkjaaPFnExactAllocatex7
import Derived.Test.YtbbppknnkghkjaaPFnExactAllocatex10
import Derived.Test.YtbbppknnkghkjaaPFnExactAllocatex11
namespace Go.Proofs.Ytbbppknnkghkjaa.PFnExactAllocate
open Go.RowKit Go.Proofs.YtbbppknnkghkjaaW.PrintWords Go.Proofs.YtbbppknnkghkjaaW.PrintLast Go.Proofs.YtbbppknnkghkjaaW.PrintMore Go.Proofs.Ytbbppknnkghkjaa.Kit Go.Proofs.Ytbbppknnkghkjaa.Kit2 Go.Proofs.Ytbbppknnkghkjaa.Kit3
open Go.Proofs.YtbbppknnkghkjaaW.PrintWords.Kd (R_below R_mono R_far R_types R_elder' R_base R_lower R_new' R_newB R_lt R_after R_slice R_drew R_drewN R_alloc R_reads' R_bound R_append R_ne R_step C_below C_alloc C_drew C_drewN)
attribute [local go_sem] max2_int min2_int max_two min_two max_three min_three max_four min_four   -- for this text's walks alone
set_option linter.unusedVariables false
set_option linter.unusedSimpArgs false

/-! ### laws_FnExactAllocate: function 16 -/
mutual
def laws_FnExactAllocate.j0 : Nat → List (S83) → List Int → List (S73) → Bool → List (S50) → List Int → List (S73) → Bool → Bool → Option (Bool)
 | 0, _, _, _, _, _, _, _, _, _ => none
 | k + 1, x0, x1, x6, x7, x8, x9, x10, x11, x51 => if x51 = true then (some false) else ((laws_toNodeS.f k x0).bind fun t297 => ((laws_eqNodeS.f k x8 t297).bind fun t300 => (if t300 = true then ((laws_toIntS.f k x1).bind fun t301 => ((laws_eqIntS.f k x9 t301).bind fun t304 => (if t304 = true then ((laws_markNodeS.f k x8 1).bind fun bt305 => ((laws_markIntS.f k x9 bt305.1).bind fun bt307 => (if bt307.1 < 0 then (laws_FnExactAllocate.j1 k x0 x1 x6 x7 x10 true) else ((laws_eqBarS.f k x10 x6).bind fun t309 => (if t309 = true then (laws_FnExactAllocate.j1 k x0 x1 x6 x7 x10 (x11 != x7)) else (laws_FnExactAllocate.j1 k x0 x1 x6 x7 x10 true)))))) else (some false)))) else (some false))))
def laws_FnExactAllocate.j1 : Nat → List (S83) → List Int → List (S73) → Bool → List (S73) → Bool → Option (Bool)
 | 0, _, _, _, _, _, _ => none
 | k + 1, x0, x1, x6, x7, x10, x80 => if x80 = true then (some false) else ((laws_markBarS.f k x10 1).bind fun bt310 => ((laws_heldBarS.f k bt310.2 1).bind fun t312 => (if t312 < 0 then (some false) else (if t312 = bt310.1 then ((laws_toNodeS.f k x0).bind fun t313 => ((laws_toIntS.f k x1).bind fun t316 => ((impl_Allocate.f k t313 t316).bind fun bt319 => ((laws_eqBarS.f k bt319.1 x6).bind fun t323 => (if t323 = true then (laws_FnExactAllocate.j2 k bt310.2 bt310.1 (bt319.2 != x7)) else (laws_FnExactAllocate.j2 k bt310.2 bt310.1 true)))))) else (some false)))))
def laws_FnExactAllocate.j2 : Nat → List (S73) → Int → Bool → Option (Bool)
 | 0, _, _, _ => none
 | k + 1, x10, x13, x108 => if x108 = true then (some false) else ((laws_heldBarS.f k x10 1).bind fun t324 => (if t324 < 0 then (some false) else (if t324 = x13 then (some true) else (some false))))
end
def laws_FnExactAllocate.f (k : Nat) (l0 : List (S83)) (l1 : List Int) : Option (Bool) := if (l1.length : Int) > 1048576 then (some true) else ((laws_szNodeS.f l0 1048576).bind fun t275 => (if t275 < 0 then (some true) else ((laws_toNodeS.f k l0).bind fun t276 => ((laws_toIntS.f k l1).bind fun t279 => ((spec_Allocate.f k t276 t279).bind fun bt282 => ((laws_toNodeS.f k l0).bind fun t286 => ((laws_toIntS.f k l1).bind fun t289 => ((impl_Allocate.f k t286 t289).bind fun bt292 => ((laws_eqBarS.f k bt292.1 bt282.1).bind fun t296 => (if t296 = true then (laws_FnExactAllocate.j0 k l0 l1 bt282.1 bt282.2 t286 t289 bt292.1 bt292.2 (bt292.2 != bt282.2)) else (laws_FnExactAllocate.j0 k l0 l1 bt282.1 bt282.2 t286 t289 bt292.1 bt292.2 true)))))))))))
set_option maxHeartbeats 8000000 in
set_option maxRecDepth 100000 in
theorem laws_FnExactAllocate.calls (k : Nat) (A0 : Option Addr) (c0 : Nat) (l0 : List (S83)) (A1 : Option Addr) (c1 : Nat) (l1 : List Int) (r : Bool) (w : World) (hr0 : Kd.C k83 w A0 l0.length l0) (hc0 : l0.length ≤ c0) (hr1 : Kd.C (Kd.int .i64) w A1 l1.length l1) (hc1 : l1.length ≤ c1) (h : laws_FnExactAllocate.f k l0 l1 = some r) :
  Calls Try.prog 16 #[.slice A0 l0.length c0, .slice A1 l1.length c1] w fun e w' => e = .returned (.bool r) ∧ Below w.heap.size w w' := by
 have HR0 := Aside0.mk hr0
 have HC0 := Aside0.mk hc0
 clear hr0 hc0
 have HR1 := Aside0.mk hr1
 have HC1 := Aside0.mk hc1
 clear hr1 hc1
 have HB := Aside0.mk (Below.refl w.heap.size w)
 have H : (if (l1.length : Int) > 1048576 then (some true) else ((laws_szNodeS.f l0 1048576).bind fun t275 => (if t275 < 0 then (some true) else ((laws_toNodeS.f k l0).bind fun t276 => ((laws_toIntS.f k l1).bind fun t279 => ((spec_Allocate.f k t276 t279).bind fun bt282 => ((laws_toNodeS.f k l0).bind fun t286 => ((laws_toIntS.f k l1).bind fun t289 => ((impl_Allocate.f k t286 t289).bind fun bt292 => ((laws_eqBarS.f k bt292.1 bt282.1).bind fun t296 => (if t296 = true then (laws_FnExactAllocate.j0 k l0 l1 bt282.1 bt282.2 t286 t289 bt292.1 bt292.2 (bt292.2 != bt282.2)) else (laws_FnExactAllocate.j0 k l0 l1 bt282.1 bt282.2 t286 t289 bt292.1 bt292.2 true)))))))))))) = some r := h
 clear h
 by_cases c3 : (l1.length : Int) > 1048576
 ·rw [if_pos c3] at H
  have c3b0 : decide (1048576 < (l1.length : Int)) = true := decide_eq_true c3
  have c3b1 : decide (1048576 < l1.length) = true := decide_eq_true (by omega)
  clear c3
  obtain rfl := Option.some.inj H
  go_enter Try.func16, Try.ntmps16
  go_wp2
  go_ret
  exact ⟨er, bb⟩
 ·rw [if_neg c3] at H
  have c3b0 : decide (1048576 < (l1.length : Int)) = false := decide_eq_false c3
  have c3b1 : decide (1048576 < l1.length) = false := decide_eq_false (by omega)
  clear c3
  replace H := Option.bind_eq_some_iff.mp H
  obtain ⟨t275, A40, H⟩ := H
  replace H : (if t275 < 0 then (some true) else ((laws_toNodeS.f k l0).bind fun t276 => ((laws_toIntS.f k l1).bind fun t279 => ((spec_Allocate.f k t276 t279).bind fun bt282 => ((laws_toNodeS.f k l0).bind fun t286 => ((laws_toIntS.f k l1).bind fun t289 => ((impl_Allocate.f k t286 t289).bind fun bt292 => ((laws_eqBarS.f k bt292.1 bt282.1).bind fun t296 => (if t296 = true then (laws_FnExactAllocate.j0 k l0 l1 bt282.1 bt282.2 t286 t289 bt292.1 bt292.2 (bt292.2 != bt282.2)) else (laws_FnExactAllocate.j0 k l0 l1 bt282.1 bt282.2 t286 t289 bt292.1 bt292.2 true)))))))))) = some r := H
  have A4 := Aside0.mk A40
  clear A40
  by_cases c5 : t275 < 0
  ·rw [if_pos c5] at H
   have c5b0 : decide (t275 < 0) = true := decide_eq_true c5
   clear c5
   obtain rfl := Option.some.inj H
   go_enter Try.func16, Try.ntmps16
   go_wp2_with (first | ((with_reducible refine gate_callee (f := 18) rfl ?_); refine goesL_ (some 22) rfl rfl Try.func18 (by kernel_rfl) rfl #[.slice A0 l0.length c0, .int .i64 1048576] rfl ms ?_; (with_reducible refine (laws_szNodeS.calls _ _ l0 1048576 t275 _ ?side1 ?side2 A4.out).mono ?_); (case side1 => repeat (first | exact HR0.out | (with_reducible refine C_alloc ?_ _) | (with_reducible refine C_drewN ?_ _) | (with_reducible refine C_drew ?_))); (case side2 => exact HC0.out); rintro e w' ⟨rfl, ⟨nd, rfl⟩⟩; refine ⟨_, rfl, ?_⟩))
   go_ret
   exact ⟨er, bb⟩
  ·rw [if_neg c5] at H
   have c5b0 : decide (t275 < 0) = false := decide_eq_false c5
   clear c5
   replace H := Option.bind_eq_some_iff.mp H
   obtain ⟨t276, A60, H⟩ := H
   replace H : ((laws_toIntS.f k l1).bind fun t279 => ((spec_Allocate.f k t276 t279).bind fun bt282 => ((laws_toNodeS.f k l0).bind fun t286 => ((laws_toIntS.f k l1).bind fun t289 => ((impl_Allocate.f k t286 t289).bind fun bt292 => ((laws_eqBarS.f k bt292.1 bt282.1).bind fun t296 => (if t296 = true then (laws_FnExactAllocate.j0 k l0 l1 bt282.1 bt282.2 t286 t289 bt292.1 bt292.2 (bt292.2 != bt282.2)) else (laws_FnExactAllocate.j0 k l0 l1 bt282.1 bt282.2 t286 t289 bt292.1 bt292.2 true)))))))) = some r := H
   have A6 := Aside0.mk A60
   clear A60
   replace H := Option.bind_eq_some_iff.mp H
   obtain ⟨t279, A70, H⟩ := H
   replace H : ((spec_Allocate.f k t276 t279).bind fun bt282 => ((laws_toNodeS.f k l0).bind fun t286 => ((laws_toIntS.f k l1).bind fun t289 => ((impl_Allocate.f k t286 t289).bind fun bt292 => ((laws_eqBarS.f k bt292.1 bt282.1).bind fun t296 => (if t296 = true then (laws_FnExactAllocate.j0 k l0 l1 bt282.1 bt282.2 t286 t289 bt292.1 bt292.2 (bt292.2 != bt282.2)) else (laws_FnExactAllocate.j0 k l0 l1 bt282.1 bt282.2 t286 t289 bt292.1 bt292.2 true))))))) = some r := H
   have A7 := Aside0.mk A70
   clear A70
   replace H := Option.bind_eq_some_iff.mp H
   obtain ⟨⟨t282, t283⟩, A80, H⟩ := H
   replace H : ((laws_toNodeS.f k l0).bind fun t286 => ((laws_toIntS.f k l1).bind fun t289 => ((impl_Allocate.f k t286 t289).bind fun bt292 => ((laws_eqBarS.f k bt292.1 t282).bind fun t296 => (if t296 = true then (laws_FnExactAllocate.j0 k l0 l1 t282 t283 t286 t289 bt292.1 bt292.2 (bt292.2 != t283)) else (laws_FnExactAllocate.j0 k l0 l1 t282 t283 t286 t289 bt292.1 bt292.2 true)))))) = some r := H
   have A8 := Aside0.mk A80
   clear A80
   replace H := Option.bind_eq_some_iff.mp H
   obtain ⟨t286, A90, H⟩ := H
   replace H : ((laws_toIntS.f k l1).bind fun t289 => ((impl_Allocate.f k t286 t289).bind fun bt292 => ((laws_eqBarS.f k bt292.1 t282).bind fun t296 => (if t296 = true then (laws_FnExactAllocate.j0 k l0 l1 t282 t283 t286 t289 bt292.1 bt292.2 (bt292.2 != t283)) else (laws_FnExactAllocate.j0 k l0 l1 t282 t283 t286 t289 bt292.1 bt292.2 true))))) = some r := H
   have A9 := Aside0.mk A90
   clear A90
   replace H := Option.bind_eq_some_iff.mp H
   obtain ⟨t289, A100, H⟩ := H
   replace H : ((impl_Allocate.f k t286 t289).bind fun bt292 => ((laws_eqBarS.f k bt292.1 t282).bind fun t296 => (if t296 = true then (laws_FnExactAllocate.j0 k l0 l1 t282 t283 t286 t289 bt292.1 bt292.2 (bt292.2 != t283)) else (laws_FnExactAllocate.j0 k l0 l1 t282 t283 t286 t289 bt292.1 bt292.2 true)))) = some r := H
   have A10 := Aside0.mk A100
   clear A100
   replace H := Option.bind_eq_some_iff.mp H
   obtain ⟨⟨t292, t293⟩, A110, H⟩ := H
   replace H : ((laws_eqBarS.f k t292 t282).bind fun t296 => (if t296 = true then (laws_FnExactAllocate.j0 k l0 l1 t282 t283 t286 t289 t292 t293 (t293 != t283)) else (laws_FnExactAllocate.j0 k l0 l1 t282 t283 t286 t289 t292 t293 true))) = some r := H
   have A11 := Aside0.mk A110
   clear A110
   have HC12 := Aside0.mk H
   clear H
   go_enter Try.func16, Try.ntmps16
   go_upto_region 11 with (first | ((with_reducible refine gate_callee (f := 18) rfl ?_); refine goesL_ (some 22) rfl rfl Try.func18 (by kernel_rfl) rfl #[.slice A0 l0.length c0, .int .i64 1048576] rfl ms ?_; (with_reducible refine (laws_szNodeS.calls _ _ l0 1048576 t275 _ ?side1 ?side2 A4.out).mono ?_); (case side1 => repeat (first | exact HR0.out | (with_reducible refine C_alloc ?_ _) | (with_reducible refine C_drewN ?_ _) | (with_reducible refine C_drew ?_))); (case side2 => exact HC0.out); rintro e w' ⟨rfl, ⟨nd, rfl⟩⟩; refine ⟨_, rfl, ?_⟩) | ((with_reducible refine gate_callee (f := 21) rfl ?_); refine goesL_ (some 27) rfl rfl Try.func21 (by kernel_rfl) rfl #[.slice A0 l0.length c0] rfl ms ?_; (with_reducible refine (laws_toNodeS.calls k _ _ l0 t276 _ ?side1 ?side2 A6.out).mono ?_); (case side1 => repeat (first | exact HR0.out | (with_reducible refine C_alloc ?_ _) | (with_reducible refine C_drewN ?_ _) | (with_reducible refine C_drew ?_))); (case side2 => exact HC0.out); rintro e w13 ⟨v277, rfl, ho0, hb⟩; refine ⟨_, rfl, ?_⟩; have t_ := fc2 (R_lower ho0 (below_size bb)) (below_step bb hb); clear HB; obtain ⟨HO278, HB⟩ := t_; (try clear hb); (try clear ho0)) | ((with_reducible refine gate_callee (f := 49) rfl ?_); refine goesL_ (some 29) rfl rfl Try.func49 (by kernel_rfl) rfl #[.slice A1 l1.length c1] rfl ms ?_; (with_reducible refine (laws_toIntS.calls k _ _ l1 t279 _ ?side1 ?side2 A7.out).mono ?_); (case side1 => exact kc); (case side2 => exact HC1.out); rintro e w14 ⟨v280, rfl, ho0, hb⟩; refine ⟨_, rfl, ?_⟩; have t_ := fc3 (R_below (ra HO278.out) hb) (R_lower ho0 (below_size bb)) (below_step bb hb); clear HO278 HB; obtain ⟨HO278, HO281, HB⟩ := t_; (try clear hb); (try clear ho0); obtain ⟨Ao15, co15, eo15⟩ := R_slice HO278.out; subst eo15; obtain ⟨Ao16, co16, eo16⟩ := R_slice HO281.out; subst eo16) | ((with_reducible refine gate_callee (f := 54) rfl ?_); refine goesL_ (some 30) rfl rfl Try.func54 (by kernel_rfl) rfl #[.slice Ao15 t276.length co15, .slice Ao16 t279.length co16] rfl ms ?_; (with_reducible refine (spec_Allocate.calls k _ _ t276 _ _ t279 t282 t283 _ ?side1 ?side2 ?side3 ?side4 A8.out).mono ?_); (case side1 => exact rc HO278); (case side2 => exact (R_reads' HO278.out).2.1); (case side3 => exact rc HO281); (case side4 => exact (R_reads' HO281.out).2.1); rintro e w17 ⟨v284, rfl, ho0, hb⟩; refine ⟨_, rfl, ?_⟩; have t_ := fc4 (R_below (ra HO278.out) hb) (R_below (ra HO281.out) hb) (R_lower ho0 (below_size bb)) (below_step bb hb); clear HO278 HO281 HB; obtain ⟨HO278, HO281, HO285, HB⟩ := t_; (try clear hb); (try clear ho0)) | ((with_reducible refine gate_callee (f := 21) rfl ?_); refine goesL_ (some 34) rfl rfl Try.func21 (by kernel_rfl) rfl #[.slice A0 l0.length c0] rfl ms ?_; (with_reducible refine (laws_toNodeS.calls k _ _ l0 t286 _ ?side1 ?side2 A9.out).mono ?_); (case side1 => exact kc); (case side2 => exact HC0.out); rintro e w18 ⟨v287, rfl, ho0, hb⟩; refine ⟨_, rfl, ?_⟩; have t_ := fc5 (R_elder' (ra HO278.out) (R_base ho0) hb) (R_below (ra HO281.out) hb) (R_below (ra HO285.out) hb) (R_lower (R_new' ho0 (R_lt (ra HO278.out))) (below_size bb)) (below_step bb hb); clear HO278 HO281 HO285 HB; obtain ⟨HO278, HO281, HO285, HO288, HB⟩ := t_; (try clear hb); (try clear ho0)) | ((with_reducible refine gate_callee (f := 49) rfl ?_); refine goesL_ (some 36) rfl rfl Try.func49 (by kernel_rfl) rfl #[.slice A1 l1.length c1] rfl ms ?_; (with_reducible refine (laws_toIntS.calls k _ _ l1 t289 _ ?side1 ?side2 A10.out).mono ?_); (case side1 => exact kc); (case side2 => exact HC1.out); rintro e w19 ⟨v290, rfl, ho0, hb⟩; refine ⟨_, rfl, ?_⟩; have t_ := fc6 (R_below (ra HO278.out) hb) (R_elder' (ra HO281.out) (R_base ho0) hb) (R_below (ra HO285.out) hb) (R_below (ra HO288.out) hb) (R_lower (R_new' ho0 (R_lt (ra HO281.out))) (below_size bb)) (below_step bb hb); clear HO278 HO281 HO285 HO288 HB; obtain ⟨HO278, HO281, HO285, HO288, HO291, HB⟩ := t_; (try clear hb); (try clear ho0); obtain ⟨Ao20, co20, eo20⟩ := R_slice HO288.out; subst eo20; obtain ⟨Ao21, co21, eo21⟩ := R_slice HO291.out; subst eo21) | ((with_reducible refine gate_callee (f := 55) rfl ?_); refine goesL_ (some 40) rfl rfl Try.func55 (by kernel_rfl) rfl #[.slice Ao20 t286.length co20, .slice Ao21 t289.length co21] rfl ms ?_; (with_reducible refine (impl_Allocate.calls k _ _ t286 _ _ t289 t292 t293 _ ?side1 ?side2 ?side3 ?side4 A11.out).mono ?_); (case side1 => exact rc HO288); (case side2 => exact (R_reads' HO288.out).2.1); (case side3 => exact rc HO291); (case side4 => exact (R_reads' HO291.out).2.1); rintro e w22 ⟨v294, rfl, ho0, hb⟩; refine ⟨_, rfl, ?_⟩; have t_ := fc7 (R_below (ra HO278.out) hb) (R_below (ra HO281.out) hb) (R_elder' (ra HO285.out) (R_base ho0) hb) (R_below (ra HO288.out) hb) (R_below (ra HO291.out) hb) (R_lower (R_new' ho0 (R_lt (ra HO285.out))) (below_size bb)) (below_step bb hb); clear HO278 HO281 HO285 HO288 HO291 HB; obtain ⟨HO278, HO281, HO285, HO288, HO291, HO295, HB⟩ := t_; (try clear hb); (try clear ho0)))
   (try simp only [Act.put, List.setIfInBounds_toArray, List.set_cons_zero, List.set_cons_succ])
   go_cut [51] (fun v51 wc => ∃ (kq : Nat) (x51_11 : Bool), v51 = .bool x51_11 ∧ Aside0 (laws_FnExactAllocate.j0 kq l0 l1 t282 t283 t286 t289 t292 t293 x51_11 = some r) ∧ Aside0 (kq ≤ k) ∧ Aside0 (Kd.R k73 73 wc w.heap.size (fun k_ => some k_ ≠ (v294 : Value).ownBlock) v284 t282) ∧ Aside0 (Kd.R k50 50 wc w.heap.size (fun _ => True) (.slice Ao20 t286.length co20) t286) ∧ Aside0 (Kd.R (Kd.int .i64) 3 wc w.heap.size (fun _ => True) (.slice Ao21 t289.length co21) t289) ∧ Aside0 (Kd.R k73 73 wc w.heap.size (fun k_ => some k_ ≠ (v284 : Value).ownBlock) v294 t292) ∧ Aside0 (Below w.heap.size w wc))
   case first =>
    have H := HC12.out
    clear HC12
    replace H := Option.bind_eq_some_iff.mp H
    obtain ⟨t296, A230, H⟩ := H
    replace H : (if t296 = true then (laws_FnExactAllocate.j0 k l0 l1 t282 t283 t286 t289 t292 t293 (t293 != t283)) else (laws_FnExactAllocate.j0 k l0 l1 t282 t283 t286 t289 t292 t293 true)) = some r := H
    have A23 := Aside0.mk A230
    clear A230
    by_cases c24 : t296 = true
    ·subst c24
     have H1 : (laws_FnExactAllocate.j0 k l0 l1 t282 t283 t286 t289 t292 t293 (t293 != t283)) = some r := by rw [if_pos rfl] at H; exact H
     clear H
     have H := H1
     clear H1
     have H' := Aside0.mk H
     clear H
     obtain ⟨Ao25, co25, eo25⟩ := R_slice HO295.out
     subst eo25
     obtain ⟨Ao26, co26, eo26⟩ := R_slice HO285.out
     subst eo26
     go_wp2_with (first | ((with_reducible refine gate_callee (f := 65) rfl ?_); refine goesL_ (some 45) rfl rfl Try.func65 (by kernel_rfl) rfl #[.slice Ao25 t292.length co25, .slice Ao26 t282.length co26] rfl ms ?_; (with_reducible refine (laws_eqBarS.calls k _ _ t292 _ _ t282 true _ ?side1 ?side2 ?side3 ?side4 A23.out).mono ?_); (case side1 => exact rc HO295); (case side2 => exact (R_reads' HO295.out).2.1); (case side3 => exact rc HO285); (case side4 => exact (R_reads' HO285.out).2.1); rintro e w27 ⟨rfl, hb⟩; refine ⟨_, rfl, ?_⟩; have t_ := fc7 (R_below (ra HO278.out) hb) (R_below (ra HO281.out) hb) (R_below (ra HO285.out) hb) (R_below (ra HO288.out) hb) (R_below (ra HO291.out) hb) (R_below (ra HO295.out) hb) (below_step bb hb); clear HO278 HO281 HO285 HO288 HO291 HO295 HB; obtain ⟨HO278, HO281, HO285, HO288, HO291, HO295, HB⟩ := t_; (try clear hb)))
     go_meet
     case rel => exact ⟨_, ((t293 != t283)), (by first | rfl | (simp; done) | (simp [*]; done)), H', ⟨by first | omega | exact Nat.le_refl _⟩, ⟨by (with_reducible repeat (first | apply R_alloc | apply R_drewN | apply R_drew)); exact R_mono HO285.out fk⟩, ⟨by (with_reducible repeat (first | apply R_alloc | apply R_drewN | apply R_drew)); exact R_mono HO288.out (fun _ hk => trivial)⟩, ⟨by (with_reducible repeat (first | apply R_alloc | apply R_drewN | apply R_drew)); exact R_mono HO291.out (fun _ hk => trivial)⟩, ⟨by (with_reducible repeat (first | apply R_alloc | apply R_drewN | apply R_drew)); exact R_mono HO295.out fk⟩, ⟨bb⟩⟩
    ·replace c24 := Bool.eq_false_iff.mpr c24
     subst c24
     have H1 : (laws_FnExactAllocate.j0 k l0 l1 t282 t283 t286 t289 t292 t293 true) = some r := by rw [if_neg (show ¬ (false = true) by decide)] at H; exact H
     clear H
     have H := H1
     clear H1
     have H' := Aside0.mk H
     clear H
     obtain ⟨Ao28, co28, eo28⟩ := R_slice HO295.out
     subst eo28
     obtain ⟨Ao29, co29, eo29⟩ := R_slice HO285.out
     subst eo29
     go_wp2_with (first | ((with_reducible refine gate_callee (f := 65) rfl ?_); refine goesL_ (some 45) rfl rfl Try.func65 (by kernel_rfl) rfl #[.slice Ao28 t292.length co28, .slice Ao29 t282.length co29] rfl ms ?_; (with_reducible refine (laws_eqBarS.calls k _ _ t292 _ _ t282 false _ ?side1 ?side2 ?side3 ?side4 A23.out).mono ?_); (case side1 => exact rc HO295); (case side2 => exact (R_reads' HO295.out).2.1); (case side3 => exact rc HO285); (case side4 => exact (R_reads' HO285.out).2.1); rintro e w30 ⟨rfl, hb⟩; refine ⟨_, rfl, ?_⟩; have t_ := fc7 (R_below (ra HO278.out) hb) (R_below (ra HO281.out) hb) (R_below (ra HO285.out) hb) (R_below (ra HO288.out) hb) (R_below (ra HO291.out) hb) (R_below (ra HO295.out) hb) (below_step bb hb); clear HO278 HO281 HO285 HO288 HO291 HO295 HB; obtain ⟨HO278, HO281, HO285, HO288, HO291, HO295, HB⟩ := t_; (try clear hb)))
     go_meet
     case rel => exact ⟨_, (true), (by first | rfl | (simp; done) | (simp [*]; done)), H', ⟨by first | omega | exact Nat.le_refl _⟩, ⟨by (with_reducible repeat (first | apply R_alloc | apply R_drewN | apply R_drew)); exact R_mono HO285.out fk⟩, ⟨by (with_reducible repeat (first | apply R_alloc | apply R_drewN | apply R_drew)); exact R_mono HO288.out (fun _ hk => trivial)⟩, ⟨by (with_reducible repeat (first | apply R_alloc | apply R_drewN | apply R_drew)); exact R_mono HO291.out (fun _ hk => trivial)⟩, ⟨by (with_reducible repeat (first | apply R_alloc | apply R_drewN | apply R_drew)); exact R_mono HO295.out fk⟩, ⟨bb⟩⟩
   case rest =>
    clear HC12
    try clear c1
    try clear c2
    try clear p2
    try clear c3
    try clear c3b0
    try clear c3b1
    try clear c4
    try clear c5
    try clear c5b0
    try clear c6
    try clear c16
    try clear c18
    try clear c21
    try clear c24
    obtain ⟨kq, x51_11, rfl, HA, HJ11, HO_6, HO_8, HO_9, HO_10, HB⟩ := hcut
    cases kq with
    | zero => exact absurd HA.out (by simp [laws_FnExactAllocate.j0])
    | succ kj11 =>
     have H := HA.out
     clear HA
     simp only [laws_FnExactAllocate.j0] at H
     by_cases c31 : x51_11 = true
     ·subst c31
      have H1 : (some false) = some r := by rw [if_pos rfl] at H; exact H
      clear H
      have H := H1
      clear H1
      obtain rfl := Option.some.inj H
      go_wp2
      go_ret
      exact ⟨er, bb⟩
     ·replace c31 := Bool.eq_false_iff.mpr c31
      subst c31
      have H1 : ((laws_toNodeS.f kj11 l0).bind fun t297 => ((laws_eqNodeS.f kj11 t286 t297).bind fun t300 => (if t300 = true then ((laws_toIntS.f kj11 l1).bind fun t301 => ((laws_eqIntS.f kj11 t289 t301).bind fun t304 => (if t304 = true then ((laws_markNodeS.f kj11 t286 1).bind fun bt305 => ((laws_markIntS.f kj11 t289 bt305.1).bind fun bt307 => (if bt307.1 < 0 then (laws_FnExactAllocate.j1 kj11 l0 l1 t282 t283 t292 true) else ((laws_eqBarS.f kj11 t292 t282).bind fun t309 => (if t309 = true then (laws_FnExactAllocate.j1 kj11 l0 l1 t282 t283 t292 (t293 != t283)) else (laws_FnExactAllocate.j1 kj11 l0 l1 t282 t283 t292 true)))))) else (some false)))) else (some false)))) = some r := by rw [if_neg (show ¬ (false = true) by decide)] at H; exact H
      clear H
      have H := H1
      clear H1
      replace H := Option.bind_eq_some_iff.mp H
      obtain ⟨t297, A320, H⟩ := H
      replace H : ((laws_eqNodeS.f kj11 t286 t297).bind fun t300 => (if t300 = true then ((laws_toIntS.f kj11 l1).bind fun t301 => ((laws_eqIntS.f kj11 t289 t301).bind fun t304 => (if t304 = true then ((laws_markNodeS.f kj11 t286 1).bind fun bt305 => ((laws_markIntS.f kj11 t289 bt305.1).bind fun bt307 => (if bt307.1 < 0 then (laws_FnExactAllocate.j1 kj11 l0 l1 t282 t283 t292 true) else ((laws_eqBarS.f kj11 t292 t282).bind fun t309 => (if t309 = true then (laws_FnExactAllocate.j1 kj11 l0 l1 t282 t283 t292 (t293 != t283)) else (laws_FnExactAllocate.j1 kj11 l0 l1 t282 t283 t292 true)))))) else (some false)))) else (some false))) = some r := H
      have A32 := Aside0.mk A320
      clear A320
      replace H := Option.bind_eq_some_iff.mp H
      obtain ⟨t300, A330, H⟩ := H
      replace H : (if t300 = true then ((laws_toIntS.f kj11 l1).bind fun t301 => ((laws_eqIntS.f kj11 t289 t301).bind fun t304 => (if t304 = true then ((laws_markNodeS.f kj11 t286 1).bind fun bt305 => ((laws_markIntS.f kj11 t289 bt305.1).bind fun bt307 => (if bt307.1 < 0 then (laws_FnExactAllocate.j1 kj11 l0 l1 t282 t283 t292 true) else ((laws_eqBarS.f kj11 t292 t282).bind fun t309 => (if t309 = true then (laws_FnExactAllocate.j1 kj11 l0 l1 t282 t283 t292 (t293 != t283)) else (laws_FnExactAllocate.j1 kj11 l0 l1 t282 t283 t292 true)))))) else (some false)))) else (some false)) = some r := H
      have A33 := Aside0.mk A330
      clear A330
      by_cases c34 : t300 = true
      ·subst c34
       have H1 : ((laws_toIntS.f kj11 l1).bind fun t301 => ((laws_eqIntS.f kj11 t289 t301).bind fun t304 => (if t304 = true then ((laws_markNodeS.f kj11 t286 1).bind fun bt305 => ((laws_markIntS.f kj11 t289 bt305.1).bind fun bt307 => (if bt307.1 < 0 then (laws_FnExactAllocate.j1 kj11 l0 l1 t282 t283 t292 true) else ((laws_eqBarS.f kj11 t292 t282).bind fun t309 => (if t309 = true then (laws_FnExactAllocate.j1 kj11 l0 l1 t282 t283 t292 (t293 != t283)) else (laws_FnExactAllocate.j1 kj11 l0 l1 t282 t283 t292 true)))))) else (some false)))) = some r := by rw [if_pos rfl] at H; exact H
       clear H
       have H := H1
       clear H1
       replace H := Option.bind_eq_some_iff.mp H
       obtain ⟨t301, A350, H⟩ := H
       replace H : ((laws_eqIntS.f kj11 t289 t301).bind fun t304 => (if t304 = true then ((laws_markNodeS.f kj11 t286 1).bind fun bt305 => ((laws_markIntS.f kj11 t289 bt305.1).bind fun bt307 => (if bt307.1 < 0 then (laws_FnExactAllocate.j1 kj11 l0 l1 t282 t283 t292 true) else ((laws_eqBarS.f kj11 t292 t282).bind fun t309 => (if t309 = true then (laws_FnExactAllocate.j1 kj11 l0 l1 t282 t283 t292 (t293 != t283)) else (laws_FnExactAllocate.j1 kj11 l0 l1 t282 t283 t292 true)))))) else (some false))) = some r := H
       have A35 := Aside0.mk A350
       clear A350
       replace H := Option.bind_eq_some_iff.mp H
       obtain ⟨t304, A360, H⟩ := H
       replace H : (if t304 = true then ((laws_markNodeS.f kj11 t286 1).bind fun bt305 => ((laws_markIntS.f kj11 t289 bt305.1).bind fun bt307 => (if bt307.1 < 0 then (laws_FnExactAllocate.j1 kj11 l0 l1 t282 t283 t292 true) else ((laws_eqBarS.f kj11 t292 t282).bind fun t309 => (if t309 = true then (laws_FnExactAllocate.j1 kj11 l0 l1 t282 t283 t292 (t293 != t283)) else (laws_FnExactAllocate.j1 kj11 l0 l1 t282 t283 t292 true)))))) else (some false)) = some r := H
       have A36 := Aside0.mk A360
       clear A360
       by_cases c37 : t304 = true
       ·subst c37
        have H1 : ((laws_markNodeS.f kj11 t286 1).bind fun bt305 => ((laws_markIntS.f kj11 t289 bt305.1).bind fun bt307 => (if bt307.1 < 0 then (laws_FnExactAllocate.j1 kj11 l0 l1 t282 t283 t292 true) else ((laws_eqBarS.f kj11 t292 t282).bind fun t309 => (if t309 = true then (laws_FnExactAllocate.j1 kj11 l0 l1 t282 t283 t292 (t293 != t283)) else (laws_FnExactAllocate.j1 kj11 l0 l1 t282 t283 t292 true)))))) = some r := by rw [if_pos rfl] at H; exact H
        clear H
        have H := H1
        clear H1
        replace H := Option.bind_eq_some_iff.mp H
        obtain ⟨⟨t305, t306⟩, A380, H⟩ := H
        replace H : ((laws_markIntS.f kj11 t289 t305).bind fun bt307 => (if bt307.1 < 0 then (laws_FnExactAllocate.j1 kj11 l0 l1 t282 t283 t292 true) else ((laws_eqBarS.f kj11 t292 t282).bind fun t309 => (if t309 = true then (laws_FnExactAllocate.j1 kj11 l0 l1 t282 t283 t292 (t293 != t283)) else (laws_FnExactAllocate.j1 kj11 l0 l1 t282 t283 t292 true))))) = some r := H
        have A38 := Aside0.mk A380
        clear A380
        replace H := Option.bind_eq_some_iff.mp H
        obtain ⟨⟨t307, t308⟩, A390, H⟩ := H
        replace H : (if t307 < 0 then (laws_FnExactAllocate.j1 kj11 l0 l1 t282 t283 t292 true) else ((laws_eqBarS.f kj11 t292 t282).bind fun t309 => (if t309 = true then (laws_FnExactAllocate.j1 kj11 l0 l1 t282 t283 t292 (t293 != t283)) else (laws_FnExactAllocate.j1 kj11 l0 l1 t282 t283 t292 true)))) = some r := H
        have A39 := Aside0.mk A390
        clear A390
        have HC40 := Aside0.mk H
        clear H
        go_upto_region 20 with (first | ((with_reducible refine gate_callee (f := 21) rfl ?_); refine goesL_ (some 54) rfl rfl Try.func21 (by kernel_rfl) rfl #[.slice A0 l0.length c0] rfl ms ?_; (with_reducible refine (laws_toNodeS.calls kj11 _ _ l0 t297 _ ?side1 ?side2 A32.out).mono ?_); (case side1 => exact kc); (case side2 => exact HC0.out); rintro e w41 ⟨v298, rfl, ho0, hb⟩; refine ⟨_, rfl, ?_⟩; have t_ := fc6 (R_below (ra HO_6.out) hb) (R_elder' (ra HO_8.out) (R_base ho0) hb) (R_below (ra HO_9.out) hb) (R_below (ra HO_10.out) hb) (R_lower (R_new' ho0 (R_lt (ra HO_8.out))) (below_size bb)) (below_step bb hb); clear HO_6 HO_8 HO_9 HO_10 HB; obtain ⟨HO_6, HO_8, HO_9, HO_10, HO299, HB⟩ := t_; (try clear hb); (try clear ho0); obtain ⟨Ao42, co42, eo42⟩ := R_slice HO299.out; subst eo42) | ((with_reducible refine gate_callee (f := 25) rfl ?_); refine goesL_ (some 55) rfl rfl Try.func25 (by kernel_rfl) rfl #[.slice Ao20 t286.length co20, .slice Ao42 t297.length co42] rfl ms ?_; (with_reducible refine (laws_eqNodeS.calls kj11 _ _ t286 _ _ t297 true _ ?side1 ?side2 ?side3 ?side4 A33.out).mono ?_); (case side1 => exact rc HO_8); (case side2 => exact (R_reads' HO_8.out).2.1); (case side3 => exact rc HO299); (case side4 => exact (R_reads' HO299.out).2.1); rintro e w43 ⟨rfl, hb⟩; refine ⟨_, rfl, ?_⟩; have t_ := fc6 (R_below (ra HO_6.out) hb) (R_below (ra HO_8.out) hb) (R_below (ra HO_9.out) hb) (R_below (ra HO_10.out) hb) (R_below (ra HO299.out) hb) (below_step bb hb); clear HO_6 HO_8 HO_9 HO_10 HO299 HB; obtain ⟨HO_6, HO_8, HO_9, HO_10, HO299, HB⟩ := t_; (try clear hb)) | ((with_reducible refine gate_callee (f := 49) rfl ?_); refine goesL_ (some 59) rfl rfl Try.func49 (by kernel_rfl) rfl #[.slice A1 l1.length c1] rfl ms ?_; (with_reducible refine (laws_toIntS.calls kj11 _ _ l1 t301 _ ?side1 ?side2 A35.out).mono ?_); (case side1 => exact kc); (case side2 => exact HC1.out); rintro e w44 ⟨v302, rfl, ho0, hb⟩; refine ⟨_, rfl, ?_⟩; have t_ := fc7 (R_below (ra HO_6.out) hb) (R_below (ra HO_8.out) hb) (R_elder' (ra HO_9.out) (R_base ho0) hb) (R_below (ra HO_10.out) hb) (R_below (ra HO299.out) hb) (R_lower (R_new' ho0 (R_lt (ra HO_9.out))) (below_size bb)) (below_step bb hb); clear HO_6 HO_8 HO_9 HO_10 HO299 HB; obtain ⟨HO_6, HO_8, HO_9, HO_10, HO299, HO303, HB⟩ := t_; (try clear hb); (try clear ho0); obtain ⟨Ao45, co45, eo45⟩ := R_slice HO303.out; subst eo45) | ((with_reducible refine gate_callee (f := 24) rfl ?_); refine goesL_ (some 60) rfl rfl Try.func24 (by kernel_rfl) rfl #[.slice Ao21 t289.length co21, .slice Ao45 t301.length co45] rfl ms ?_; (with_reducible refine (laws_eqIntS.calls kj11 _ _ t289 _ _ t301 true _ ?side1 ?side2 ?side3 ?side4 A36.out).mono ?_); (case side1 => exact rc HO_9); (case side2 => exact (R_reads' HO_9.out).2.1); (case side3 => exact rc HO303); (case side4 => exact (R_reads' HO303.out).2.1); rintro e w' ⟨rfl, ⟨nd, rfl⟩⟩; refine ⟨_, rfl, ?_⟩) | ((with_reducible refine gate_callee (f := 27) rfl ?_); refine goesL_ (some 64) rfl rfl Try.func27 (by kernel_rfl) rfl #[.slice Ao20 t286.length co20, .int .i64 1] rfl ms ?_; (with_reducible refine (laws_markNodeS.calls kj11 (fun k_ => some k_ = (.slice Ao20 t286.length co20 : Value).ownBlock) (.slice Ao20 t286.length co20) t286 1 t305 t306 w _ ?side1 ?side2 A38.out).mono ?_); (case side1 => exact bb); (case side2 => exact Kd.R_tight rfl HO_8.out); rintro e w46 ⟨rfl, hy0, hb, hkp⟩; refine ⟨_, rfl, ?_⟩; have t_ := fc7 (R_mono (ok' := fun k_ => some k_ ≠ (v294 : Value).ownBlock) (Kd.R_keptB ((Kd.R_apart' HO_6.out (Kd.R_typed HO_8.out) (by decide))) hkp nf) fq2) (Kd.R_reok rfl hy0 (fun k_ e_ => HO_8.out.1 k_ e_)) (R_mono (ok' := fun k_ => some k_ ≠ (.slice Ao45 t301.length co45 : Value).ownBlock) (Kd.R_keptB ((Kd.R_apart' HO_9.out (Kd.R_typed HO_8.out) (by decide))) hkp nf) fq2) (R_mono (ok' := fun k_ => some k_ ≠ (v284 : Value).ownBlock) (Kd.R_keptB ((Kd.R_apart' HO_10.out (Kd.R_typed HO_8.out) (by decide))) hkp nf) fq2) (R_mono (ok' := fun k_ => some k_ ≠ (.slice Ao20 t286.length co20 : Value).ownBlock) (Kd.R_keptB (HO299.out) hkp nf) fq2) (R_mono (ok' := fun k_ => some k_ ≠ (.slice Ao21 t289.length co21 : Value).ownBlock) (Kd.R_keptB ((Kd.R_apart' HO303.out (Kd.R_typed HO_8.out) (by decide))) hkp nf) fq2) (hb); clear HO_6 HO_8 HO_9 HO_10 HO299 HO303 HB; obtain ⟨HO_6, HO_8, HO_9, HO_10, HO299, HO303, HB⟩ := t_; (try clear hb); (try clear hkp); (try clear hy0)) | ((with_reducible refine gate_callee (f := 29) rfl ?_); refine goesL_ (some 67) rfl rfl Try.func29 (by kernel_rfl) rfl #[.slice Ao21 t289.length co21, .int .i64 t305] rfl ms ?_; (with_reducible refine (laws_markIntS.calls kj11 (fun k_ => some k_ = (.slice Ao21 t289.length co21 : Value).ownBlock) (.slice Ao21 t289.length co21) t289 t305 t307 t308 w _ ?side1 ?side2 A39.out).mono ?_); (case side1 => exact bb); (case side2 => exact Kd.R_tight rfl HO_9.out); rintro e w47 ⟨rfl, hy0, hb, hkp⟩; refine ⟨_, rfl, ?_⟩; have t_ := fc7 (R_mono (ok' := fun k_ => some k_ ≠ (v294 : Value).ownBlock) (Kd.R_keptB ((Kd.R_apart' HO_6.out (Kd.R_typed HO_9.out) (by decide))) hkp nf) fq2) (R_mono (ok' := fun k_ => some k_ ≠ (.slice Ao42 t297.length co42 : Value).ownBlock) (Kd.R_keptB ((Kd.R_apart' HO_8.out (Kd.R_typed HO_9.out) (by decide))) hkp nf) fq2) (Kd.R_reok rfl hy0 (fun k_ e_ => HO_9.out.1 k_ e_)) (R_mono (ok' := fun k_ => some k_ ≠ (v284 : Value).ownBlock) (Kd.R_keptB ((Kd.R_apart' HO_10.out (Kd.R_typed HO_9.out) (by decide))) hkp nf) fq2) (R_mono (ok' := fun k_ => some k_ ≠ (.slice Ao20 t286.length co20 : Value).ownBlock) (Kd.R_keptB ((Kd.R_apart' HO299.out (Kd.R_typed HO_9.out) (by decide))) hkp nf) fq2) (R_mono (ok' := fun k_ => some k_ ≠ (.slice Ao21 t289.length co21 : Value).ownBlock) (Kd.R_keptB (HO303.out) hkp nf) fq2) (hb); clear HO_6 HO_8 HO_9 HO_10 HO299 HO303 HB; obtain ⟨HO_6, HO_8, HO_9, HO_10, HO299, HO303, HB⟩ := t_; (try clear hb); (try clear hkp); (try clear hy0)))
        (try simp only [Act.put, List.setIfInBounds_toArray, List.set_cons_zero, List.set_cons_succ])
        go_cut [80] (fun v80 wc => ∃ (kq : Nat) (x80_39 : Bool), v80 = .bool x80_39 ∧ Aside0 (laws_FnExactAllocate.j1 kq l0 l1 t282 t283 t292 x80_39 = some r) ∧ Aside0 (kq ≤ kj11) ∧ Aside0 (Kd.R k73 73 wc w.heap.size (fun k_ => some k_ ≠ (v294 : Value).ownBlock) v284 t282) ∧ Aside0 (Kd.R k73 73 wc w.heap.size (fun k_ => some k_ ≠ (v284 : Value).ownBlock) v294 t292) ∧ Aside0 (Below w.heap.size w wc))
        case first =>
         have H := HC40.out
         clear HC40
         by_cases c48 : t307 < 0
         ·rw [if_pos c48] at H
          have c48b0 : decide (t307 < 0) = true := decide_eq_true c48
          clear c48
          (first | rw [c48b0] | (simp only [i64_w, i32_w]; rw [c48b0]) | skip)
          have H' := Aside0.mk H
          clear H
          go_wp2
          go_meet
          case rel => exact ⟨_, (true), (by first | rfl | (simp; done) | (simp [*]; done)), H', ⟨by have := HJ11.out; first | omega | exact Nat.le_refl _⟩, ⟨by (with_reducible repeat (first | apply R_alloc | apply R_drewN | apply R_drew)); exact HO_6.out⟩, ⟨by (with_reducible repeat (first | apply R_alloc | apply R_drewN | apply R_drew)); exact HO_10.out⟩, ⟨bb⟩⟩
         ·rw [if_neg c48] at H
          have c48b0 : decide (t307 < 0) = false := decide_eq_false c48
          clear c48
          (first | rw [c48b0] | (simp only [i64_w, i32_w]; rw [c48b0]) | skip)
          replace H := Option.bind_eq_some_iff.mp H
          obtain ⟨t309, A490, H⟩ := H
          replace H : (if t309 = true then (laws_FnExactAllocate.j1 kj11 l0 l1 t282 t283 t292 (t293 != t283)) else (laws_FnExactAllocate.j1 kj11 l0 l1 t282 t283 t292 true)) = some r := H
          have A49 := Aside0.mk A490
          clear A490
          by_cases c50 : t309 = true
          ·subst c50
           have H1 : (laws_FnExactAllocate.j1 kj11 l0 l1 t282 t283 t292 (t293 != t283)) = some r := by rw [if_pos rfl] at H; exact H
           clear H
           have H := H1
           clear H1
           have H' := Aside0.mk H
           clear H
           obtain ⟨Ao51, co51, eo51⟩ := R_slice HO_10.out
           subst eo51
           obtain ⟨Ao52, co52, eo52⟩ := R_slice HO_6.out
           subst eo52
           go_wp2_with (first | (go_at_call 65; (with_reducible refine (laws_eqBarS.calls kj11 _ _ t292 _ _ t282 true _ ?side1 ?side2 ?side3 ?side4 A49.out).mono ?_); (case side1 => exact rc HO_10); (case side2 => exact (R_reads' HO_10.out).2.1); (case side3 => exact rc HO_6); (case side4 => exact (R_reads' HO_6.out).2.1); rintro e w53 ⟨rfl, hb⟩; have t_ := fc7 (R_below (ra HO_6.out) hb) (R_below (ra HO_8.out) hb) (R_below (ra HO_9.out) hb) (R_below (ra HO_10.out) hb) (R_below (ra HO299.out) hb) (R_below (ra HO303.out) hb) (below_step bb hb); clear HO_6 HO_8 HO_9 HO_10 HO299 HO303 HB; obtain ⟨HO_6, HO_8, HO_9, HO_10, HO299, HO303, HB⟩ := t_; (try clear hb)))
           go_meet
           case rel => exact ⟨_, ((t293 != t283)), (by first | rfl | (simp; done) | (simp [*]; done)), H', ⟨by have := HJ11.out; first | omega | exact Nat.le_refl _⟩, ⟨by (with_reducible repeat (first | apply R_alloc | apply R_drewN | apply R_drew)); exact HO_6.out⟩, ⟨by (with_reducible repeat (first | apply R_alloc | apply R_drewN | apply R_drew)); exact HO_10.out⟩, ⟨bb⟩⟩
          ·replace c50 := Bool.eq_false_iff.mpr c50
           subst c50
           have H1 : (laws_FnExactAllocate.j1 kj11 l0 l1 t282 t283 t292 true) = some r := by rw [if_neg (show ¬ (false = true) by decide)] at H; exact H
           clear H
           have H := H1
           clear H1
           have H' := Aside0.mk H
           clear H
           obtain ⟨Ao54, co54, eo54⟩ := R_slice HO_10.out
           subst eo54
           obtain ⟨Ao55, co55, eo55⟩ := R_slice HO_6.out
           subst eo55
           go_wp2_with (first | (go_at_call 65; (with_reducible refine (laws_eqBarS.calls kj11 _ _ t292 _ _ t282 false _ ?side1 ?side2 ?side3 ?side4 A49.out).mono ?_); (case side1 => exact rc HO_10); (case side2 => exact (R_reads' HO_10.out).2.1); (case side3 => exact rc HO_6); (case side4 => exact (R_reads' HO_6.out).2.1); rintro e w56 ⟨rfl, hb⟩; have t_ := fc7 (R_below (ra HO_6.out) hb) (R_below (ra HO_8.out) hb) (R_below (ra HO_9.out) hb) (R_below (ra HO_10.out) hb) (R_below (ra HO299.out) hb) (R_below (ra HO303.out) hb) (below_step bb hb); clear HO_6 HO_8 HO_9 HO_10 HO299 HO303 HB; obtain ⟨HO_6, HO_8, HO_9, HO_10, HO299, HO303, HB⟩ := t_; (try clear hb)))
           go_meet
           case rel => exact ⟨_, (true), (by first | rfl | (simp; done) | (simp [*]; done)), H', ⟨by have := HJ11.out; first | omega | exact Nat.le_refl _⟩, ⟨by (with_reducible repeat (first | apply R_alloc | apply R_drewN | apply R_drew)); exact HO_6.out⟩, ⟨by (with_reducible repeat (first | apply R_alloc | apply R_drewN | apply R_drew)); exact HO_10.out⟩, ⟨bb⟩⟩
        case rest =>
         clear HC40
         try clear c1
         try clear c2
         try clear p2
         try clear c3
         try clear c3b0
         try clear c3b1
         try clear c4
         try clear c5
         try clear c5b0
         try clear c6
         try clear c16
         try clear c18
         try clear c21
         try clear c24
         try clear c25
         try clear c27
         try clear c29
         try clear c31
         try clear c34
         try clear c37
         try clear c48
         try clear c48b0
         try clear c49
         try clear c50
         try clear c54
         try clear c55
         try clear p2
         obtain ⟨kq, x80_39, rfl, HA, HJ39, HO_6, HO_10, HB⟩ := hcut
         cases kq with
         | zero => exact absurd HA.out (by simp [laws_FnExactAllocate.j1])
         | succ kj39 =>
          have H := HA.out
          clear HA
          simp only [laws_FnExactAllocate.j1] at H
          by_cases c57 : x80_39 = true
          ·subst c57
           have H1 : (some false) = some r := by rw [if_pos rfl] at H; exact H
           clear H
           have H := H1
           clear H1
           obtain rfl := Option.some.inj H
           go_wp2
           go_ret
           exact ⟨er, bb⟩
          ·replace c57 := Bool.eq_false_iff.mpr c57
           subst c57
           have H1 : ((laws_markBarS.f kj39 t292 1).bind fun bt310 => ((laws_heldBarS.f kj39 bt310.2 1).bind fun t312 => (if t312 < 0 then (some false) else (if t312 = bt310.1 then ((laws_toNodeS.f kj39 l0).bind fun t313 => ((laws_toIntS.f kj39 l1).bind fun t316 => ((impl_Allocate.f kj39 t313 t316).bind fun bt319 => ((laws_eqBarS.f kj39 bt319.1 t282).bind fun t323 => (if t323 = true then (laws_FnExactAllocate.j2 kj39 bt310.2 bt310.1 (bt319.2 != t283)) else (laws_FnExactAllocate.j2 kj39 bt310.2 bt310.1 true)))))) else (some false))))) = some r := by rw [if_neg (show ¬ (false = true) by decide)] at H; exact H
           clear H
           have H := H1
           clear H1
           replace H := Option.bind_eq_some_iff.mp H
           obtain ⟨⟨t310, t311⟩, A580, H⟩ := H
           replace H : ((laws_heldBarS.f kj39 t311 1).bind fun t312 => (if t312 < 0 then (some false) else (if t312 = t310 then ((laws_toNodeS.f kj39 l0).bind fun t313 => ((laws_toIntS.f kj39 l1).bind fun t316 => ((impl_Allocate.f kj39 t313 t316).bind fun bt319 => ((laws_eqBarS.f kj39 bt319.1 t282).bind fun t323 => (if t323 = true then (laws_FnExactAllocate.j2 kj39 t311 t310 (bt319.2 != t283)) else (laws_FnExactAllocate.j2 kj39 t311 t310 true)))))) else (some false)))) = some r := H
           have A58 := Aside0.mk A580
           clear A580
           replace H := Option.bind_eq_some_iff.mp H
           obtain ⟨t312, A590, H⟩ := H
           replace H : (if t312 < 0 then (some false) else (if t312 = t310 then ((laws_toNodeS.f kj39 l0).bind fun t313 => ((laws_toIntS.f kj39 l1).bind fun t316 => ((impl_Allocate.f kj39 t313 t316).bind fun bt319 => ((laws_eqBarS.f kj39 bt319.1 t282).bind fun t323 => (if t323 = true then (laws_FnExactAllocate.j2 kj39 t311 t310 (bt319.2 != t283)) else (laws_FnExactAllocate.j2 kj39 t311 t310 true)))))) else (some false))) = some r := H
           have A59 := Aside0.mk A590
           clear A590
           by_cases c60 : t312 < 0
           ·rw [if_pos c60] at H
            have c60b0 : decide (t312 < 0) = true := decide_eq_true c60
            clear c60
            obtain rfl := Option.some.inj H
            obtain ⟨Ao61, co61, eo61⟩ := R_slice HO_10.out
            subst eo61
            go_wp2_with (first | ((with_reducible refine gate_callee (f := 66) rfl ?_); refine goesL_ (some 83) rfl rfl Try.func66 (by kernel_rfl) rfl #[.slice Ao61 t292.length co61, .int .i64 1] rfl ms ?_; (with_reducible refine (laws_markBarS.calls kj39 (fun k_ => some k_ = (.slice Ao61 t292.length co61 : Value).ownBlock) (.slice Ao61 t292.length co61) t292 1 t310 t311 w _ ?side1 ?side2 A58.out).mono ?_); (case side1 => exact bb); (case side2 => exact Kd.R_tight rfl HO_10.out); rintro e w62 ⟨rfl, hy0, hb, hkp⟩; refine ⟨_, rfl, ?_⟩; have t_ := fc3 (R_mono (ok' := fun k_ => some k_ ≠ (.slice Ao61 t292.length co61 : Value).ownBlock) (Kd.R_keptB (HO_6.out) hkp nf) fq2) (Kd.R_reok rfl hy0 (fun k_ e_ => HO_10.out.1 k_ e_)) (hb); clear HO_6 HO_10 HB; obtain ⟨HO_6, HO_10, HB⟩ := t_; (try clear hb); (try clear hkp); (try clear hy0)) | ((with_reducible refine gate_callee (f := 67) rfl ?_); refine goesL_ (some 86) rfl rfl Try.func67 (by kernel_rfl) rfl #[.slice Ao61 t311.length co61, .int .i64 1] rfl (by (try simp only [List.map_toArray, List.map_cons, List.map_nil]); first | done | (rw [show t311.length = t292.length from (R_reads' HO_10.out).1.symm] <;> rfl) | rfl | (simp only [List.length_drop, List.length_take]; rfl)) ?_; (with_reducible refine (laws_heldBarS.calls kj39 _ _ t311 1 t312 _ ?side1 ?side2 A59.out).mono ?_); (case side1 => exact rc HO_10); (case side2 => rw [show t311.length = t292.length from (R_reads' HO_10.out).1.symm]; exact (R_reads' HO_10.out).2.1); rintro e w' ⟨rfl, ⟨nd, rfl⟩⟩; refine ⟨_, rfl, ?_⟩))
            go_ret
            exact ⟨er, bb⟩
           ·rw [if_neg c60] at H
            have c60b0 : decide (t312 < 0) = false := decide_eq_false c60
            clear c60
            by_cases c63 : t312 = t310
            ·rw [if_pos c63] at H
             have c63b0 : (t312 == t310) = true := beq_iff_eq.mpr c63
             have c63b1 : (t312 != t310) = false := bne_eq_false_iff_eq.mpr c63
             clear c63
             replace H := Option.bind_eq_some_iff.mp H
             obtain ⟨t313, A640, H⟩ := H
             replace H : ((laws_toIntS.f kj39 l1).bind fun t316 => ((impl_Allocate.f kj39 t313 t316).bind fun bt319 => ((laws_eqBarS.f kj39 bt319.1 t282).bind fun t323 => (if t323 = true then (laws_FnExactAllocate.j2 kj39 t311 t310 (bt319.2 != t283)) else (laws_FnExactAllocate.j2 kj39 t311 t310 true))))) = some r := H
             have A64 := Aside0.mk A640
             clear A640
             replace H := Option.bind_eq_some_iff.mp H
             obtain ⟨t316, A650, H⟩ := H
             replace H : ((impl_Allocate.f kj39 t313 t316).bind fun bt319 => ((laws_eqBarS.f kj39 bt319.1 t282).bind fun t323 => (if t323 = true then (laws_FnExactAllocate.j2 kj39 t311 t310 (bt319.2 != t283)) else (laws_FnExactAllocate.j2 kj39 t311 t310 true)))) = some r := H
             have A65 := Aside0.mk A650
             clear A650
             replace H := Option.bind_eq_some_iff.mp H
             obtain ⟨⟨t319, t320⟩, A660, H⟩ := H
             replace H : ((laws_eqBarS.f kj39 t319 t282).bind fun t323 => (if t323 = true then (laws_FnExactAllocate.j2 kj39 t311 t310 (t320 != t283)) else (laws_FnExactAllocate.j2 kj39 t311 t310 true))) = some r := H
             have A66 := Aside0.mk A660
             clear A660
             have HC67 := Aside0.mk H
             clear H
             obtain ⟨Ao68, co68, eo68⟩ := R_slice HO_10.out
             subst eo68
             go_upto_region 31 with (first | ((with_reducible refine gate_callee (f := 66) rfl ?_); refine goesL_ (some 83) rfl rfl Try.func66 (by kernel_rfl) rfl #[.slice Ao68 t292.length co68, .int .i64 1] rfl ms ?_; (with_reducible refine (laws_markBarS.calls kj39 (fun k_ => some k_ = (.slice Ao68 t292.length co68 : Value).ownBlock) (.slice Ao68 t292.length co68) t292 1 t310 t311 w _ ?side1 ?side2 A58.out).mono ?_); (case side1 => exact bb); (case side2 => exact Kd.R_tight rfl HO_10.out); rintro e w69 ⟨rfl, hy0, hb, hkp⟩; refine ⟨_, rfl, ?_⟩; have t_ := fc3 (R_mono (ok' := fun k_ => some k_ ≠ (.slice Ao68 t292.length co68 : Value).ownBlock) (Kd.R_keptB (HO_6.out) hkp nf) fq2) (Kd.R_reok rfl hy0 (fun k_ e_ => HO_10.out.1 k_ e_)) (hb); clear HO_6 HO_10 HB; obtain ⟨HO_6, HO_10, HB⟩ := t_; (try clear hb); (try clear hkp); (try clear hy0)) | ((with_reducible refine gate_callee (f := 67) rfl ?_); refine goesL_ (some 86) rfl rfl Try.func67 (by kernel_rfl) rfl #[.slice Ao68 t311.length co68, .int .i64 1] rfl (by (try simp only [List.map_toArray, List.map_cons, List.map_nil]); first | done | (rw [show t311.length = t292.length from (R_reads' HO_10.out).1.symm] <;> rfl) | rfl | (simp only [List.length_drop, List.length_take]; rfl)) ?_; (with_reducible refine (laws_heldBarS.calls kj39 _ _ t311 1 t312 _ ?side1 ?side2 A59.out).mono ?_); (case side1 => exact rc HO_10); (case side2 => rw [show t311.length = t292.length from (R_reads' HO_10.out).1.symm]; exact (R_reads' HO_10.out).2.1); rintro e w' ⟨rfl, ⟨nd, rfl⟩⟩; refine ⟨_, rfl, ?_⟩) | ((with_reducible refine gate_callee (f := 21) rfl ?_); refine goesL_ (some 94) rfl rfl Try.func21 (by kernel_rfl) rfl #[.slice A0 l0.length c0] rfl ms ?_; (with_reducible refine (laws_toNodeS.calls kj39 _ _ l0 t313 _ ?side1 ?side2 A64.out).mono ?_); (case side1 => exact kc); (case side2 => exact HC0.out); rintro e w70 ⟨v314, rfl, ho0, hb⟩; refine ⟨_, rfl, ?_⟩; have t_ := fc4 (R_below (ra HO_6.out) hb) (R_below (ra HO_10.out) hb) (R_lower ho0 (below_size bb)) (below_step bb hb); clear HO_6 HO_10 HB; obtain ⟨HO_6, HO_10, HO315, HB⟩ := t_; (try clear hb); (try clear ho0)) | ((with_reducible refine gate_callee (f := 49) rfl ?_); refine goesL_ (some 96) rfl rfl Try.func49 (by kernel_rfl) rfl #[.slice A1 l1.length c1] rfl ms ?_; (with_reducible refine (laws_toIntS.calls kj39 _ _ l1 t316 _ ?side1 ?side2 A65.out).mono ?_); (case side1 => exact kc); (case side2 => exact HC1.out); rintro e w71 ⟨v317, rfl, ho0, hb⟩; refine ⟨_, rfl, ?_⟩; have t_ := fc5 (R_below (ra HO_6.out) hb) (R_below (ra HO_10.out) hb) (R_below (ra HO315.out) hb) (R_lower ho0 (below_size bb)) (below_step bb hb); clear HO_6 HO_10 HO315 HB; obtain ⟨HO_6, HO_10, HO315, HO318, HB⟩ := t_; (try clear hb); (try clear ho0); obtain ⟨Ao72, co72, eo72⟩ := R_slice HO315.out; subst eo72; obtain ⟨Ao73, co73, eo73⟩ := R_slice HO318.out; subst eo73) | ((with_reducible refine gate_callee (f := 55) rfl ?_); refine goesL_ (some 97) rfl rfl Try.func55 (by kernel_rfl) rfl #[.slice Ao72 t313.length co72, .slice Ao73 t316.length co73] rfl ms ?_; (with_reducible refine (impl_Allocate.calls kj39 _ _ t313 _ _ t316 t319 t320 _ ?side1 ?side2 ?side3 ?side4 A66.out).mono ?_); (case side1 => exact rc HO315); (case side2 => exact (R_reads' HO315.out).2.1); (case side3 => exact rc HO318); (case side4 => exact (R_reads' HO318.out).2.1); rintro e w74 ⟨v321, rfl, ho0, hb⟩; refine ⟨_, rfl, ?_⟩; have t_ := fc6 (R_elder' (ra HO_6.out) (R_base ho0) hb) (R_elder' (ra HO_10.out) (R_base ho0) hb) (R_below (ra HO315.out) hb) (R_below (ra HO318.out) hb) (R_lower (R_new' (R_new' ho0 (R_lt (ra HO_6.out))) (R_lt (ra HO_10.out))) (below_size bb)) (below_step bb hb); clear HO_6 HO_10 HO315 HO318 HB; obtain ⟨HO_6, HO_10, HO315, HO318, HO322, HB⟩ := t_; (try clear hb); (try clear ho0)))
             (try simp only [Act.put, List.setIfInBounds_toArray, List.set_cons_zero, List.set_cons_succ])
             go_cut [108] (fun v108 wc => ∃ (kq : Nat) (x108_66 : Bool), v108 = .bool x108_66 ∧ Aside0 (laws_FnExactAllocate.j2 kq t311 t310 x108_66 = some r) ∧ Aside0 (kq ≤ kj39) ∧ Aside0 (Kd.R k73 73 wc w.heap.size (fun _ => True) (.slice Ao68 t292.length co68) t311) ∧ Aside0 (Below w.heap.size w wc))
             case first =>
              have H := HC67.out
              clear HC67
              replace H := Option.bind_eq_some_iff.mp H
              obtain ⟨t323, A750, H⟩ := H
              replace H : (if t323 = true then (laws_FnExactAllocate.j2 kj39 t311 t310 (t320 != t283)) else (laws_FnExactAllocate.j2 kj39 t311 t310 true)) = some r := H
              have A75 := Aside0.mk A750
              clear A750
              by_cases c76 : t323 = true
              ·subst c76
               have H1 : (laws_FnExactAllocate.j2 kj39 t311 t310 (t320 != t283)) = some r := by rw [if_pos rfl] at H; exact H
               clear H
               have H := H1
               clear H1
               have H' := Aside0.mk H
               clear H
               obtain ⟨Ao77, co77, eo77⟩ := R_slice HO322.out
               subst eo77
               obtain ⟨Ao78, co78, eo78⟩ := R_slice HO_6.out
               subst eo78
               go_wp2_with (first | ((with_reducible refine gate_callee (f := 65) rfl ?_); refine goesL_ (some 102) rfl rfl Try.func65 (by kernel_rfl) rfl #[.slice Ao77 t319.length co77, .slice Ao78 t282.length co78] rfl ms ?_; (with_reducible refine (laws_eqBarS.calls kj39 _ _ t319 _ _ t282 true _ ?side1 ?side2 ?side3 ?side4 A75.out).mono ?_); (case side1 => exact rc HO322); (case side2 => exact (R_reads' HO322.out).2.1); (case side3 => exact rc HO_6); (case side4 => exact (R_reads' HO_6.out).2.1); rintro e w79 ⟨rfl, hb⟩; refine ⟨_, rfl, ?_⟩; have t_ := fc6 (R_below (ra HO_6.out) hb) (R_below (ra HO_10.out) hb) (R_below (ra HO315.out) hb) (R_below (ra HO318.out) hb) (R_below (ra HO322.out) hb) (below_step bb hb); clear HO_6 HO_10 HO315 HO318 HO322 HB; obtain ⟨HO_6, HO_10, HO315, HO318, HO322, HB⟩ := t_; (try clear hb)))
               go_meet
               case rel => exact ⟨_, ((t320 != t283)), (by first | rfl | (simp; done) | (simp [*]; done)), H', ⟨by have := HJ11.out; have := HJ39.out; first | omega | exact Nat.le_refl _⟩, ⟨by (with_reducible repeat (first | apply R_alloc | apply R_drewN | apply R_drew)); exact R_mono HO_10.out (fun _ hk => trivial)⟩, ⟨bb⟩⟩
              ·replace c76 := Bool.eq_false_iff.mpr c76
               subst c76
               have H1 : (laws_FnExactAllocate.j2 kj39 t311 t310 true) = some r := by rw [if_neg (show ¬ (false = true) by decide)] at H; exact H
               clear H
               have H := H1
               clear H1
               have H' := Aside0.mk H
               clear H
               obtain ⟨Ao80, co80, eo80⟩ := R_slice HO322.out
               subst eo80
               obtain ⟨Ao81, co81, eo81⟩ := R_slice HO_6.out
               subst eo81
               go_wp2_with (first | ((with_reducible refine gate_callee (f := 65) rfl ?_); refine goesL_ (some 102) rfl rfl Try.func65 (by kernel_rfl) rfl #[.slice Ao80 t319.length co80, .slice Ao81 t282.length co81] rfl ms ?_; (with_reducible refine (laws_eqBarS.calls kj39 _ _ t319 _ _ t282 false _ ?side1 ?side2 ?side3 ?side4 A75.out).mono ?_); (case side1 => exact rc HO322); (case side2 => exact (R_reads' HO322.out).2.1); (case side3 => exact rc HO_6); (case side4 => exact (R_reads' HO_6.out).2.1); rintro e w82 ⟨rfl, hb⟩; refine ⟨_, rfl, ?_⟩; have t_ := fc6 (R_below (ra HO_6.out) hb) (R_below (ra HO_10.out) hb) (R_below (ra HO315.out) hb) (R_below (ra HO318.out) hb) (R_below (ra HO322.out) hb) (below_step bb hb); clear HO_6 HO_10 HO315 HO318 HO322 HB; obtain ⟨HO_6, HO_10, HO315, HO318, HO322, HB⟩ := t_; (try clear hb)))
               go_meet
               case rel => exact ⟨_, (true), (by first | rfl | (simp; done) | (simp [*]; done)), H', ⟨by have := HJ11.out; have := HJ39.out; first | omega | exact Nat.le_refl _⟩, ⟨by (with_reducible repeat (first | apply R_alloc | apply R_drewN | apply R_drew)); exact R_mono HO_10.out (fun _ hk => trivial)⟩, ⟨bb⟩⟩
             case rest =>
              clear HC67
              try clear c1
              try clear c2
              try clear p2
              try clear c3
              try clear c3b0
              try clear c3b1
              try clear c4
              try clear c5
              try clear c5b0
              try clear c6
              try clear c7
              try clear c16
              try clear c18
              try clear c21
              try clear c24
              try clear c25
              try clear c27
              try clear c29
              try clear c31
              try clear c34
              try clear c37
              try clear c48
              try clear c48b0
              try clear c49
              try clear c50
              try clear c54
              try clear c55
              try clear c57
              try clear c60
              try clear c60b0
              try clear c63
              try clear c63b0
              try clear c63b1
              try clear c65
              try clear c66
              try clear c67
              try clear c76
              try clear p2
              obtain ⟨kq, x108_66, rfl, HA, HJ66, HO_10, HB⟩ := hcut
              have hl10_66 := (R_reads' HO_10.out).1
              rw [hl10_66] at HO_10
              (try simp only [hl10_66])
              cases kq with
              | zero => exact absurd HA.out (by simp [laws_FnExactAllocate.j2])
              | succ kj66 =>
               have H := HA.out
               clear HA
               simp only [laws_FnExactAllocate.j2] at H
               by_cases c83 : x108_66 = true
               ·subst c83
                have H1 : (some false) = some r := by rw [if_pos rfl] at H; exact H
                clear H
                have H := H1
                clear H1
                obtain rfl := Option.some.inj H
                go_wp2
                go_ret
                exact ⟨er, bb⟩
               ·replace c83 := Bool.eq_false_iff.mpr c83
                subst c83
                have H1 : ((laws_heldBarS.f kj66 t311 1).bind fun t324 => (if t324 < 0 then (some false) else (if t324 = t310 then (some true) else (some false)))) = some r := by rw [if_neg (show ¬ (false = true) by decide)] at H; exact H
                clear H
                have H := H1
                clear H1
                replace H := Option.bind_eq_some_iff.mp H
                obtain ⟨t324, A840, H⟩ := H
                replace H : (if t324 < 0 then (some false) else (if t324 = t310 then (some true) else (some false))) = some r := H
                have A84 := Aside0.mk A840
                clear A840
                by_cases c85 : t324 < 0
                ·rw [if_pos c85] at H
                 have c85b0 : decide (t324 < 0) = true := decide_eq_true c85
                 clear c85
                 obtain rfl := Option.some.inj H
                 go_wp2_with (first | ((with_reducible refine gate_callee (f := 67) rfl ?_); refine goesL_ (some 111) rfl rfl Try.func67 (by kernel_rfl) rfl #[.slice Ao68 t311.length co68, .int .i64 1] rfl ms ?_; (with_reducible refine (laws_heldBarS.calls kj66 _ _ t311 1 t324 _ ?side1 ?side2 A84.out).mono ?_); (case side1 => exact rc HO_10); (case side2 => exact (R_reads' HO_10.out).2.1); rintro e w' ⟨rfl, ⟨nd, rfl⟩⟩; refine ⟨_, rfl, ?_⟩))
                 go_ret
                 exact ⟨er, bb⟩
                ·rw [if_neg c85] at H
                 have c85b0 : decide (t324 < 0) = false := decide_eq_false c85
                 clear c85
                 by_cases c86 : t324 = t310
                 ·rw [if_pos c86] at H
                  have c86b0 : (t324 == t310) = true := beq_iff_eq.mpr c86
                  have c86b1 : (t324 != t310) = false := bne_eq_false_iff_eq.mpr c86
                  clear c86
                  obtain rfl := Option.some.inj H
                  go_wp2_with (first | ((with_reducible refine gate_callee (f := 67) rfl ?_); refine goesL_ (some 111) rfl rfl Try.func67 (by kernel_rfl) rfl #[.slice Ao68 t311.length co68, .int .i64 1] rfl ms ?_; (with_reducible refine (laws_heldBarS.calls kj66 _ _ t311 1 t324 _ ?side1 ?side2 A84.out).mono ?_); (case side1 => exact rc HO_10); (case side2 => exact (R_reads' HO_10.out).2.1); rintro e w' ⟨rfl, ⟨nd, rfl⟩⟩; refine ⟨_, rfl, ?_⟩))
                  go_ret
                  exact ⟨er, bb⟩
                 ·rw [if_neg c86] at H
                  have c86b0 : (t324 == t310) = false := beq_eq_false_iff_ne.mpr c86
                  have c86b1 : (t324 != t310) = true := bne_iff_ne.mpr c86
                  obtain rfl := Option.some.inj H
                  go_wp2_with (first | ((with_reducible refine gate_callee (f := 67) rfl ?_); refine goesL_ (some 111) rfl rfl Try.func67 (by kernel_rfl) rfl #[.slice Ao68 t311.length co68, .int .i64 1] rfl ms ?_; (with_reducible refine (laws_heldBarS.calls kj66 _ _ t311 1 t324 _ ?side1 ?side2 A84.out).mono ?_); (case side1 => exact rc HO_10); (case side2 => exact (R_reads' HO_10.out).2.1); rintro e w' ⟨rfl, ⟨nd, rfl⟩⟩; refine ⟨_, rfl, ?_⟩))
                  go_ret
                  exact ⟨er, bb⟩
            ·rw [if_neg c63] at H
             have c63b0 : (t312 == t310) = false := beq_eq_false_iff_ne.mpr c63
             have c63b1 : (t312 != t310) = true := bne_iff_ne.mpr c63
             obtain rfl := Option.some.inj H
             obtain ⟨Ao87, co87, eo87⟩ := R_slice HO_10.out
             subst eo87
             go_wp2_with (first | ((with_reducible refine gate_callee (f := 66) rfl ?_); refine goesL_ (some 83) rfl rfl Try.func66 (by kernel_rfl) rfl #[.slice Ao87 t292.length co87, .int .i64 1] rfl ms ?_; (with_reducible refine (laws_markBarS.calls kj39 (fun k_ => some k_ = (.slice Ao87 t292.length co87 : Value).ownBlock) (.slice Ao87 t292.length co87) t292 1 t310 t311 w _ ?side1 ?side2 A58.out).mono ?_); (case side1 => exact bb); (case side2 => exact Kd.R_tight rfl HO_10.out); rintro e w88 ⟨rfl, hy0, hb, hkp⟩; refine ⟨_, rfl, ?_⟩; have t_ := fc3 (R_mono (ok' := fun k_ => some k_ ≠ (.slice Ao87 t292.length co87 : Value).ownBlock) (Kd.R_keptB (HO_6.out) hkp nf) fq2) (Kd.R_reok rfl hy0 (fun k_ e_ => HO_10.out.1 k_ e_)) (hb); clear HO_6 HO_10 HB; obtain ⟨HO_6, HO_10, HB⟩ := t_; (try clear hb); (try clear hkp); (try clear hy0)) | ((with_reducible refine gate_callee (f := 67) rfl ?_); refine goesL_ (some 86) rfl rfl Try.func67 (by kernel_rfl) rfl #[.slice Ao87 t311.length co87, .int .i64 1] rfl (by (try simp only [List.map_toArray, List.map_cons, List.map_nil]); first | done | (rw [show t311.length = t292.length from (R_reads' HO_10.out).1.symm] <;> rfl) | rfl | (simp only [List.length_drop, List.length_take]; rfl)) ?_; (with_reducible refine (laws_heldBarS.calls kj39 _ _ t311 1 t312 _ ?side1 ?side2 A59.out).mono ?_); (case side1 => exact rc HO_10); (case side2 => rw [show t311.length = t292.length from (R_reads' HO_10.out).1.symm]; exact (R_reads' HO_10.out).2.1); rintro e w' ⟨rfl, ⟨nd, rfl⟩⟩; refine ⟨_, rfl, ?_⟩))
             go_ret
             exact ⟨er, bb⟩
       ·replace c37 := Bool.eq_false_iff.mpr c37
        subst c37
        have H1 : (some false) = some r := by rw [if_neg (show ¬ (false = true) by decide)] at H; exact H
        clear H
        have H := H1
        clear H1
        obtain rfl := Option.some.inj H
        go_wp2_with (first | ((with_reducible refine gate_callee (f := 21) rfl ?_); refine goesL_ (some 54) rfl rfl Try.func21 (by kernel_rfl) rfl #[.slice A0 l0.length c0] rfl ms ?_; (with_reducible refine (laws_toNodeS.calls kj11 _ _ l0 t297 _ ?side1 ?side2 A32.out).mono ?_); (case side1 => exact kc); (case side2 => exact HC0.out); rintro e w89 ⟨v298, rfl, ho0, hb⟩; refine ⟨_, rfl, ?_⟩; have t_ := fc6 (R_below (ra HO_6.out) hb) (R_elder' (ra HO_8.out) (R_base ho0) hb) (R_below (ra HO_9.out) hb) (R_below (ra HO_10.out) hb) (R_lower (R_new' ho0 (R_lt (ra HO_8.out))) (below_size bb)) (below_step bb hb); clear HO_6 HO_8 HO_9 HO_10 HB; obtain ⟨HO_6, HO_8, HO_9, HO_10, HO299, HB⟩ := t_; (try clear hb); (try clear ho0); obtain ⟨Ao90, co90, eo90⟩ := R_slice HO299.out; subst eo90) | ((with_reducible refine gate_callee (f := 25) rfl ?_); refine goesL_ (some 55) rfl rfl Try.func25 (by kernel_rfl) rfl #[.slice Ao20 t286.length co20, .slice Ao90 t297.length co90] rfl ms ?_; (with_reducible refine (laws_eqNodeS.calls kj11 _ _ t286 _ _ t297 true _ ?side1 ?side2 ?side3 ?side4 A33.out).mono ?_); (case side1 => exact rc HO_8); (case side2 => exact (R_reads' HO_8.out).2.1); (case side3 => exact rc HO299); (case side4 => exact (R_reads' HO299.out).2.1); rintro e w91 ⟨rfl, hb⟩; refine ⟨_, rfl, ?_⟩; have t_ := fc6 (R_below (ra HO_6.out) hb) (R_below (ra HO_8.out) hb) (R_below (ra HO_9.out) hb) (R_below (ra HO_10.out) hb) (R_below (ra HO299.out) hb) (below_step bb hb); clear HO_6 HO_8 HO_9 HO_10 HO299 HB; obtain ⟨HO_6, HO_8, HO_9, HO_10, HO299, HB⟩ := t_; (try clear hb)) | ((with_reducible refine gate_callee (f := 49) rfl ?_); refine goesL_ (some 59) rfl rfl Try.func49 (by kernel_rfl) rfl #[.slice A1 l1.length c1] rfl ms ?_; (with_reducible refine (laws_toIntS.calls kj11 _ _ l1 t301 _ ?side1 ?side2 A35.out).mono ?_); (case side1 => exact kc); (case side2 => exact HC1.out); rintro e w92 ⟨v302, rfl, ho0, hb⟩; refine ⟨_, rfl, ?_⟩; have t_ := fc7 (R_below (ra HO_6.out) hb) (R_below (ra HO_8.out) hb) (R_elder' (ra HO_9.out) (R_base ho0) hb) (R_below (ra HO_10.out) hb) (R_below (ra HO299.out) hb) (R_lower (R_new' ho0 (R_lt (ra HO_9.out))) (below_size bb)) (below_step bb hb); clear HO_6 HO_8 HO_9 HO_10 HO299 HB; obtain ⟨HO_6, HO_8, HO_9, HO_10, HO299, HO303, HB⟩ := t_; (try clear hb); (try clear ho0); obtain ⟨Ao93, co93, eo93⟩ := R_slice HO303.out; subst eo93) | ((with_reducible refine gate_callee (f := 24) rfl ?_); refine goesL_ (some 60) rfl rfl Try.func24 (by kernel_rfl) rfl #[.slice Ao21 t289.length co21, .slice Ao93 t301.length co93] rfl ms ?_; (with_reducible refine (laws_eqIntS.calls kj11 _ _ t289 _ _ t301 false _ ?side1 ?side2 ?side3 ?side4 A36.out).mono ?_); (case side1 => exact rc HO_9); (case side2 => exact (R_reads' HO_9.out).2.1); (case side3 => exact rc HO303); (case side4 => exact (R_reads' HO303.out).2.1); rintro e w' ⟨rfl, ⟨nd, rfl⟩⟩; refine ⟨_, rfl, ?_⟩))
        go_ret
        exact ⟨er, bb⟩
      ·replace c34 := Bool.eq_false_iff.mpr c34
       subst c34
       have H1 : (some false) = some r := by rw [if_neg (show ¬ (false = true) by decide)] at H; exact H
       clear H
       have H := H1
       clear H1
       obtain rfl := Option.some.inj H
       go_wp2_with (first | ((with_reducible refine gate_callee (f := 21) rfl ?_); refine goesL_ (some 54) rfl rfl Try.func21 (by kernel_rfl) rfl #[.slice A0 l0.length c0] rfl ms ?_; (with_reducible refine (laws_toNodeS.calls kj11 _ _ l0 t297 _ ?side1 ?side2 A32.out).mono ?_); (case side1 => exact kc); (case side2 => exact HC0.out); rintro e w94 ⟨v298, rfl, ho0, hb⟩; refine ⟨_, rfl, ?_⟩; have t_ := fc6 (R_below (ra HO_6.out) hb) (R_elder' (ra HO_8.out) (R_base ho0) hb) (R_below (ra HO_9.out) hb) (R_below (ra HO_10.out) hb) (R_lower (R_new' ho0 (R_lt (ra HO_8.out))) (below_size bb)) (below_step bb hb); clear HO_6 HO_8 HO_9 HO_10 HB; obtain ⟨HO_6, HO_8, HO_9, HO_10, HO299, HB⟩ := t_; (try clear hb); (try clear ho0); obtain ⟨Ao95, co95, eo95⟩ := R_slice HO299.out; subst eo95) | ((with_reducible refine gate_callee (f := 25) rfl ?_); refine goesL_ (some 55) rfl rfl Try.func25 (by kernel_rfl) rfl #[.slice Ao20 t286.length co20, .slice Ao95 t297.length co95] rfl ms ?_; (with_reducible refine (laws_eqNodeS.calls kj11 _ _ t286 _ _ t297 false _ ?side1 ?side2 ?side3 ?side4 A33.out).mono ?_); (case side1 => exact rc HO_8); (case side2 => exact (R_reads' HO_8.out).2.1); (case side3 => exact rc HO299); (case side4 => exact (R_reads' HO299.out).2.1); rintro e w96 ⟨rfl, hb⟩; refine ⟨_, rfl, ?_⟩; have t_ := fc6 (R_below (ra HO_6.out) hb) (R_below (ra HO_8.out) hb) (R_below (ra HO_9.out) hb) (R_below (ra HO_10.out) hb) (R_below (ra HO299.out) hb) (below_step bb hb); clear HO_6 HO_8 HO_9 HO_10 HO299 HB; obtain ⟨HO_6, HO_8, HO_9, HO_10, HO299, HB⟩ := t_; (try clear hb)))
       go_ret
       exact ⟨er, bb⟩

end Go.Proofs.Ytbbppknnkghkjaa.PFnExactAllocate
