/- Printed by a program of this session out of the translation: each Go function as a Lean function, with the proof that Go comes to just its answer (no condition beyond what each theorem says). (squeezed) -/
import Derived.Test.YtbbppknnkghkjaaPFnExactDownToIdx0
import Derived.Test.YtbbppknnkghkjaaPFnExactDownToIdx2
import Derived.Test.YtbbppknnkghkjaaPFnExactDownToIdx8
import Derived.Test.YtbbppknnkghkjaaPFnExactDownToIdx14
import Derived.Test.YtbbppknnkghkjaaPFnExactDownToIdx15
import Derived.Test.YtbbppknnkghkjaaPFnExactDownToIdx16
namespace Go.Proofs.Ytbbppknnkghkjaa.PFnExactDownToId
open Go.RowKit Go.Proofs.YtbbppknnkghkjaaW.PrintWords Go.Proofs.YtbbppknnkghkjaaW.PrintLast Go.Proofs.YtbbppknnkghkjaaW.PrintMore Go.Proofs.Ytbbppknnkghkjaa.Kit Go.Proofs.Ytbbppknnkghkjaa.Kit2
attribute [local go_sem] max2_int min2_int max_two min_two max_three min_three max_four min_four   -- for this text's walks alone
set_option linter.unusedVariables false
set_option linter.unusedSimpArgs false

/-! ### laws_FnExactDownToId: function 3 -/
def laws_FnExactDownToId.j0 : Nat → List (S83) → Int → List Int → List Int → Bool → List Int → List Int → List Int → Option (Bool)
 | 0, _, _, _, _, _, _, _, _ => none
 | k + 1, x0, x2, x8, x11, x67, x411000, x411001, x411002 => if x67 = true then (some false) else ((laws_markIntS.f k x11 1).bind fun bt466 => ((laws_heldIntS.f k bt466.2 1).bind fun t468 => (if t468 < 0 then (some false) else (if t468 = bt466.1 then ((laws_toNodeS.f k x0).bind fun t469 => ((laws_toNumbers.f k x411000 x411001 x411002).bind fun bt472 => ((impl_DownToId.f k t469 bt472.1 bt472.2.1 bt472.2.2 x2).bind fun t481 => ((laws_eqIntS.f k t481 x8).bind fun t484 => (if t484 = true then ((laws_heldIntS.f k bt466.2 1).bind fun t485 => (if t485 < 0 then (some false) else (if t485 = bt466.1 then (some true) else (some false)))) else (some false)))))) else (some false)))))
def laws_FnExactDownToId.f (k : Nat) (l0 : List (S83)) (l1_0 : List Int) (l1_1 : List Int) (l1_2 : List Int) (a2 : Int) : Option (Bool) := (laws_szNodeS.f l0 1048576).bind fun t411 => (if t411 < 0 then (some true) else ((laws_szNumbers.f l1_0 l1_1 l1_2 t411).bind fun t412 => (if t412 < 0 then (some true) else ((laws_toNodeS.f k l0).bind fun t413 => ((laws_toNumbers.f k l1_0 l1_1 l1_2).bind fun bt416 => ((spec_DownToId.f k t413 bt416.1 bt416.2.1 bt416.2.2 a2).bind fun t425 => ((laws_toNodeS.f k l0).bind fun t428 => ((laws_toNumbers.f k l1_0 l1_1 l1_2).bind fun bt431 => ((impl_DownToId.f k t428 bt431.1 bt431.2.1 bt431.2.2 a2).bind fun t441 => ((laws_eqIntS.f k t441 t425).bind fun t444 => (if t444 = true then ((laws_toNodeS.f k l0).bind fun t445 => ((laws_eqNodeS.f k t428 t445).bind fun t448 => (if t448 = true then ((laws_toNumbers.f k l1_0 l1_1 l1_2).bind fun bt449 => ((laws_eqNumbers.f k bt431.1 bt431.2.1 bt431.2.2 bt449.1 bt449.2.1 bt449.2.2).bind fun t458 => (if t458 = true then ((laws_markNodeS.f k t428 1).bind fun bt459 => ((laws_markNumbers.f k bt431.1 bt431.2.1 bt431.2.2 bt459.1).bind fun bt461 => (if bt461.1 < 0 then (laws_FnExactDownToId.j0 k l0 a2 t425 t441 true l1_0 l1_1 l1_2) else ((laws_eqIntS.f k t441 t425).bind fun t465 => (laws_FnExactDownToId.j0 k l0 a2 t425 t441 (!t465) l1_0 l1_1 l1_2))))) else (some false)))) else (some false)))) else (some false))))))))))))
theorem laws_FnExactDownToId.no_ {r : Bool} (h : some false = some r) (ht : r = true) : False := Bool.false_ne_true ((Option.some.inj h).trans ht)
theorem laws_FnExactDownToId.j0_t {k : Nat} {x0 : _} {x2 : _} {x8 : _} {x11 : _} {x411000 : _} {x411001 : _} {x411002 : _} {r : Bool} (h : laws_FnExactDownToId.j0 k x0 x2 x8 x11 true x411000 x411001 x411002 = some r) (ht : r = true) : False := by
 cases k with
 | zero => simp only [laws_FnExactDownToId.j0] at h; cases h
 | succ k => simp only [laws_FnExactDownToId.j0, if_true] at h; exact Bool.false_ne_true ((Option.some.inj h).trans ht)
set_option maxHeartbeats 8000000 in
set_option maxRecDepth 100000 in
theorem laws_FnExactDownToId.calls (k : Nat) (A0 : Option Addr) (c0 : Nat) (l0 : List (S83)) (A1_0 : Option Addr) (c1_0 : Nat) (l1_0 : List Int) (A1_1 : Option Addr) (c1_1 : Nat) (l1_1 : List Int) (A1_2 : Option Addr) (c1_2 : Nat) (l1_2 : List Int) (a2 : Int) (r : Bool) (w : World) (hr0 : Kd.C k83 w A0 l0.length l0) (hc0 : l0.length ≤ c0) (hr1_0 : Kd.C (Kd.int .i64) w A1_0 l1_0.length l1_0) (hc1_0 : l1_0.length ≤ c1_0) (hr1_1 : Kd.C (Kd.int .i64) w A1_1 l1_1.length l1_1) (hc1_1 : l1_1.length ≤ c1_1) (hr1_2 : Kd.C (Kd.int .i64) w A1_2 l1_2.length l1_2) (hc1_2 : l1_2.length ≤ c1_2) (h : laws_FnExactDownToId.f k l0 l1_0 l1_1 l1_2 a2 = some r) (hrT_ : r = true := by rfl) :
  Calls Try.prog 3 #[.slice A0 l0.length c0, .agg #[.slice A1_0 l1_0.length c1_0, .slice A1_1 l1_1.length c1_1, .slice A1_2 l1_2.length c1_2], .int .i64 a2] w fun e w' => e = .returned (.bool r) ∧ Below w.heap.size w w' := by
 have hu25 := Try.underlying25
 have hu31 := Try.underlying31
 have HR0 := Aside0.mk hr0
 have HC0 := Aside0.mk hc0
 clear hr0 hc0
 have HR1_0 := Aside0.mk hr1_0
 have HC1_0 := Aside0.mk hc1_0
 clear hr1_0 hc1_0
 have HR1_1 := Aside0.mk hr1_1
 have HC1_1 := Aside0.mk hc1_1
 clear hr1_1 hc1_1
 have HR1_2 := Aside0.mk hr1_2
 have HC1_2 := Aside0.mk hc1_2
 clear hr1_2 hc1_2
 have HB := Aside0.mk (Below.refl w.heap.size w)
 have H : ((laws_szNodeS.f l0 1048576).bind fun t411 => (if t411 < 0 then (some true) else ((laws_szNumbers.f l1_0 l1_1 l1_2 t411).bind fun t412 => (if t412 < 0 then (some true) else ((laws_toNodeS.f k l0).bind fun t413 => ((laws_toNumbers.f k l1_0 l1_1 l1_2).bind fun bt416 => ((spec_DownToId.f k t413 bt416.1 bt416.2.1 bt416.2.2 a2).bind fun t425 => ((laws_toNodeS.f k l0).bind fun t428 => ((laws_toNumbers.f k l1_0 l1_1 l1_2).bind fun bt431 => ((impl_DownToId.f k t428 bt431.1 bt431.2.1 bt431.2.2 a2).bind fun t441 => ((laws_eqIntS.f k t441 t425).bind fun t444 => (if t444 = true then ((laws_toNodeS.f k l0).bind fun t445 => ((laws_eqNodeS.f k t428 t445).bind fun t448 => (if t448 = true then ((laws_toNumbers.f k l1_0 l1_1 l1_2).bind fun bt449 => ((laws_eqNumbers.f k bt431.1 bt431.2.1 bt431.2.2 bt449.1 bt449.2.1 bt449.2.2).bind fun t458 => (if t458 = true then ((laws_markNodeS.f k t428 1).bind fun bt459 => ((laws_markNumbers.f k bt431.1 bt431.2.1 bt431.2.2 bt459.1).bind fun bt461 => (if bt461.1 < 0 then (laws_FnExactDownToId.j0 k l0 a2 t425 t441 true l1_0 l1_1 l1_2) else ((laws_eqIntS.f k t441 t425).bind fun t465 => (laws_FnExactDownToId.j0 k l0 a2 t425 t441 (!t465) l1_0 l1_1 l1_2))))) else (some false)))) else (some false)))) else (some false))))))))))))) = some r := h
 clear h
 replace H := Option.bind_eq_some_iff.mp H
 obtain ⟨t411, A40, H⟩ := H
 replace H : (if t411 < 0 then (some true) else ((laws_szNumbers.f l1_0 l1_1 l1_2 t411).bind fun t412 => (if t412 < 0 then (some true) else ((laws_toNodeS.f k l0).bind fun t413 => ((laws_toNumbers.f k l1_0 l1_1 l1_2).bind fun bt416 => ((spec_DownToId.f k t413 bt416.1 bt416.2.1 bt416.2.2 a2).bind fun t425 => ((laws_toNodeS.f k l0).bind fun t428 => ((laws_toNumbers.f k l1_0 l1_1 l1_2).bind fun bt431 => ((impl_DownToId.f k t428 bt431.1 bt431.2.1 bt431.2.2 a2).bind fun t441 => ((laws_eqIntS.f k t441 t425).bind fun t444 => (if t444 = true then ((laws_toNodeS.f k l0).bind fun t445 => ((laws_eqNodeS.f k t428 t445).bind fun t448 => (if t448 = true then ((laws_toNumbers.f k l1_0 l1_1 l1_2).bind fun bt449 => ((laws_eqNumbers.f k bt431.1 bt431.2.1 bt431.2.2 bt449.1 bt449.2.1 bt449.2.2).bind fun t458 => (if t458 = true then ((laws_markNodeS.f k t428 1).bind fun bt459 => ((laws_markNumbers.f k bt431.1 bt431.2.1 bt431.2.2 bt459.1).bind fun bt461 => (if bt461.1 < 0 then (laws_FnExactDownToId.j0 k l0 a2 t425 t441 true l1_0 l1_1 l1_2) else ((laws_eqIntS.f k t441 t425).bind fun t465 => (laws_FnExactDownToId.j0 k l0 a2 t425 t441 (!t465) l1_0 l1_1 l1_2))))) else (some false)))) else (some false)))) else (some false)))))))))))) = some r := H
 have A4 := Aside0.mk A40
 clear A40
 by_cases c5 : t411 < 0
 ·rw [if_pos c5] at H
  have c5b0 : decide (t411 < 0) = true := decide_eq_true c5
  clear c5
  obtain rfl := Option.some.inj H
  go_enter Try.func3, Try.ntmps3
  go_wp2_with (first | ((with_reducible refine gate_dst (N := 4) rfl ?_); refine box_event ?hg (N := 4) ?hd (cs := #[.slice A1_0 l1_0.length c1_0, .slice A1_1 l1_1.length c1_1, .slice A1_2 l1_2.length c1_2]) (t := 25) ?hr ?_; (case hd => rfl); (case hg => rfl); (case hr => first | (go_simp; done) | (go_simp; rfl)); intro gb410 hg w6 hbox hb; have t_ := fc4 (below_step bb hb) (hbox) (bg hg : w.heap.size ≤ gb410) (bg hg : w.heap.size ≤ gb410); clear HB; obtain ⟨HB, BK410, GW410, GE410⟩ := t_; clear hb hbox hg) | ((with_reducible refine gate_callee (f := 18) rfl ?_); refine goesL_ (some 18) rfl rfl Try.func18 (by kernel_rfl) rfl #[.slice A0 l0.length c0, .int .i64 1048576] rfl ms ?_; (with_reducible refine (laws_szNodeS.calls _ _ l0 1048576 t411 _ ?side1 ?side2 A4.out).mono ?_); (case side1 => exact kc); (case side2 => exact HC0.out); rintro e w' ⟨rfl, ⟨nd, rfl⟩⟩; refine ⟨_, rfl, ?_⟩))
  go_ret
  exact ⟨er, bb⟩
 ·rw [if_neg c5] at H
  have c5b0 : decide (t411 < 0) = false := decide_eq_false c5
  clear c5
  replace H := Option.bind_eq_some_iff.mp H
  obtain ⟨t412, A70, H⟩ := H
  replace H : (if t412 < 0 then (some true) else ((laws_toNodeS.f k l0).bind fun t413 => ((laws_toNumbers.f k l1_0 l1_1 l1_2).bind fun bt416 => ((spec_DownToId.f k t413 bt416.1 bt416.2.1 bt416.2.2 a2).bind fun t425 => ((laws_toNodeS.f k l0).bind fun t428 => ((laws_toNumbers.f k l1_0 l1_1 l1_2).bind fun bt431 => ((impl_DownToId.f k t428 bt431.1 bt431.2.1 bt431.2.2 a2).bind fun t441 => ((laws_eqIntS.f k t441 t425).bind fun t444 => (if t444 = true then ((laws_toNodeS.f k l0).bind fun t445 => ((laws_eqNodeS.f k t428 t445).bind fun t448 => (if t448 = true then ((laws_toNumbers.f k l1_0 l1_1 l1_2).bind fun bt449 => ((laws_eqNumbers.f k bt431.1 bt431.2.1 bt431.2.2 bt449.1 bt449.2.1 bt449.2.2).bind fun t458 => (if t458 = true then ((laws_markNodeS.f k t428 1).bind fun bt459 => ((laws_markNumbers.f k bt431.1 bt431.2.1 bt431.2.2 bt459.1).bind fun bt461 => (if bt461.1 < 0 then (laws_FnExactDownToId.j0 k l0 a2 t425 t441 true l1_0 l1_1 l1_2) else ((laws_eqIntS.f k t441 t425).bind fun t465 => (laws_FnExactDownToId.j0 k l0 a2 t425 t441 (!t465) l1_0 l1_1 l1_2))))) else (some false)))) else (some false)))) else (some false)))))))))) = some r := H
  have A7 := Aside0.mk A70
  clear A70
  by_cases c8 : t412 < 0
  ·rw [if_pos c8] at H
   have c8b0 : decide (t412 < 0) = true := decide_eq_true c8
   clear c8
   obtain rfl := Option.some.inj H
   go_enter Try.func3, Try.ntmps3
   go_wp2_with (first | ((with_reducible refine gate_dst (N := 4) rfl ?_); refine box_event ?hg (N := 4) ?hd (cs := #[.slice A1_0 l1_0.length c1_0, .slice A1_1 l1_1.length c1_1, .slice A1_2 l1_2.length c1_2]) (t := 25) ?hr ?_; (case hd => rfl); (case hg => rfl); (case hr => first | (go_simp; done) | (go_simp; rfl)); intro gb410 hg w9 hbox hb; have t_ := fc4 (below_step bb hb) (hbox) (bg hg : w.heap.size ≤ gb410) (bg hg : w.heap.size ≤ gb410); clear HB; obtain ⟨HB, BK410, GW410, GE410⟩ := t_; clear hb hbox hg) | ((with_reducible refine gate_callee (f := 18) rfl ?_); refine goesL_ (some 18) rfl rfl Try.func18 (by kernel_rfl) rfl #[.slice A0 l0.length c0, .int .i64 1048576] rfl ms ?_; (with_reducible refine (laws_szNodeS.calls _ _ l0 1048576 t411 _ ?side1 ?side2 A4.out).mono ?_); (case side1 => exact kc); (case side2 => exact HC0.out); rintro e w' ⟨rfl, ⟨nd, rfl⟩⟩; refine ⟨_, rfl, ?_⟩; obtain ⟨hcz10_0, hcz10_1, hcz10_2, hfz10_0, hfz10_1, hfz10_2⟩ := bx3 BK410.out) | ((with_reducible refine gate_callee (f := 19) rfl ?_); refine goesL_ (some 23) rfl rfl Try.func19 (by kernel_rfl) rfl #[.agg #[.slice A1_0 l1_0.length c1_0, .slice A1_1 l1_1.length c1_1, .slice A1_2 l1_2.length c1_2], .int .i64 t411] rfl ms ?_; (with_reducible refine (laws_szNumbers.calls _ _ l1_0 _ _ l1_1 _ _ l1_2 t411 t412 _ ?side1 ?side2 ?side3 ?side4 ?side5 ?side6 A7.out).mono ?_); (case side1 => exact kc); (case side2 => exact HC1_0.out); (case side3 => exact kc); (case side4 => exact HC1_1.out); (case side5 => exact kc); (case side6 => exact HC1_2.out); rintro e w11 ⟨rfl, hb⟩; refine ⟨_, rfl, ?_⟩; have t_ := fc2 (bw BK410 hb) (below_step bb hb); clear BK410 HB; obtain ⟨BK410, HB⟩ := t_; (try clear hb); (try clear hk)))
   go_ret
   exact ⟨er, bb⟩
  ·rw [if_neg c8] at H
   have c8b0 : decide (t412 < 0) = false := decide_eq_false c8
   clear c8
   replace H := Option.bind_eq_some_iff.mp H
   obtain ⟨t413, A120, H⟩ := H
   replace H : ((laws_toNumbers.f k l1_0 l1_1 l1_2).bind fun bt416 => ((spec_DownToId.f k t413 bt416.1 bt416.2.1 bt416.2.2 a2).bind fun t425 => ((laws_toNodeS.f k l0).bind fun t428 => ((laws_toNumbers.f k l1_0 l1_1 l1_2).bind fun bt431 => ((impl_DownToId.f k t428 bt431.1 bt431.2.1 bt431.2.2 a2).bind fun t441 => ((laws_eqIntS.f k t441 t425).bind fun t444 => (if t444 = true then ((laws_toNodeS.f k l0).bind fun t445 => ((laws_eqNodeS.f k t428 t445).bind fun t448 => (if t448 = true then ((laws_toNumbers.f k l1_0 l1_1 l1_2).bind fun bt449 => ((laws_eqNumbers.f k bt431.1 bt431.2.1 bt431.2.2 bt449.1 bt449.2.1 bt449.2.2).bind fun t458 => (if t458 = true then ((laws_markNodeS.f k t428 1).bind fun bt459 => ((laws_markNumbers.f k bt431.1 bt431.2.1 bt431.2.2 bt459.1).bind fun bt461 => (if bt461.1 < 0 then (laws_FnExactDownToId.j0 k l0 a2 t425 t441 true l1_0 l1_1 l1_2) else ((laws_eqIntS.f k t441 t425).bind fun t465 => (laws_FnExactDownToId.j0 k l0 a2 t425 t441 (!t465) l1_0 l1_1 l1_2))))) else (some false)))) else (some false)))) else (some false)))))))) = some r := H
   have A12 := Aside0.mk A120
   clear A120
   replace H := Option.bind_eq_some_iff.mp H
   obtain ⟨⟨t416, t419, t422⟩, A130, H⟩ := H
   replace H : ((spec_DownToId.f k t413 t416 t419 t422 a2).bind fun t425 => ((laws_toNodeS.f k l0).bind fun t428 => ((laws_toNumbers.f k l1_0 l1_1 l1_2).bind fun bt431 => ((impl_DownToId.f k t428 bt431.1 bt431.2.1 bt431.2.2 a2).bind fun t441 => ((laws_eqIntS.f k t441 t425).bind fun t444 => (if t444 = true then ((laws_toNodeS.f k l0).bind fun t445 => ((laws_eqNodeS.f k t428 t445).bind fun t448 => (if t448 = true then ((laws_toNumbers.f k l1_0 l1_1 l1_2).bind fun bt449 => ((laws_eqNumbers.f k bt431.1 bt431.2.1 bt431.2.2 bt449.1 bt449.2.1 bt449.2.2).bind fun t458 => (if t458 = true then ((laws_markNodeS.f k t428 1).bind fun bt459 => ((laws_markNumbers.f k bt431.1 bt431.2.1 bt431.2.2 bt459.1).bind fun bt461 => (if bt461.1 < 0 then (laws_FnExactDownToId.j0 k l0 a2 t425 t441 true l1_0 l1_1 l1_2) else ((laws_eqIntS.f k t441 t425).bind fun t465 => (laws_FnExactDownToId.j0 k l0 a2 t425 t441 (!t465) l1_0 l1_1 l1_2))))) else (some false)))) else (some false)))) else (some false))))))) = some r := H
   have A13 := Aside0.mk A130
   clear A130
   replace H := Option.bind_eq_some_iff.mp H
   obtain ⟨t425, A140, H⟩ := H
   replace H : ((laws_toNodeS.f k l0).bind fun t428 => ((laws_toNumbers.f k l1_0 l1_1 l1_2).bind fun bt431 => ((impl_DownToId.f k t428 bt431.1 bt431.2.1 bt431.2.2 a2).bind fun t441 => ((laws_eqIntS.f k t441 t425).bind fun t444 => (if t444 = true then ((laws_toNodeS.f k l0).bind fun t445 => ((laws_eqNodeS.f k t428 t445).bind fun t448 => (if t448 = true then ((laws_toNumbers.f k l1_0 l1_1 l1_2).bind fun bt449 => ((laws_eqNumbers.f k bt431.1 bt431.2.1 bt431.2.2 bt449.1 bt449.2.1 bt449.2.2).bind fun t458 => (if t458 = true then ((laws_markNodeS.f k t428 1).bind fun bt459 => ((laws_markNumbers.f k bt431.1 bt431.2.1 bt431.2.2 bt459.1).bind fun bt461 => (if bt461.1 < 0 then (laws_FnExactDownToId.j0 k l0 a2 t425 t441 true l1_0 l1_1 l1_2) else ((laws_eqIntS.f k t441 t425).bind fun t465 => (laws_FnExactDownToId.j0 k l0 a2 t425 t441 (!t465) l1_0 l1_1 l1_2))))) else (some false)))) else (some false)))) else (some false)))))) = some r := H
   have A14 := Aside0.mk A140
   clear A140
   replace H := Option.bind_eq_some_iff.mp H
   obtain ⟨t428, A150, H⟩ := H
   replace H : ((laws_toNumbers.f k l1_0 l1_1 l1_2).bind fun bt431 => ((impl_DownToId.f k t428 bt431.1 bt431.2.1 bt431.2.2 a2).bind fun t441 => ((laws_eqIntS.f k t441 t425).bind fun t444 => (if t444 = true then ((laws_toNodeS.f k l0).bind fun t445 => ((laws_eqNodeS.f k t428 t445).bind fun t448 => (if t448 = true then ((laws_toNumbers.f k l1_0 l1_1 l1_2).bind fun bt449 => ((laws_eqNumbers.f k bt431.1 bt431.2.1 bt431.2.2 bt449.1 bt449.2.1 bt449.2.2).bind fun t458 => (if t458 = true then ((laws_markNodeS.f k t428 1).bind fun bt459 => ((laws_markNumbers.f k bt431.1 bt431.2.1 bt431.2.2 bt459.1).bind fun bt461 => (if bt461.1 < 0 then (laws_FnExactDownToId.j0 k l0 a2 t425 t441 true l1_0 l1_1 l1_2) else ((laws_eqIntS.f k t441 t425).bind fun t465 => (laws_FnExactDownToId.j0 k l0 a2 t425 t441 (!t465) l1_0 l1_1 l1_2))))) else (some false)))) else (some false)))) else (some false))))) = some r := H
   have A15 := Aside0.mk A150
   clear A150
   replace H := Option.bind_eq_some_iff.mp H
   obtain ⟨⟨t431, t434, t437⟩, A160, H⟩ := H
   replace H : ((impl_DownToId.f k t428 t431 t434 t437 a2).bind fun t441 => ((laws_eqIntS.f k t441 t425).bind fun t444 => (if t444 = true then ((laws_toNodeS.f k l0).bind fun t445 => ((laws_eqNodeS.f k t428 t445).bind fun t448 => (if t448 = true then ((laws_toNumbers.f k l1_0 l1_1 l1_2).bind fun bt449 => ((laws_eqNumbers.f k t431 t434 t437 bt449.1 bt449.2.1 bt449.2.2).bind fun t458 => (if t458 = true then ((laws_markNodeS.f k t428 1).bind fun bt459 => ((laws_markNumbers.f k t431 t434 t437 bt459.1).bind fun bt461 => (if bt461.1 < 0 then (laws_FnExactDownToId.j0 k l0 a2 t425 t441 true l1_0 l1_1 l1_2) else ((laws_eqIntS.f k t441 t425).bind fun t465 => (laws_FnExactDownToId.j0 k l0 a2 t425 t441 (!t465) l1_0 l1_1 l1_2))))) else (some false)))) else (some false)))) else (some false)))) = some r := H
   have A16 := Aside0.mk A160
   clear A160
   replace H := Option.bind_eq_some_iff.mp H
   obtain ⟨t441, A170, H⟩ := H
   replace H : ((laws_eqIntS.f k t441 t425).bind fun t444 => (if t444 = true then ((laws_toNodeS.f k l0).bind fun t445 => ((laws_eqNodeS.f k t428 t445).bind fun t448 => (if t448 = true then ((laws_toNumbers.f k l1_0 l1_1 l1_2).bind fun bt449 => ((laws_eqNumbers.f k t431 t434 t437 bt449.1 bt449.2.1 bt449.2.2).bind fun t458 => (if t458 = true then ((laws_markNodeS.f k t428 1).bind fun bt459 => ((laws_markNumbers.f k t431 t434 t437 bt459.1).bind fun bt461 => (if bt461.1 < 0 then (laws_FnExactDownToId.j0 k l0 a2 t425 t441 true l1_0 l1_1 l1_2) else ((laws_eqIntS.f k t441 t425).bind fun t465 => (laws_FnExactDownToId.j0 k l0 a2 t425 t441 (!t465) l1_0 l1_1 l1_2))))) else (some false)))) else (some false)))) else (some false))) = some r := H
   have A17 := Aside0.mk A170
   clear A170
   replace H := Option.bind_eq_some_iff.mp H
   obtain ⟨t444, A180, H⟩ := H
   replace H : (if t444 = true then ((laws_toNodeS.f k l0).bind fun t445 => ((laws_eqNodeS.f k t428 t445).bind fun t448 => (if t448 = true then ((laws_toNumbers.f k l1_0 l1_1 l1_2).bind fun bt449 => ((laws_eqNumbers.f k t431 t434 t437 bt449.1 bt449.2.1 bt449.2.2).bind fun t458 => (if t458 = true then ((laws_markNodeS.f k t428 1).bind fun bt459 => ((laws_markNumbers.f k t431 t434 t437 bt459.1).bind fun bt461 => (if bt461.1 < 0 then (laws_FnExactDownToId.j0 k l0 a2 t425 t441 true l1_0 l1_1 l1_2) else ((laws_eqIntS.f k t441 t425).bind fun t465 => (laws_FnExactDownToId.j0 k l0 a2 t425 t441 (!t465) l1_0 l1_1 l1_2))))) else (some false)))) else (some false)))) else (some false)) = some r := H
   have A18 := Aside0.mk A180
   clear A180
   by_cases c19 : t444 = true
   ·subst c19
    have H1 : ((laws_toNodeS.f k l0).bind fun t445 => ((laws_eqNodeS.f k t428 t445).bind fun t448 => (if t448 = true then ((laws_toNumbers.f k l1_0 l1_1 l1_2).bind fun bt449 => ((laws_eqNumbers.f k t431 t434 t437 bt449.1 bt449.2.1 bt449.2.2).bind fun t458 => (if t458 = true then ((laws_markNodeS.f k t428 1).bind fun bt459 => ((laws_markNumbers.f k t431 t434 t437 bt459.1).bind fun bt461 => (if bt461.1 < 0 then (laws_FnExactDownToId.j0 k l0 a2 t425 t441 true l1_0 l1_1 l1_2) else ((laws_eqIntS.f k t441 t425).bind fun t465 => (laws_FnExactDownToId.j0 k l0 a2 t425 t441 (!t465) l1_0 l1_1 l1_2))))) else (some false)))) else (some false)))) = some r := by rw [if_pos rfl] at H; exact H
    clear H
    have H := H1
    clear H1
    replace H := Option.bind_eq_some_iff.mp H
    obtain ⟨t445, A200, H⟩ := H
    replace H : ((laws_eqNodeS.f k t428 t445).bind fun t448 => (if t448 = true then ((laws_toNumbers.f k l1_0 l1_1 l1_2).bind fun bt449 => ((laws_eqNumbers.f k t431 t434 t437 bt449.1 bt449.2.1 bt449.2.2).bind fun t458 => (if t458 = true then ((laws_markNodeS.f k t428 1).bind fun bt459 => ((laws_markNumbers.f k t431 t434 t437 bt459.1).bind fun bt461 => (if bt461.1 < 0 then (laws_FnExactDownToId.j0 k l0 a2 t425 t441 true l1_0 l1_1 l1_2) else ((laws_eqIntS.f k t441 t425).bind fun t465 => (laws_FnExactDownToId.j0 k l0 a2 t425 t441 (!t465) l1_0 l1_1 l1_2))))) else (some false)))) else (some false))) = some r := H
    have A20 := Aside0.mk A200
    clear A200
    replace H := Option.bind_eq_some_iff.mp H
    obtain ⟨t448, A210, H⟩ := H
    replace H : (if t448 = true then ((laws_toNumbers.f k l1_0 l1_1 l1_2).bind fun bt449 => ((laws_eqNumbers.f k t431 t434 t437 bt449.1 bt449.2.1 bt449.2.2).bind fun t458 => (if t458 = true then ((laws_markNodeS.f k t428 1).bind fun bt459 => ((laws_markNumbers.f k t431 t434 t437 bt459.1).bind fun bt461 => (if bt461.1 < 0 then (laws_FnExactDownToId.j0 k l0 a2 t425 t441 true l1_0 l1_1 l1_2) else ((laws_eqIntS.f k t441 t425).bind fun t465 => (laws_FnExactDownToId.j0 k l0 a2 t425 t441 (!t465) l1_0 l1_1 l1_2))))) else (some false)))) else (some false)) = some r := H
    have A21 := Aside0.mk A210
    clear A210
    by_cases c22 : t448 = true
    ·subst c22
     have H1 : ((laws_toNumbers.f k l1_0 l1_1 l1_2).bind fun bt449 => ((laws_eqNumbers.f k t431 t434 t437 bt449.1 bt449.2.1 bt449.2.2).bind fun t458 => (if t458 = true then ((laws_markNodeS.f k t428 1).bind fun bt459 => ((laws_markNumbers.f k t431 t434 t437 bt459.1).bind fun bt461 => (if bt461.1 < 0 then (laws_FnExactDownToId.j0 k l0 a2 t425 t441 true l1_0 l1_1 l1_2) else ((laws_eqIntS.f k t441 t425).bind fun t465 => (laws_FnExactDownToId.j0 k l0 a2 t425 t441 (!t465) l1_0 l1_1 l1_2))))) else (some false)))) = some r := by rw [if_pos rfl] at H; exact H
     clear H
     have H := H1
     clear H1
     replace H := Option.bind_eq_some_iff.mp H
     obtain ⟨⟨t449, t452, t455⟩, A230, H⟩ := H
     replace H : ((laws_eqNumbers.f k t431 t434 t437 t449 t452 t455).bind fun t458 => (if t458 = true then ((laws_markNodeS.f k t428 1).bind fun bt459 => ((laws_markNumbers.f k t431 t434 t437 bt459.1).bind fun bt461 => (if bt461.1 < 0 then (laws_FnExactDownToId.j0 k l0 a2 t425 t441 true l1_0 l1_1 l1_2) else ((laws_eqIntS.f k t441 t425).bind fun t465 => (laws_FnExactDownToId.j0 k l0 a2 t425 t441 (!t465) l1_0 l1_1 l1_2))))) else (some false))) = some r := H
     have A23 := Aside0.mk A230
     clear A230
     replace H := Option.bind_eq_some_iff.mp H
     obtain ⟨t458, A240, H⟩ := H
     replace H : (if t458 = true then ((laws_markNodeS.f k t428 1).bind fun bt459 => ((laws_markNumbers.f k t431 t434 t437 bt459.1).bind fun bt461 => (if bt461.1 < 0 then (laws_FnExactDownToId.j0 k l0 a2 t425 t441 true l1_0 l1_1 l1_2) else ((laws_eqIntS.f k t441 t425).bind fun t465 => (laws_FnExactDownToId.j0 k l0 a2 t425 t441 (!t465) l1_0 l1_1 l1_2))))) else (some false)) = some r := H
     have A24 := Aside0.mk A240
     clear A240
     by_cases c25 : t458 = true
     ·subst c25
      have H1 : ((laws_markNodeS.f k t428 1).bind fun bt459 => ((laws_markNumbers.f k t431 t434 t437 bt459.1).bind fun bt461 => (if bt461.1 < 0 then (laws_FnExactDownToId.j0 k l0 a2 t425 t441 true l1_0 l1_1 l1_2) else ((laws_eqIntS.f k t441 t425).bind fun t465 => (laws_FnExactDownToId.j0 k l0 a2 t425 t441 (!t465) l1_0 l1_1 l1_2))))) = some r := by rw [if_pos rfl] at H; exact H
      clear H
      have H := H1
      clear H1
      replace H := Option.bind_eq_some_iff.mp H
      obtain ⟨⟨t459, t460⟩, A260, H⟩ := H
      replace H : ((laws_markNumbers.f k t431 t434 t437 t459).bind fun bt461 => (if bt461.1 < 0 then (laws_FnExactDownToId.j0 k l0 a2 t425 t441 true l1_0 l1_1 l1_2) else ((laws_eqIntS.f k t441 t425).bind fun t465 => (laws_FnExactDownToId.j0 k l0 a2 t425 t441 (!t465) l1_0 l1_1 l1_2)))) = some r := H
      have A26 := Aside0.mk A260
      clear A260
      replace H := Option.bind_eq_some_iff.mp H
      obtain ⟨⟨t461, t462, t463, t464⟩, A270, H⟩ := H
      replace H : (if t461 < 0 then (laws_FnExactDownToId.j0 k l0 a2 t425 t441 true l1_0 l1_1 l1_2) else ((laws_eqIntS.f k t441 t425).bind fun t465 => (laws_FnExactDownToId.j0 k l0 a2 t425 t441 (!t465) l1_0 l1_1 l1_2))) = some r := H
      have A27 := Aside0.mk A270
      clear A270
      have HC28 := Aside0.mk H
      clear H
      go_enter Try.func3, Try.ntmps3
      try go_wp2_with (first | ((with_reducible refine gate_dst (N := 4) rfl ?_); refine box_event ?hg (N := 4) ?hd (cs := #[.slice A1_0 l1_0.length c1_0, .slice A1_1 l1_1.length c1_1, .slice A1_2 l1_2.length c1_2]) (t := 25) ?hr ?_; (case hd => rfl); (case hg => rfl); (case hr => first | (go_simp; done) | (go_simp; rfl)); intro gb410 hg w29 hbox hb; have t_ := fc4 (below_step bb hb) (hbox) (bg hg : w.heap.size ≤ gb410) (bg hg : w.heap.size ≤ gb410); clear HB; obtain ⟨HB, BK410, GW410, GE410⟩ := t_; clear hb hbox hg) | ((with_reducible refine gate_callee (f := 18) rfl ?_); refine goesL_ (some 18) rfl rfl Try.func18 (by kernel_rfl) rfl #[.slice A0 l0.length c0, .int .i64 1048576] rfl ms ?_; (with_reducible refine (laws_szNodeS.calls _ _ l0 1048576 t411 _ ?side1 ?side2 A4.out).mono ?_); (case side1 => exact kc); (case side2 => exact HC0.out); rintro e w' ⟨rfl, ⟨nd, rfl⟩⟩; refine ⟨_, rfl, ?_⟩; (try (rw [drewN_self w29]; generalize hq_ : World.drewN w29 _ = w29; have n0_ : Aside0 (w29.heap[gb410]? = some (.cells #[.slice A1_0 l1_0.length c1_0, .slice A1_1 l1_1.length c1_1, .slice A1_2 l1_2.length c1_2] 25 (0, 0))) := ⟨by rw [← hq_]; exact bk⟩; have n1_ : Aside0 (Below w.heap.size w w29) := ⟨by rw [← hq_]; exact bb⟩; clear BK410 HB hq_; have BK410 := n0_; have HB := n1_; clear n0_ n1_)); obtain ⟨hcz30_0, hcz30_1, hcz30_2, hfz30_0, hfz30_1, hfz30_2⟩ := bx3 BK410.out) | ((with_reducible refine gate_callee (f := 19) rfl ?_); refine goesL_ (some 23) rfl rfl Try.func19 (by kernel_rfl) rfl #[.agg #[.slice A1_0 l1_0.length c1_0, .slice A1_1 l1_1.length c1_1, .slice A1_2 l1_2.length c1_2], .int .i64 t411] rfl ms ?_; (with_reducible refine (laws_szNumbers.calls _ _ l1_0 _ _ l1_1 _ _ l1_2 t411 t412 _ ?side1 ?side2 ?side3 ?side4 ?side5 ?side6 A7.out).mono ?_); (case side1 => exact kc); (case side2 => exact HC1_0.out); (case side3 => exact kc); (case side4 => exact HC1_1.out); (case side5 => exact kc); (case side6 => exact HC1_2.out); rintro e w31 ⟨rfl, hb⟩; refine ⟨_, rfl, ?_⟩; have t_ := fc2 (bw BK410 hb) (below_step bb hb); clear BK410 HB; obtain ⟨BK410, HB⟩ := t_; (try clear hb); (try clear hk)))
      have t_ := fc2 (blk_drew BK410.out) (below_drew1 HB.out)
      clear BK410 HB
      obtain ⟨BK410, HB⟩ := t_
      refine start_ (n := 7) (S := fun w' => w'.cell? ⟨gb410, 0, none⟩ = some (.slice A1_0 l1_0.length c1_0) ∧ w'.cell? ⟨gb410, 1, none⟩ = some (.slice A1_1 l1_1.length c1_1) ∧ w'.cell? ⟨gb410, 2, none⟩ = some (.slice A1_2 l1_2.length c1_2)) (ds := []) #[false, false, false, false, false, false, false] (by kernel_rfl) rfl rfl ⟨(blk_cell BK410.out 0).trans rfl, (blk_cell BK410.out 1).trans rfl, (blk_cell BK410.out 2).trans rfl⟩ (fun hHeld => ?_)
      generalize w31.drew = w32 at BK410 HB hHeld ⊢
      refine pure_ (i := 0) (N := some 26) (v := ?_) (a' := ?_) #[true, false, false, false, false, false, false] rfl rfl (by kernel_rfl) (fun _ _ _ h => h) (Or.inl ⟨by rfl, ?_⟩) ?_ ?_
      rotate_left
      ·intro w'
       go_simp
       with_reducible rfl
      rotate_left
      ·simp only [Act.put, List.setIfInBounds_toArray, List.set_cons_zero, List.set_cons_succ, i64_w, i32_w]
       rfl
      refine pure_ (i := 4) (N := some 30) (v := ?_) (a' := ?_) #[true, false, false, false, true, false, false] rfl rfl (by kernel_rfl) (fun _ _ _ h => h) (Or.inl ⟨by rfl, ?_⟩) ?_ ?_
      rotate_left
      ·intro w'
       go_simp
       with_reducible rfl
      rotate_left
      ·simp only [Act.put, List.setIfInBounds_toArray, List.set_cons_zero, List.set_cons_succ, i64_w, i32_w]
       rfl
      refine take_ (i := 2) (N := some 28) (v := ?_) (a' := ?_) #[true, false, true, false, true, false, false] rfl rfl (by kernel_rfl) (fun _ _ _ h => h) (Or.inl ⟨by rfl, ?_⟩) hHeld ?_ ?_
      rotate_left
      ·rintro w' ⟨s0, s1, s2⟩
       go_simp
       with_reducible rfl
      rotate_left
      ·simp only [Act.put, List.setIfInBounds_toArray, List.set_cons_zero, List.set_cons_succ, i64_w, i32_w]
       rfl
      refine one_ (i := 1) (N := some 27) #[true, true, true, false, true, false, false] rfl rfl (by kernel_rfl) (by decide) (fun K hK => ?_)
      refine goes_ Try.func21 (by kernel_rfl) rfl #[.slice A0 l0.length c0] (by rfl) rfl rfl ms ?_
      with_reducible refine (laws_toNodeS.calls k _ _ l0 t413 _ ?side1 ?side2 A12.out).mono ?_
      (case side1 => exact kc)
      (case side2 => exact HC0.out)
      rintro e w33 ⟨v414, rfl, ho0, hb⟩
      refine ⟨_, rfl, ?_⟩
      have t_ := fc3 (Kd.R_lower ho0 (below_size bb)) (bw BK410 hb) (below_step bb hb)
      clear BK410 HB
      obtain ⟨HO415, BK410, HB⟩ := t_
      (try clear hb)
      (try clear hb2)
      (try clear hk)
      (try clear hi)
      (try clear ho0)
      refine hK.out _ _ ⟨(blk_cell BK410.out 0).trans rfl, (blk_cell BK410.out 1).trans rfl, (blk_cell BK410.out 2).trans rfl⟩ (fun hHeld => ?_)
      clear hK K
      refine norm_ (a' := ?_) ?_ ?_
      rotate_left
      ·show Act.put _ (some 27) _ = _
       simp only [Act.put, List.setIfInBounds_toArray, List.set_cons_zero, List.set_cons_succ, i64_w, i32_w]
       rfl
      refine one_ (i := 3) (N := some 29) #[true, true, true, true, true, false, false] rfl rfl (by kernel_rfl) (by decide) (fun K hK => ?_)
      refine goes_ Try.func22 (by kernel_rfl) rfl #[.agg #[.slice A1_0 l1_0.length c1_0, .slice A1_1 l1_1.length c1_1, .slice A1_2 l1_2.length c1_2]] (by rfl) rfl rfl ms ?_
      with_reducible refine (laws_toNumbers.calls k _ _ l1_0 _ _ l1_1 _ _ l1_2 t416 t419 t422 _ ?side1 ?side2 ?side3 ?side4 ?side5 ?side6 A13.out).mono ?_
      (case side1 => exact kc)
      (case side2 => exact HC1_0.out)
      (case side3 => exact kc)
      (case side4 => exact HC1_1.out)
      (case side5 => exact kc)
      (case side6 => exact HC1_2.out)
      rintro e w34 ⟨v417, v420, v423, rfl, ho0, ho1, ho2, hb⟩
      refine ⟨_, rfl, ?_⟩
      have t_ := fc6 (Kd.R_below (ra HO415.out) hb) (Kd.R_lower ho0 (below_size bb)) (Kd.R_lower ho1 (below_size bb)) (Kd.R_lower ho2 (below_size bb)) (bw BK410 hb) (below_step bb hb)
      clear HO415 BK410 HB
      obtain ⟨HO415, HO418, HO421, HO424, BK410, HB⟩ := t_
      (try clear hb)
      (try clear hb2)
      (try clear hk)
      (try clear hi)
      (try clear ho0)
      (try clear ho1)
      (try clear ho2)
      obtain ⟨Ao35, co35, eo35⟩ := Kd.R_slice HO415.out
      (first | subst eo35 | (injection eo35 with f1_ f2_ f3_; have f4_ := f1_.symm; have f5_ := f3_.symm; clear f1_ f2_ f3_; subst f4_; subst f5_))
      obtain ⟨Ao36, co36, eo36⟩ := Kd.R_slice HO418.out
      (first | subst eo36 | (injection eo36 with f1_ f2_ f3_; have f4_ := f1_.symm; have f5_ := f3_.symm; clear f1_ f2_ f3_; subst f4_; subst f5_))
      obtain ⟨Ao37, co37, eo37⟩ := Kd.R_slice HO421.out
      (first | subst eo37 | (injection eo37 with f1_ f2_ f3_; have f4_ := f1_.symm; have f5_ := f3_.symm; clear f1_ f2_ f3_; subst f4_; subst f5_))
      obtain ⟨Ao38, co38, eo38⟩ := Kd.R_slice HO424.out
      (first | subst eo38 | (injection eo38 with f1_ f2_ f3_; have f4_ := f1_.symm; have f5_ := f3_.symm; clear f1_ f2_ f3_; subst f4_; subst f5_))
      refine hK.out _ _ ⟨(blk_cell BK410.out 0).trans rfl, (blk_cell BK410.out 1).trans rfl, (blk_cell BK410.out 2).trans rfl⟩ (fun hHeld => ?_)
      clear hK K
      refine norm_ (a' := ?_) ?_ ?_
      rotate_left
      ·show Act.put _ (some 29) _ = _
       simp only [Act.put, List.setIfInBounds_toArray, List.set_cons_zero, List.set_cons_succ, i64_w, i32_w]
       rfl
      refine one_ (i := 5) (N := some 31) #[true, true, true, true, true, true, false] rfl rfl (by kernel_rfl) (by decide) (fun K hK => ?_)
      refine goes_ Try.func20 (by kernel_rfl) rfl #[.slice Ao35 t413.length co35, .agg #[.slice Ao36 t416.length co36, .slice Ao37 t419.length co37, .slice Ao38 t422.length co38], .int .i64 a2] (by rfl) rfl rfl ms ?_
      with_reducible refine (spec_DownToId.calls k _ _ t413 _ _ t416 _ _ t419 _ _ t422 a2 t425 _ ?side1 ?side2 ?side3 ?side4 ?side5 ?side6 ?side7 ?side8 A14.out).mono ?_
      (case side1 => repeat (first | exact (Kd.R_reads' HO415.out).2.2 | (with_reducible refine Kd.C_alloc ?_ _) | (with_reducible refine Kd.C_drewN ?_ _) | (with_reducible refine Kd.C_drew ?_)))
      (case side2 => exact (Kd.R_reads' HO415.out).2.1)
      (case side3 => repeat (first | exact (Kd.R_reads' HO418.out).2.2 | (with_reducible refine Kd.C_alloc ?_ _) | (with_reducible refine Kd.C_drewN ?_ _) | (with_reducible refine Kd.C_drew ?_)))
      (case side4 => exact (Kd.R_reads' HO418.out).2.1)
      (case side5 => repeat (first | exact (Kd.R_reads' HO421.out).2.2 | (with_reducible refine Kd.C_alloc ?_ _) | (with_reducible refine Kd.C_drewN ?_ _) | (with_reducible refine Kd.C_drew ?_)))
      (case side6 => exact (Kd.R_reads' HO421.out).2.1)
      (case side7 => repeat (first | exact (Kd.R_reads' HO424.out).2.2 | (with_reducible refine Kd.C_alloc ?_ _) | (with_reducible refine Kd.C_drewN ?_ _) | (with_reducible refine Kd.C_drew ?_)))
      (case side8 => exact (Kd.R_reads' HO424.out).2.1)
      rintro e w39 ⟨v426, rfl, ho0, hb⟩
      refine ⟨_, rfl, ?_⟩
      have t_ := fc7 (Kd.R_below (ra HO415.out) hb) (Kd.R_elder' (ra HO418.out) (Kd.R_base ho0) hb) (Kd.R_elder' (ra HO421.out) (Kd.R_base ho0) hb) (Kd.R_elder' (ra HO424.out) (Kd.R_base ho0) hb) (Kd.R_lower (Kd.R_new' (Kd.R_new' (Kd.R_new' ho0 (Kd.R_lt (ra HO418.out))) (Kd.R_lt (ra HO421.out))) (Kd.R_lt (ra HO424.out))) (below_size bb)) (bw BK410 hb) (below_step bb hb)
      clear HO415 HO418 HO421 HO424 BK410 HB
      obtain ⟨HO415, HO418, HO421, HO424, HO427, BK410, HB⟩ := t_
      (try clear hb)
      (try clear hb2)
      (try clear hk)
      (try clear hi)
      (try clear ho0)
      refine hK.out _ _ ⟨(blk_cell BK410.out 0).trans rfl, (blk_cell BK410.out 1).trans rfl, (blk_cell BK410.out 2).trans rfl⟩ (fun hHeld => ?_)
      clear hK K
      refine norm_ (a' := ?_) ?_ ?_
      rotate_left
      ·show Act.put _ (some 31) _ = _
       simp only [Act.put, List.setIfInBounds_toArray, List.set_cons_zero, List.set_cons_succ, i64_w, i32_w]
       rfl
      refine pure_ (i := 6) (N := some 8) (v := ?_) (a' := ?_) #[true, true, true, true, true, true, true] rfl rfl (by kernel_rfl) (fun _ _ _ h => h) (Or.inl ⟨by rfl, ?_⟩) ?_ ?_
      rotate_left
      ·intro w'
       go_simp
       with_reducible rfl
      rotate_left
      ·simp only [Act.put, List.setIfInBounds_toArray, List.set_cons_zero, List.set_cons_succ, i64_w, i32_w]
       rfl
      refine done_ (by kernel_rfl) ?_
      try go_wp2_with (first | ((with_reducible refine gate_callee (f := 21) rfl ?_); refine goesL_ (some 33) rfl rfl Try.func21 (by kernel_rfl) rfl #[.slice A0 l0.length c0] rfl ms ?_; (with_reducible refine (laws_toNodeS.calls k _ _ l0 t428 _ ?side1 ?side2 A15.out).mono ?_); (case side1 => exact kc); (case side2 => exact HC0.out); rintro e w40 ⟨v429, rfl, ho0, hb⟩; refine ⟨_, rfl, ?_⟩; have t_ := fc8 (Kd.R_elder' (ra HO415.out) (Kd.R_base ho0) hb) (Kd.R_below (ra HO418.out) hb) (Kd.R_below (ra HO421.out) hb) (Kd.R_below (ra HO424.out) hb) (Kd.R_below (ra HO427.out) hb) (Kd.R_lower (Kd.R_new' ho0 (Kd.R_lt (ra HO415.out))) (below_size bb)) (bw BK410 hb) (below_step bb hb); clear HO415 HO418 HO421 HO424 HO427 BK410 HB; obtain ⟨HO415, HO418, HO421, HO424, HO427, HO430, BK410, HB⟩ := t_; (try clear hb); (try clear hk); (try clear ho0); obtain ⟨hcz41_0, hcz41_1, hcz41_2, hfz41_0, hfz41_1, hfz41_2⟩ := bx3 BK410.out) | ((with_reducible refine gate_callee (f := 22) rfl ?_); refine goesL_ (some 35) rfl rfl Try.func22 (by kernel_rfl) rfl #[.agg #[.slice A1_0 l1_0.length c1_0, .slice A1_1 l1_1.length c1_1, .slice A1_2 l1_2.length c1_2]] rfl ms ?_; (with_reducible refine (laws_toNumbers.calls k _ _ l1_0 _ _ l1_1 _ _ l1_2 t431 t434 t437 _ ?side1 ?side2 ?side3 ?side4 ?side5 ?side6 A16.out).mono ?_); (case side1 => exact kc); (case side2 => exact HC1_0.out); (case side3 => exact kc); (case side4 => exact HC1_1.out); (case side5 => exact kc); (case side6 => exact HC1_2.out); rintro e w42 ⟨v432, v435, v438, rfl, ho0, ho1, ho2, hb⟩; refine ⟨_, rfl, ?_⟩; have t_ := fc11 (Kd.R_below (ra HO415.out) hb) (Kd.R_mono (Kd.R_told (Kd.R_told (Kd.R_told (Kd.R_old (ra HO418.out) hb) (Kd.R_base ho0)) (Kd.R_base ho1)) (Kd.R_base ho2)) (fun _ h_ => h_.1)) (Kd.R_mono (Kd.R_told (Kd.R_told (Kd.R_told (Kd.R_old (ra HO421.out) hb) (Kd.R_base ho0)) (Kd.R_base ho1)) (Kd.R_base ho2)) (fun _ h_ => h_.1)) (Kd.R_mono (Kd.R_told (Kd.R_told (Kd.R_told (Kd.R_old (ra HO424.out) hb) (Kd.R_base ho0)) (Kd.R_base ho1)) (Kd.R_base ho2)) (fun _ h_ => h_.1)) (Kd.R_mono (Kd.R_told (Kd.R_told (Kd.R_told (Kd.R_old (ra HO427.out) hb) (Kd.R_base ho0)) (Kd.R_base ho1)) (Kd.R_base ho2)) (fun _ h_ => h_.1)) (Kd.R_below (ra HO430.out) hb) (Kd.R_lower (Kd.R_new' (Kd.R_new' (Kd.R_new' (Kd.R_new' ho0 (Kd.R_lt (ra HO418.out))) (Kd.R_lt (ra HO421.out))) (Kd.R_lt (ra HO424.out))) (Kd.R_lt (ra HO427.out))) (below_size bb)) (Kd.R_lower (Kd.R_new' (Kd.R_new' (Kd.R_new' (Kd.R_new' ho1 (Kd.R_lt (ra HO418.out))) (Kd.R_lt (ra HO421.out))) (Kd.R_lt (ra HO424.out))) (Kd.R_lt (ra HO427.out))) (below_size bb)) (Kd.R_lower (Kd.R_new' (Kd.R_new' (Kd.R_new' (Kd.R_new' ho2 (Kd.R_lt (ra HO418.out))) (Kd.R_lt (ra HO421.out))) (Kd.R_lt (ra HO424.out))) (Kd.R_lt (ra HO427.out))) (below_size bb)) (bw BK410 hb) (below_step bb hb); clear HO415 HO418 HO421 HO424 HO427 HO430 BK410 HB; obtain ⟨HO415, HO418, HO421, HO424, HO427, HO430, HO433, HO436, HO439, BK410, HB⟩ := t_; (try clear hb); (try clear hk); (try clear ho0); (try clear ho1); (try clear ho2)) | ((with_reducible refine gate_dst (N := 10) rfl ?_); refine box_event ?hg (N := 10) ?hd (cs := #[.slice none 0 0, .slice none 0 0, .slice none 0 0]) (t := 31) ?hr ?_; (case hd => rfl); (case hg => rfl); (case hr => first | (go_simp; done) | (go_simp; rfl)); intro gb440 hg w43 hbox hb; have t_ := fc16 (Kd.R_below (ra HO415.out) hb) (Kd.R_below (ra HO418.out) hb) (Kd.R_below (ra HO421.out) hb) (Kd.R_below (ra HO424.out) hb) (Kd.R_below (ra HO427.out) hb) (Kd.R_below (ra HO430.out) hb) (Kd.R_below (ra HO433.out) hb) (Kd.R_below (ra HO436.out) hb) (Kd.R_below (ra HO439.out) hb) (bw BK410 hb) (below_step bb hb) (hbox) (bg hg : w.heap.size ≤ gb440) (bg hg : w.heap.size ≤ gb440) ((nl BK410 hg : gb410 ≠ gb440)) ((ng BK410 hg : gb440 ≠ gb410)); clear HO415 HO418 HO421 HO424 HO427 HO430 HO433 HO436 HO439 BK410 HB; obtain ⟨HO415, HO418, HO421, HO424, HO427, HO430, HO433, HO436, HO439, BK410, HB, BK440, GW440, GE440, NB410_440, NB440_410⟩ := t_; clear hb hbox hg; obtain ⟨Ao44, co44, eo44⟩ := Kd.R_slice HO433.out; subst eo44; have hnb45 := NB440_410.out; have hnc45 := NB410_440.out; obtain ⟨hcz46_0, hcz46_1, hcz46_2, hfz46_0, hfz46_1, hfz46_2⟩ := bx3 BK440.out; obtain ⟨Ao47, co47, eo47⟩ := Kd.R_slice HO436.out; subst eo47; obtain ⟨Ao48, co48, eo48⟩ := Kd.R_slice HO439.out; subst eo48; obtain ⟨Ao49, co49, eo49⟩ := Kd.R_slice HO430.out; subst eo49) | ((with_reducible refine gate_callee (f := 23) rfl ?_); refine goesL_ (some 39) rfl rfl Try.func23 (by kernel_rfl) rfl #[.slice Ao49 t428.length co49, .agg #[.slice Ao44 t431.length co44, .slice Ao47 t434.length co47, .slice Ao48 t437.length co48], .int .i64 a2] rfl ms ?_; (with_reducible refine (impl_DownToId.calls k _ _ t428 _ _ t431 _ _ t434 _ _ t437 a2 t441 _ ?side1 ?side2 ?side3 ?side4 ?side5 ?side6 ?side7 ?side8 A17.out).mono ?_); (case side1 => refine (Kd.R_reads' (e := 50) (base := w.heap.size) (ok := fun k_ => (True ∧ some k_ ≠ (.slice Ao35 t413.length co35 : Value).ownBlock)) (n := t428.length) (c := co49) ?_).2.2; exact (ra (Kd.R_mono (Kd.R_far (p := ⟨gb440, 2, none⟩) (Kd.R_far (p := ⟨gb440, 1, none⟩) (Kd.R_far (p := ⟨gb440, 0, none⟩) (Kd.R_types HO430.out BK440.out (by decide)) fk (.slice Ao44 t431.length co44)) fk (.slice Ao47 t434.length co47)) fk (.slice Ao48 t437.length co48)) (fun _ h_ => h_.1)))); (case side2 => exact (Kd.R_reads' HO430.out).2.1); (case side3 => refine (Kd.R_reads' (e := 3) (base := w.heap.size) (ok := fun k_ => (((((some k_ ≠ (.slice Ao47 t434.length co47 : Value).ownBlock ∧ some k_ ≠ (.slice Ao48 t437.length co48 : Value).ownBlock) ∧ some k_ ≠ (.slice Ao36 t416.length co36 : Value).ownBlock) ∧ some k_ ≠ (.slice Ao37 t419.length co37 : Value).ownBlock) ∧ some k_ ≠ (.slice Ao38 t422.length co38 : Value).ownBlock) ∧ some k_ ≠ (v426 : Value).ownBlock)) (n := t431.length) (c := co44) ?_).2.2; exact (ra (Kd.R_mono (Kd.R_far (p := ⟨gb440, 2, none⟩) (Kd.R_far (p := ⟨gb440, 1, none⟩) (Kd.R_far (p := ⟨gb440, 0, none⟩) (Kd.R_types HO433.out BK440.out (by decide)) fk (.slice Ao44 t431.length co44)) fk (.slice Ao47 t434.length co47)) fk (.slice Ao48 t437.length co48)) (fun _ h_ => h_.1)))); (case side4 => exact (Kd.R_reads' HO433.out).2.1); (case side5 => refine (Kd.R_reads' (e := 3) (base := w.heap.size) (ok := fun k_ => (((((some k_ ≠ (.slice Ao44 t431.length co44 : Value).ownBlock ∧ some k_ ≠ (.slice Ao48 t437.length co48 : Value).ownBlock) ∧ some k_ ≠ (.slice Ao36 t416.length co36 : Value).ownBlock) ∧ some k_ ≠ (.slice Ao37 t419.length co37 : Value).ownBlock) ∧ some k_ ≠ (.slice Ao38 t422.length co38 : Value).ownBlock) ∧ some k_ ≠ (v426 : Value).ownBlock)) (n := t434.length) (c := co47) ?_).2.2; exact (ra (Kd.R_mono (Kd.R_far (p := ⟨gb440, 2, none⟩) (Kd.R_far (p := ⟨gb440, 1, none⟩) (Kd.R_far (p := ⟨gb440, 0, none⟩) (Kd.R_types HO436.out BK440.out (by decide)) fk (.slice Ao44 t431.length co44)) fk (.slice Ao47 t434.length co47)) fk (.slice Ao48 t437.length co48)) (fun _ h_ => h_.1)))); (case side6 => exact (Kd.R_reads' HO436.out).2.1); (case side7 => refine (Kd.R_reads' (e := 3) (base := w.heap.size) (ok := fun k_ => (((((some k_ ≠ (.slice Ao44 t431.length co44 : Value).ownBlock ∧ some k_ ≠ (.slice Ao47 t434.length co47 : Value).ownBlock) ∧ some k_ ≠ (.slice Ao36 t416.length co36 : Value).ownBlock) ∧ some k_ ≠ (.slice Ao37 t419.length co37 : Value).ownBlock) ∧ some k_ ≠ (.slice Ao38 t422.length co38 : Value).ownBlock) ∧ some k_ ≠ (v426 : Value).ownBlock)) (n := t437.length) (c := co48) ?_).2.2; exact (ra (Kd.R_mono (Kd.R_far (p := ⟨gb440, 2, none⟩) (Kd.R_far (p := ⟨gb440, 1, none⟩) (Kd.R_far (p := ⟨gb440, 0, none⟩) (Kd.R_types HO439.out BK440.out (by decide)) fk (.slice Ao44 t431.length co44)) fk (.slice Ao47 t434.length co47)) fk (.slice Ao48 t437.length co48)) (fun _ h_ => h_.1)))); (case side8 => exact (Kd.R_reads' HO439.out).2.1); rintro e w50 ⟨v442, rfl, ho0, hb⟩; refine ⟨_, rfl, ?_⟩; have t_ := fc13 (Kd.R_below (ra (Kd.R_mono (Kd.R_far (p := ⟨gb440, 2, none⟩) (Kd.R_far (p := ⟨gb440, 1, none⟩) (Kd.R_far (p := ⟨gb440, 0, none⟩) (Kd.R_types HO415.out BK440.out (by decide)) fk (.slice Ao44 t431.length co44)) fk (.slice Ao47 t434.length co47)) fk (.slice Ao48 t437.length co48)) (fun _ h_ => h_.1))) hb) (Kd.R_elder' (ra (Kd.R_mono (Kd.R_far (p := ⟨gb440, 2, none⟩) (Kd.R_far (p := ⟨gb440, 1, none⟩) (Kd.R_far (p := ⟨gb440, 0, none⟩) (Kd.R_types HO418.out BK440.out (by decide)) fk (.slice Ao44 t431.length co44)) fk (.slice Ao47 t434.length co47)) fk (.slice Ao48 t437.length co48)) (fun _ h_ => h_.1))) (Kd.R_base ho0) hb) (Kd.R_elder' (ra (Kd.R_mono (Kd.R_far (p := ⟨gb440, 2, none⟩) (Kd.R_far (p := ⟨gb440, 1, none⟩) (Kd.R_far (p := ⟨gb440, 0, none⟩) (Kd.R_types HO421.out BK440.out (by decide)) fk (.slice Ao44 t431.length co44)) fk (.slice Ao47 t434.length co47)) fk (.slice Ao48 t437.length co48)) (fun _ h_ => h_.1))) (Kd.R_base ho0) hb) (Kd.R_elder' (ra (Kd.R_mono (Kd.R_far (p := ⟨gb440, 2, none⟩) (Kd.R_far (p := ⟨gb440, 1, none⟩) (Kd.R_far (p := ⟨gb440, 0, none⟩) (Kd.R_types HO424.out BK440.out (by decide)) fk (.slice Ao44 t431.length co44)) fk (.slice Ao47 t434.length co47)) fk (.slice Ao48 t437.length co48)) (fun _ h_ => h_.1))) (Kd.R_base ho0) hb) (Kd.R_elder' (ra (Kd.R_mono (Kd.R_far (p := ⟨gb440, 2, none⟩) (Kd.R_far (p := ⟨gb440, 1, none⟩) (Kd.R_far (p := ⟨gb440, 0, none⟩) (Kd.R_types HO427.out BK440.out (by decide)) fk (.slice Ao44 t431.length co44)) fk (.slice Ao47 t434.length co47)) fk (.slice Ao48 t437.length co48)) (fun _ h_ => h_.1))) (Kd.R_base ho0) hb) (Kd.R_below (ra (Kd.R_mono (Kd.R_far (p := ⟨gb440, 2, none⟩) (Kd.R_far (p := ⟨gb440, 1, none⟩) (Kd.R_far (p := ⟨gb440, 0, none⟩) (Kd.R_types HO430.out BK440.out (by decide)) fk (.slice Ao44 t431.length co44)) fk (.slice Ao47 t434.length co47)) fk (.slice Ao48 t437.length co48)) (fun _ h_ => h_.1))) hb) (Kd.R_elder' (ra (Kd.R_mono (Kd.R_far (p := ⟨gb440, 2, none⟩) (Kd.R_far (p := ⟨gb440, 1, none⟩) (Kd.R_far (p := ⟨gb440, 0, none⟩) (Kd.R_types HO433.out BK440.out (by decide)) fk (.slice Ao44 t431.length co44)) fk (.slice Ao47 t434.length co47)) fk (.slice Ao48 t437.length co48)) (fun _ h_ => h_.1))) (Kd.R_base ho0) hb) (Kd.R_elder' (ra (Kd.R_mono (Kd.R_far (p := ⟨gb440, 2, none⟩) (Kd.R_far (p := ⟨gb440, 1, none⟩) (Kd.R_far (p := ⟨gb440, 0, none⟩) (Kd.R_types HO436.out BK440.out (by decide)) fk (.slice Ao44 t431.length co44)) fk (.slice Ao47 t434.length co47)) fk (.slice Ao48 t437.length co48)) (fun _ h_ => h_.1))) (Kd.R_base ho0) hb) (Kd.R_elder' (ra (Kd.R_mono (Kd.R_far (p := ⟨gb440, 2, none⟩) (Kd.R_far (p := ⟨gb440, 1, none⟩) (Kd.R_far (p := ⟨gb440, 0, none⟩) (Kd.R_types HO439.out BK440.out (by decide)) fk (.slice Ao44 t431.length co44)) fk (.slice Ao47 t434.length co47)) fk (.slice Ao48 t437.length co48)) (fun _ h_ => h_.1))) (Kd.R_base ho0) hb) (Kd.R_lower (Kd.R_new' (Kd.R_new' (Kd.R_new' (Kd.R_new' (Kd.R_new' (Kd.R_new' (Kd.R_new' ho0 (Kd.R_lt (ra (Kd.R_mono (Kd.R_far (p := ⟨gb440, 2, none⟩) (Kd.R_far (p := ⟨gb440, 1, none⟩) (Kd.R_far (p := ⟨gb440, 0, none⟩) (Kd.R_types HO418.out BK440.out (by decide)) fk (.slice Ao44 t431.length co44)) fk (.slice Ao47 t434.length co47)) fk (.slice Ao48 t437.length co48)) (fun _ h_ => h_.1))))) (Kd.R_lt (ra (Kd.R_mono (Kd.R_far (p := ⟨gb440, 2, none⟩) (Kd.R_far (p := ⟨gb440, 1, none⟩) (Kd.R_far (p := ⟨gb440, 0, none⟩) (Kd.R_types HO421.out BK440.out (by decide)) fk (.slice Ao44 t431.length co44)) fk (.slice Ao47 t434.length co47)) fk (.slice Ao48 t437.length co48)) (fun _ h_ => h_.1))))) (Kd.R_lt (ra (Kd.R_mono (Kd.R_far (p := ⟨gb440, 2, none⟩) (Kd.R_far (p := ⟨gb440, 1, none⟩) (Kd.R_far (p := ⟨gb440, 0, none⟩) (Kd.R_types HO424.out BK440.out (by decide)) fk (.slice Ao44 t431.length co44)) fk (.slice Ao47 t434.length co47)) fk (.slice Ao48 t437.length co48)) (fun _ h_ => h_.1))))) (Kd.R_lt (ra (Kd.R_mono (Kd.R_far (p := ⟨gb440, 2, none⟩) (Kd.R_far (p := ⟨gb440, 1, none⟩) (Kd.R_far (p := ⟨gb440, 0, none⟩) (Kd.R_types HO427.out BK440.out (by decide)) fk (.slice Ao44 t431.length co44)) fk (.slice Ao47 t434.length co47)) fk (.slice Ao48 t437.length co48)) (fun _ h_ => h_.1))))) (Kd.R_lt (ra (Kd.R_mono (Kd.R_far (p := ⟨gb440, 2, none⟩) (Kd.R_far (p := ⟨gb440, 1, none⟩) (Kd.R_far (p := ⟨gb440, 0, none⟩) (Kd.R_types HO433.out BK440.out (by decide)) fk (.slice Ao44 t431.length co44)) fk (.slice Ao47 t434.length co47)) fk (.slice Ao48 t437.length co48)) (fun _ h_ => h_.1))))) (Kd.R_lt (ra (Kd.R_mono (Kd.R_far (p := ⟨gb440, 2, none⟩) (Kd.R_far (p := ⟨gb440, 1, none⟩) (Kd.R_far (p := ⟨gb440, 0, none⟩) (Kd.R_types HO436.out BK440.out (by decide)) fk (.slice Ao44 t431.length co44)) fk (.slice Ao47 t434.length co47)) fk (.slice Ao48 t437.length co48)) (fun _ h_ => h_.1))))) (Kd.R_lt (ra (Kd.R_mono (Kd.R_far (p := ⟨gb440, 2, none⟩) (Kd.R_far (p := ⟨gb440, 1, none⟩) (Kd.R_far (p := ⟨gb440, 0, none⟩) (Kd.R_types HO439.out BK440.out (by decide)) fk (.slice Ao44 t431.length co44)) fk (.slice Ao47 t434.length co47)) fk (.slice Ao48 t437.length co48)) (fun _ h_ => h_.1))))) (below_size bb)) (blk_below (g := gb410) (o := .cells #[.slice A1_0 l1_0.length c1_0, .slice A1_1 l1_1.length c1_1, .slice A1_2 l1_2.length c1_2] 25 (0, 0)) (by (with_reducible repeat (first | refine blk_drewN ?_ _ | refine blk_drew ?_ | refine blk_alloc ?_ _)); refine blk_far ?_ NB410_440.out _; (with_reducible repeat (first | refine blk_drewN ?_ _ | refine blk_drew ?_ | refine blk_alloc ?_ _)); refine blk_far ?_ NB410_440.out _; (with_reducible repeat (first | refine blk_drewN ?_ _ | refine blk_drew ?_ | refine blk_alloc ?_ _)); refine blk_far ?_ NB410_440.out _; exact bk) hb) (blk_below (g := gb440) (o := .cells #[.slice Ao44 t431.length co44, .slice Ao47 t434.length co47, .slice Ao48 t437.length co48] 31 (0, 0)) (by (with_reducible repeat (first | refine blk_drewN ?_ _ | refine blk_drew ?_ | refine blk_alloc ?_ _)); refine blk_put (cs := #[.slice Ao44 t431.length co44, .slice Ao47 t434.length co47, .slice none 0 0]) ?_ 2 _ rfl; (with_reducible repeat (first | refine blk_drewN ?_ _ | refine blk_drew ?_ | refine blk_alloc ?_ _)); refine blk_put (cs := #[.slice Ao44 t431.length co44, .slice none 0 0, .slice none 0 0]) ?_ 1 _ rfl; (with_reducible repeat (first | refine blk_drewN ?_ _ | refine blk_drew ?_ | refine blk_alloc ?_ _)); refine blk_put (cs := #[.slice none 0 0, .slice none 0 0, .slice none 0 0]) ?_ 0 _ rfl; exact bk) hb) (below_step bb hb); clear HO415 HO418 HO421 HO424 HO427 HO430 HO433 HO436 HO439 BK410 BK440 HB; obtain ⟨HO415, HO418, HO421, HO424, HO427, HO430, HO433, HO436, HO439, HO443, BK410, BK440, HB⟩ := t_; (try clear hb); (try clear hk); (try clear ho0); obtain ⟨Ao51, co51, eo51⟩ := Kd.R_slice HO443.out; subst eo51; obtain ⟨Ao52, co52, eo52⟩ := Kd.R_slice HO427.out; subst eo52) | ((with_reducible refine gate_callee (f := 24) rfl ?_); refine goesL_ (some 42) rfl rfl Try.func24 (by kernel_rfl) rfl #[.slice Ao51 t441.length co51, .slice Ao52 t425.length co52] rfl ms ?_; (with_reducible refine (laws_eqIntS.calls k _ _ t441 _ _ t425 true _ ?side1 ?side2 ?side3 ?side4 A18.out).mono ?_); (case side1 => repeat (first | exact (Kd.R_reads' HO443.out).2.2 | (with_reducible refine Kd.C_alloc ?_ _) | (with_reducible refine Kd.C_drewN ?_ _) | (with_reducible refine Kd.C_drew ?_))); (case side2 => exact (Kd.R_reads' HO443.out).2.1); (case side3 => repeat (first | exact (Kd.R_reads' HO427.out).2.2 | (with_reducible refine Kd.C_alloc ?_ _) | (with_reducible refine Kd.C_drewN ?_ _) | (with_reducible refine Kd.C_drew ?_))); (case side4 => exact (Kd.R_reads' HO427.out).2.1); rintro e w' ⟨rfl, ⟨nd, rfl⟩⟩; refine ⟨_, rfl, ?_⟩) | ((with_reducible refine gate_callee (f := 21) rfl ?_); refine goesL_ (some 46) rfl rfl Try.func21 (by kernel_rfl) rfl #[.slice A0 l0.length c0] rfl ms ?_; (with_reducible refine (laws_toNodeS.calls k _ _ l0 t445 _ ?side1 ?side2 A20.out).mono ?_); (case side1 => exact kc); (case side2 => exact HC0.out); rintro e w53 ⟨v446, rfl, ho0, hb⟩; refine ⟨_, rfl, ?_⟩; have t_ := fc14 (Kd.R_elder' (ra HO415.out) (Kd.R_base ho0) hb) (Kd.R_below (ra HO418.out) hb) (Kd.R_below (ra HO421.out) hb) (Kd.R_below (ra HO424.out) hb) (Kd.R_below (ra HO427.out) hb) (Kd.R_elder' (ra HO430.out) (Kd.R_base ho0) hb) (Kd.R_below (ra HO433.out) hb) (Kd.R_below (ra HO436.out) hb) (Kd.R_below (ra HO439.out) hb) (Kd.R_below (ra HO443.out) hb) (Kd.R_lower (Kd.R_new' (Kd.R_new' ho0 (Kd.R_lt (ra HO415.out))) (Kd.R_lt (ra HO430.out))) (below_size bb)) (bw BK410 hb) (bw BK440 hb) (below_step bb hb); clear HO415 HO418 HO421 HO424 HO427 HO430 HO433 HO436 HO439 HO443 BK410 BK440 HB; obtain ⟨HO415, HO418, HO421, HO424, HO427, HO430, HO433, HO436, HO439, HO443, HO447, BK410, BK440, HB⟩ := t_; (try clear hb); (try clear hk); (try clear ho0); obtain ⟨Ao54, co54, eo54⟩ := Kd.R_slice HO447.out; subst eo54) | ((with_reducible refine gate_callee (f := 25) rfl ?_); refine goesL_ (some 47) rfl rfl Try.func25 (by kernel_rfl) rfl #[.slice Ao49 t428.length co49, .slice Ao54 t445.length co54] rfl ms ?_; (with_reducible refine (laws_eqNodeS.calls k _ _ t428 _ _ t445 true _ ?side1 ?side2 ?side3 ?side4 A21.out).mono ?_); (case side1 => repeat (first | exact (Kd.R_reads' HO430.out).2.2 | (with_reducible refine Kd.C_alloc ?_ _) | (with_reducible refine Kd.C_drewN ?_ _) | (with_reducible refine Kd.C_drew ?_))); (case side2 => exact (Kd.R_reads' HO430.out).2.1); (case side3 => repeat (first | exact (Kd.R_reads' HO447.out).2.2 | (with_reducible refine Kd.C_alloc ?_ _) | (with_reducible refine Kd.C_drewN ?_ _) | (with_reducible refine Kd.C_drew ?_))); (case side4 => exact (Kd.R_reads' HO447.out).2.1); rintro e w55 ⟨rfl, hb⟩; refine ⟨_, rfl, ?_⟩; have t_ := fc14 (Kd.R_below (ra HO415.out) hb) (Kd.R_below (ra HO418.out) hb) (Kd.R_below (ra HO421.out) hb) (Kd.R_below (ra HO424.out) hb) (Kd.R_below (ra HO427.out) hb) (Kd.R_below (ra HO430.out) hb) (Kd.R_below (ra HO433.out) hb) (Kd.R_below (ra HO436.out) hb) (Kd.R_below (ra HO439.out) hb) (Kd.R_below (ra HO443.out) hb) (Kd.R_below (ra HO447.out) hb) (bw BK410 hb) (bw BK440 hb) (below_step bb hb); clear HO415 HO418 HO421 HO424 HO427 HO430 HO433 HO436 HO439 HO443 HO447 BK410 BK440 HB; obtain ⟨HO415, HO418, HO421, HO424, HO427, HO430, HO433, HO436, HO439, HO443, HO447, BK410, BK440, HB⟩ := t_; (try clear hb); (try clear hk)))
      have t_ := fc14 (Kd.R_drew HO415.out) (Kd.R_drew HO418.out) (Kd.R_drew HO421.out) (Kd.R_drew HO424.out) (Kd.R_drew HO427.out) (Kd.R_drew HO430.out) (Kd.R_drew HO433.out) (Kd.R_drew HO436.out) (Kd.R_drew HO439.out) (Kd.R_drew HO443.out) (Kd.R_drew HO447.out) (blk_drew BK410.out) (blk_drew BK440.out) (below_drew1 HB.out)
      clear HO415 HO418 HO421 HO424 HO427 HO430 HO433 HO436 HO439 HO443 HO447 BK410 BK440 HB
      obtain ⟨HO415, HO418, HO421, HO424, HO427, HO430, HO433, HO436, HO439, HO443, HO447, BK410, BK440, HB⟩ := t_
      refine start_ (n := 5) (S := fun w' => w'.cell? ⟨gb440, 0, none⟩ = some (.slice Ao44 t431.length co44) ∧ w'.cell? ⟨gb440, 1, none⟩ = some (.slice Ao47 t434.length co47) ∧ w'.cell? ⟨gb440, 2, none⟩ = some (.slice Ao48 t437.length co48) ∧ w'.cell? ⟨gb410, 0, none⟩ = some (.slice A1_0 l1_0.length c1_0) ∧ w'.cell? ⟨gb410, 1, none⟩ = some (.slice A1_1 l1_1.length c1_1) ∧ w'.cell? ⟨gb410, 2, none⟩ = some (.slice A1_2 l1_2.length c1_2)) (ds := []) #[false, false, false, false, false] (by kernel_rfl) rfl rfl ⟨(blk_cell BK440.out 0).trans rfl, (blk_cell BK440.out 1).trans rfl, (blk_cell BK440.out 2).trans rfl, (blk_cell BK410.out 0).trans rfl, (blk_cell BK410.out 1).trans rfl, (blk_cell BK410.out 2).trans rfl⟩ (fun hHeld => ?_)
      generalize w55.drew = w56 at HO415 HO418 HO421 HO424 HO427 HO430 HO433 HO436 HO439 HO443 HO447 BK410 BK440 HB hHeld ⊢
      refine take_ (i := 0) (N := some 49) (v := ?_) (a' := ?_) #[true, false, false, false, false] rfl rfl (by kernel_rfl) (fun _ _ _ h => h) (Or.inl ⟨by rfl, ?_⟩) hHeld ?_ ?_
      rotate_left
      ·rintro w' ⟨s0, s1, s2, s3, s4, s5⟩
       go_simp
       with_reducible rfl
      rotate_left
      ·simp only [Act.put, List.setIfInBounds_toArray, List.set_cons_zero, List.set_cons_succ, i64_w, i32_w]
       rfl
      refine take_ (i := 1) (N := some 50) (v := ?_) (a' := ?_) #[true, true, false, false, false] rfl rfl (by kernel_rfl) (fun _ _ _ h => h) (Or.inl ⟨by rfl, ?_⟩) hHeld ?_ ?_
      rotate_left
      ·rintro w' ⟨s0, s1, s2, s3, s4, s5⟩
       go_simp
       with_reducible rfl
      rotate_left
      ·simp only [Act.put, List.setIfInBounds_toArray, List.set_cons_zero, List.set_cons_succ, i64_w, i32_w]
       rfl
      refine one_ (i := 2) (N := some 51) #[true, true, true, false, false] rfl rfl (by kernel_rfl) (by decide) (fun K hK => ?_)
      refine goes_ Try.func22 (by kernel_rfl) rfl #[.agg #[.slice A1_0 l1_0.length c1_0, .slice A1_1 l1_1.length c1_1, .slice A1_2 l1_2.length c1_2]] (by rfl) rfl rfl ms ?_
      with_reducible refine (laws_toNumbers.calls k _ _ l1_0 _ _ l1_1 _ _ l1_2 t449 t452 t455 _ ?side1 ?side2 ?side3 ?side4 ?side5 ?side6 A23.out).mono ?_
      (case side1 => exact kc)
      (case side2 => exact HC1_0.out)
      (case side3 => exact kc)
      (case side4 => exact HC1_1.out)
      (case side5 => exact kc)
      (case side6 => exact HC1_2.out)
      rintro e w57 ⟨v450, v453, v456, rfl, ho0, ho1, ho2, hb⟩
      refine ⟨_, rfl, ?_⟩
      have t_ := fc17 (Kd.R_below (ra HO415.out) hb) (Kd.R_mono (Kd.R_told (Kd.R_told (Kd.R_told (Kd.R_old (ra HO418.out) hb) (Kd.R_base ho0)) (Kd.R_base ho1)) (Kd.R_base ho2)) (fun _ h_ => h_.1)) (Kd.R_mono (Kd.R_told (Kd.R_told (Kd.R_told (Kd.R_old (ra HO421.out) hb) (Kd.R_base ho0)) (Kd.R_base ho1)) (Kd.R_base ho2)) (fun _ h_ => h_.1)) (Kd.R_mono (Kd.R_told (Kd.R_told (Kd.R_told (Kd.R_old (ra HO424.out) hb) (Kd.R_base ho0)) (Kd.R_base ho1)) (Kd.R_base ho2)) (fun _ h_ => h_.1)) (Kd.R_mono (Kd.R_told (Kd.R_told (Kd.R_told (Kd.R_old (ra HO427.out) hb) (Kd.R_base ho0)) (Kd.R_base ho1)) (Kd.R_base ho2)) (fun _ h_ => h_.1)) (Kd.R_below (ra HO430.out) hb) (Kd.R_mono (Kd.R_told (Kd.R_told (Kd.R_told (Kd.R_old (ra HO433.out) hb) (Kd.R_base ho0)) (Kd.R_base ho1)) (Kd.R_base ho2)) (fun _ h_ => h_.1)) (Kd.R_mono (Kd.R_told (Kd.R_told (Kd.R_told (Kd.R_old (ra HO436.out) hb) (Kd.R_base ho0)) (Kd.R_base ho1)) (Kd.R_base ho2)) (fun _ h_ => h_.1)) (Kd.R_mono (Kd.R_told (Kd.R_told (Kd.R_told (Kd.R_old (ra HO439.out) hb) (Kd.R_base ho0)) (Kd.R_base ho1)) (Kd.R_base ho2)) (fun _ h_ => h_.1)) (Kd.R_mono (Kd.R_told (Kd.R_told (Kd.R_told (Kd.R_old (ra HO443.out) hb) (Kd.R_base ho0)) (Kd.R_base ho1)) (Kd.R_base ho2)) (fun _ h_ => h_.1)) (Kd.R_below (ra HO447.out) hb) (Kd.R_lower (Kd.R_new' (Kd.R_new' (Kd.R_new' (Kd.R_new' (Kd.R_new' (Kd.R_new' (Kd.R_new' (Kd.R_new' ho0 (Kd.R_lt (ra HO418.out))) (Kd.R_lt (ra HO421.out))) (Kd.R_lt (ra HO424.out))) (Kd.R_lt (ra HO427.out))) (Kd.R_lt (ra HO433.out))) (Kd.R_lt (ra HO436.out))) (Kd.R_lt (ra HO439.out))) (Kd.R_lt (ra HO443.out))) (below_size bb)) (Kd.R_lower (Kd.R_new' (Kd.R_new' (Kd.R_new' (Kd.R_new' (Kd.R_new' (Kd.R_new' (Kd.R_new' (Kd.R_new' ho1 (Kd.R_lt (ra HO418.out))) (Kd.R_lt (ra HO421.out))) (Kd.R_lt (ra HO424.out))) (Kd.R_lt (ra HO427.out))) (Kd.R_lt (ra HO433.out))) (Kd.R_lt (ra HO436.out))) (Kd.R_lt (ra HO439.out))) (Kd.R_lt (ra HO443.out))) (below_size bb)) (Kd.R_lower (Kd.R_new' (Kd.R_new' (Kd.R_new' (Kd.R_new' (Kd.R_new' (Kd.R_new' (Kd.R_new' (Kd.R_new' ho2 (Kd.R_lt (ra HO418.out))) (Kd.R_lt (ra HO421.out))) (Kd.R_lt (ra HO424.out))) (Kd.R_lt (ra HO427.out))) (Kd.R_lt (ra HO433.out))) (Kd.R_lt (ra HO436.out))) (Kd.R_lt (ra HO439.out))) (Kd.R_lt (ra HO443.out))) (below_size bb)) (bw BK410 hb) (bw BK440 hb) (below_step bb hb)
      clear HO415 HO418 HO421 HO424 HO427 HO430 HO433 HO436 HO439 HO443 HO447 BK410 BK440 HB
      obtain ⟨HO415, HO418, HO421, HO424, HO427, HO430, HO433, HO436, HO439, HO443, HO447, HO451, HO454, HO457, BK410, BK440, HB⟩ := t_
      (try clear hb)
      (try clear hb2)
      (try clear hk)
      (try clear hi)
      (try clear ho0)
      (try clear ho1)
      (try clear ho2)
      obtain ⟨Ao58, co58, eo58⟩ := Kd.R_slice HO451.out
      (first | subst eo58 | (injection eo58 with f1_ f2_ f3_; have f4_ := f1_.symm; have f5_ := f3_.symm; clear f1_ f2_ f3_; subst f4_; subst f5_))
      obtain ⟨Ao59, co59, eo59⟩ := Kd.R_slice HO454.out
      (first | subst eo59 | (injection eo59 with f1_ f2_ f3_; have f4_ := f1_.symm; have f5_ := f3_.symm; clear f1_ f2_ f3_; subst f4_; subst f5_))
      obtain ⟨Ao60, co60, eo60⟩ := Kd.R_slice HO457.out
      (first | subst eo60 | (injection eo60 with f1_ f2_ f3_; have f4_ := f1_.symm; have f5_ := f3_.symm; clear f1_ f2_ f3_; subst f4_; subst f5_))
      refine hK.out _ _ ⟨(blk_cell BK440.out 0).trans rfl, (blk_cell BK440.out 1).trans rfl, (blk_cell BK440.out 2).trans rfl, (blk_cell BK410.out 0).trans rfl, (blk_cell BK410.out 1).trans rfl, (blk_cell BK410.out 2).trans rfl⟩ (fun hHeld => ?_)
      clear hK K
      refine norm_ (a' := ?_) ?_ ?_
      rotate_left
      ·show Act.put _ (some 51) _ = _
       simp only [Act.put, List.setIfInBounds_toArray, List.set_cons_zero, List.set_cons_succ, i64_w, i32_w]
       rfl
      refine one_ (i := 3) (N := some 52) #[true, true, true, true, false] rfl rfl (by kernel_rfl) (by decide) (fun K hK => ?_)
      refine goes_ Try.func26 (by kernel_rfl) rfl #[.agg #[.slice Ao44 t431.length co44, .slice Ao47 t434.length co47, .slice Ao48 t437.length co48], .agg #[.slice Ao58 t449.length co58, .slice Ao59 t452.length co59, .slice Ao60 t455.length co60]] (by rfl) rfl rfl ms ?_
      with_reducible refine (laws_eqNumbers.calls k _ _ t431 _ _ t434 _ _ t437 _ _ t449 _ _ t452 _ _ t455 true _ ?side1 ?side2 ?side3 ?side4 ?side5 ?side6 ?side7 ?side8 ?side9 ?side10 ?side11 ?side12 A24.out).mono ?_
      (case side1 => repeat (first | exact (Kd.R_reads' HO433.out).2.2 | (with_reducible refine Kd.C_alloc ?_ _) | (with_reducible refine Kd.C_drewN ?_ _) | (with_reducible refine Kd.C_drew ?_)))
      (case side2 => exact (Kd.R_reads' HO433.out).2.1)
      (case side3 => repeat (first | exact (Kd.R_reads' HO436.out).2.2 | (with_reducible refine Kd.C_alloc ?_ _) | (with_reducible refine Kd.C_drewN ?_ _) | (with_reducible refine Kd.C_drew ?_)))
      (case side4 => exact (Kd.R_reads' HO436.out).2.1)
      (case side5 => repeat (first | exact (Kd.R_reads' HO439.out).2.2 | (with_reducible refine Kd.C_alloc ?_ _) | (with_reducible refine Kd.C_drewN ?_ _) | (with_reducible refine Kd.C_drew ?_)))
      (case side6 => exact (Kd.R_reads' HO439.out).2.1)
      (case side7 => repeat (first | exact (Kd.R_reads' HO451.out).2.2 | (with_reducible refine Kd.C_alloc ?_ _) | (with_reducible refine Kd.C_drewN ?_ _) | (with_reducible refine Kd.C_drew ?_)))
      (case side8 => exact (Kd.R_reads' HO451.out).2.1)
      (case side9 => repeat (first | exact (Kd.R_reads' HO454.out).2.2 | (with_reducible refine Kd.C_alloc ?_ _) | (with_reducible refine Kd.C_drewN ?_ _) | (with_reducible refine Kd.C_drew ?_)))
      (case side10 => exact (Kd.R_reads' HO454.out).2.1)
      (case side11 => repeat (first | exact (Kd.R_reads' HO457.out).2.2 | (with_reducible refine Kd.C_alloc ?_ _) | (with_reducible refine Kd.C_drewN ?_ _) | (with_reducible refine Kd.C_drew ?_)))
      (case side12 => exact (Kd.R_reads' HO457.out).2.1)
      rintro e w61 ⟨rfl, hb⟩
      refine ⟨_, rfl, ?_⟩
      have t_ := fc17 (Kd.R_below (ra HO415.out) hb) (Kd.R_below (ra HO418.out) hb) (Kd.R_below (ra HO421.out) hb) (Kd.R_below (ra HO424.out) hb) (Kd.R_below (ra HO427.out) hb) (Kd.R_below (ra HO430.out) hb) (Kd.R_below (ra HO433.out) hb) (Kd.R_below (ra HO436.out) hb) (Kd.R_below (ra HO439.out) hb) (Kd.R_below (ra HO443.out) hb) (Kd.R_below (ra HO447.out) hb) (Kd.R_below (ra HO451.out) hb) (Kd.R_below (ra HO454.out) hb) (Kd.R_below (ra HO457.out) hb) (bw BK410 hb) (bw BK440 hb) (below_step bb hb)
      clear HO415 HO418 HO421 HO424 HO427 HO430 HO433 HO436 HO439 HO443 HO447 HO451 HO454 HO457 BK410 BK440 HB
      obtain ⟨HO415, HO418, HO421, HO424, HO427, HO430, HO433, HO436, HO439, HO443, HO447, HO451, HO454, HO457, BK410, BK440, HB⟩ := t_
      (try clear hb)
      (try clear hb2)
      (try clear hk)
      (try clear hi)
      refine hK.out _ _ ⟨(blk_cell BK440.out 0).trans rfl, (blk_cell BK440.out 1).trans rfl, (blk_cell BK440.out 2).trans rfl, (blk_cell BK410.out 0).trans rfl, (blk_cell BK410.out 1).trans rfl, (blk_cell BK410.out 2).trans rfl⟩ (fun hHeld => ?_)
      clear hK K
      refine norm_ (a' := ?_) ?_ ?_
      rotate_left
      ·show Act.put _ (some 52) _ = _
       simp only [Act.put, List.setIfInBounds_toArray, List.set_cons_zero, List.set_cons_succ, i64_w, i32_w]
       rfl
      refine pure_ (i := 4) (N := some 53) (v := ?_) (a' := ?_) #[true, true, true, true, true] rfl rfl (by kernel_rfl) (fun _ _ _ h => h) (Or.inl ⟨by rfl, ?_⟩) ?_ ?_
      rotate_left
      ·intro w'
       go_simp
       with_reducible rfl
      rotate_left
      ·simp only [Act.put, List.setIfInBounds_toArray, List.set_cons_zero, List.set_cons_succ, i64_w, i32_w]
       rfl
      refine done_ (by kernel_rfl) ?_
      go_upto_region 21 with (first | ((with_reducible refine gate_callee (f := 27) rfl ?_); refine goesL_ (some 56) rfl rfl Try.func27 (by kernel_rfl) rfl #[.slice Ao49 t428.length co49, .int .i64 1] rfl ms ?_; (with_reducible refine (laws_markNodeS.calls k (fun k_ => some k_ = (.slice Ao49 t428.length co49 : Value).ownBlock) (.slice Ao49 t428.length co49) t428 1 t459 t460 w _ ?side1 ?side2 A26.out).mono ?_); (case side1 => exact bb); (case side2 => exact Kd.R_tight rfl HO430.out); rintro e w62 ⟨rfl, hy0, hb, hkp⟩; refine ⟨_, rfl, ?_⟩; have t_ := fc17 (blk_kept bk hkp (fun hs_ => (fun e_ => (Kd.R_ne HO430.out BK410.out (by decide)) e_) hs_)) (Kd.R_mono (ok' := fun k_ => some k_ ≠ (.slice Ao49 t428.length co49 : Value).ownBlock ∧ some k_ ≠ (.slice Ao54 t445.length co54 : Value).ownBlock) (Kd.R_keptB (HO415.out) hkp (fun k_ hk_ hs_ => by first | exact (hk_.1.2) hs_ | (revert hs_; simp only [ne_eq, hk_, false_imp_iff]))) (fun k_ hk_ => by first | exact ⟨hk_.1.1.2, hk_.1.2⟩ | simp only [ne_eq, hk_, not_false_eq_true, and_self, true_and, and_true])) (Kd.R_mono (ok' := fun k_ => some k_ ≠ (.slice Ao37 t419.length co37 : Value).ownBlock ∧ some k_ ≠ (.slice Ao38 t422.length co38 : Value).ownBlock ∧ some k_ ≠ (.slice Ao52 t425.length co52 : Value).ownBlock ∧ some k_ ≠ (.slice Ao44 t431.length co44 : Value).ownBlock ∧ some k_ ≠ (.slice Ao47 t434.length co47 : Value).ownBlock ∧ some k_ ≠ (.slice Ao48 t437.length co48 : Value).ownBlock ∧ some k_ ≠ (.slice Ao51 t441.length co51 : Value).ownBlock ∧ some k_ ≠ (.slice Ao58 t449.length co58 : Value).ownBlock ∧ some k_ ≠ (.slice Ao59 t452.length co59 : Value).ownBlock ∧ some k_ ≠ (.slice Ao60 t455.length co60 : Value).ownBlock) (Kd.R_keptB ((Kd.R_apart' HO418.out (Kd.R_typed HO430.out) (by decide))) hkp (fun k_ hk_ hs_ => by first | exact (hk_.2) hs_ | (revert hs_; simp only [ne_eq, hk_, false_imp_iff]))) (fun k_ hk_ => by first | exact ⟨hk_.1.1.1.1.1.1.1.1.1.1.1, hk_.1.1.1.1.1.1.1.1.1.1.2, hk_.1.1.1.1.1.1.1.1.1.2, hk_.1.1.1.1.1.1.1.1.2, hk_.1.1.1.1.1.1.1.2, hk_.1.1.1.1.1.1.2, hk_.1.1.1.1.1.2, hk_.1.1.1.1.2, hk_.1.1.1.2, hk_.1.1.2⟩ | simp only [ne_eq, hk_, not_false_eq_true, and_self, true_and, and_true])) (Kd.R_mono (ok' := fun k_ => some k_ ≠ (.slice Ao36 t416.length co36 : Value).ownBlock ∧ some k_ ≠ (.slice Ao38 t422.length co38 : Value).ownBlock ∧ some k_ ≠ (.slice Ao52 t425.length co52 : Value).ownBlock ∧ some k_ ≠ (.slice Ao44 t431.length co44 : Value).ownBlock ∧ some k_ ≠ (.slice Ao47 t434.length co47 : Value).ownBlock ∧ some k_ ≠ (.slice Ao48 t437.length co48 : Value).ownBlock ∧ some k_ ≠ (.slice Ao51 t441.length co51 : Value).ownBlock ∧ some k_ ≠ (.slice Ao58 t449.length co58 : Value).ownBlock ∧ some k_ ≠ (.slice Ao59 t452.length co59 : Value).ownBlock ∧ some k_ ≠ (.slice Ao60 t455.length co60 : Value).ownBlock) (Kd.R_keptB ((Kd.R_apart' HO421.out (Kd.R_typed HO430.out) (by decide))) hkp (fun k_ hk_ hs_ => by first | exact (hk_.2) hs_ | (revert hs_; simp only [ne_eq, hk_, false_imp_iff]))) (fun k_ hk_ => by first | exact ⟨hk_.1.1.1.1.1.1.1.1.1.1.1, hk_.1.1.1.1.1.1.1.1.1.1.2, hk_.1.1.1.1.1.1.1.1.1.2, hk_.1.1.1.1.1.1.1.1.2, hk_.1.1.1.1.1.1.1.2, hk_.1.1.1.1.1.1.2, hk_.1.1.1.1.1.2, hk_.1.1.1.1.2, hk_.1.1.1.2, hk_.1.1.2⟩ | simp only [ne_eq, hk_, not_false_eq_true, and_self, true_and, and_true])) (Kd.R_mono (ok' := fun k_ => some k_ ≠ (.slice Ao36 t416.length co36 : Value).ownBlock ∧ some k_ ≠ (.slice Ao37 t419.length co37 : Value).ownBlock ∧ some k_ ≠ (.slice Ao52 t425.length co52 : Value).ownBlock ∧ some k_ ≠ (.slice Ao44 t431.length co44 : Value).ownBlock ∧ some k_ ≠ (.slice Ao47 t434.length co47 : Value).ownBlock ∧ some k_ ≠ (.slice Ao48 t437.length co48 : Value).ownBlock ∧ some k_ ≠ (.slice Ao51 t441.length co51 : Value).ownBlock ∧ some k_ ≠ (.slice Ao58 t449.length co58 : Value).ownBlock ∧ some k_ ≠ (.slice Ao59 t452.length co59 : Value).ownBlock ∧ some k_ ≠ (.slice Ao60 t455.length co60 : Value).ownBlock) (Kd.R_keptB ((Kd.R_apart' HO424.out (Kd.R_typed HO430.out) (by decide))) hkp (fun k_ hk_ hs_ => by first | exact (hk_.2) hs_ | (revert hs_; simp only [ne_eq, hk_, false_imp_iff]))) (fun k_ hk_ => by first | exact ⟨hk_.1.1.1.1.1.1.1.1.1.1.1, hk_.1.1.1.1.1.1.1.1.1.1.2, hk_.1.1.1.1.1.1.1.1.1.2, hk_.1.1.1.1.1.1.1.1.2, hk_.1.1.1.1.1.1.1.2, hk_.1.1.1.1.1.1.2, hk_.1.1.1.1.1.2, hk_.1.1.1.1.2, hk_.1.1.1.2, hk_.1.1.2⟩ | simp only [ne_eq, hk_, not_false_eq_true, and_self, true_and, and_true])) (Kd.R_mono (ok' := fun k_ => some k_ ≠ (.slice Ao36 t416.length co36 : Value).ownBlock ∧ some k_ ≠ (.slice Ao37 t419.length co37 : Value).ownBlock ∧ some k_ ≠ (.slice Ao38 t422.length co38 : Value).ownBlock ∧ some k_ ≠ (.slice Ao44 t431.length co44 : Value).ownBlock ∧ some k_ ≠ (.slice Ao47 t434.length co47 : Value).ownBlock ∧ some k_ ≠ (.slice Ao48 t437.length co48 : Value).ownBlock ∧ some k_ ≠ (.slice Ao51 t441.length co51 : Value).ownBlock ∧ some k_ ≠ (.slice Ao58 t449.length co58 : Value).ownBlock ∧ some k_ ≠ (.slice Ao59 t452.length co59 : Value).ownBlock ∧ some k_ ≠ (.slice Ao60 t455.length co60 : Value).ownBlock) (Kd.R_keptB ((Kd.R_apart' HO427.out (Kd.R_typed HO430.out) (by decide))) hkp (fun k_ hk_ hs_ => by first | exact (hk_.2) hs_ | (revert hs_; simp only [ne_eq, hk_, false_imp_iff]))) (fun k_ hk_ => by first | exact ⟨hk_.1.1.1.1.1.1.1.1.1.1.1.2, hk_.1.1.1.1.1.1.1.1.1.1.2, hk_.1.1.1.1.1.1.1.1.1.2, hk_.1.1.1.1.1.1.1.1.2, hk_.1.1.1.1.1.1.1.2, hk_.1.1.1.1.1.1.2, hk_.1.1.1.1.1.2, hk_.1.1.1.1.2, hk_.1.1.1.2, hk_.1.1.2⟩ | simp only [ne_eq, hk_, not_false_eq_true, and_self, true_and, and_true])) (Kd.R_reok rfl hy0 (fun k_ e_ => HO430.out.1 k_ e_)) (Kd.R_mono (ok' := fun k_ => some k_ ≠ (.slice Ao36 t416.length co36 : Value).ownBlock ∧ some k_ ≠ (.slice Ao37 t419.length co37 : Value).ownBlock ∧ some k_ ≠ (.slice Ao38 t422.length co38 : Value).ownBlock ∧ some k_ ≠ (.slice Ao52 t425.length co52 : Value).ownBlock ∧ some k_ ≠ (.slice Ao47 t434.length co47 : Value).ownBlock ∧ some k_ ≠ (.slice Ao48 t437.length co48 : Value).ownBlock ∧ some k_ ≠ (.slice Ao51 t441.length co51 : Value).ownBlock ∧ some k_ ≠ (.slice Ao58 t449.length co58 : Value).ownBlock ∧ some k_ ≠ (.slice Ao59 t452.length co59 : Value).ownBlock ∧ some k_ ≠ (.slice Ao60 t455.length co60 : Value).ownBlock) (Kd.R_keptB ((Kd.R_apart' HO433.out (Kd.R_typed HO430.out) (by decide))) hkp (fun k_ hk_ hs_ => by first | exact (hk_.2) hs_ | (revert hs_; simp only [ne_eq, hk_, false_imp_iff]))) (fun k_ hk_ => by first | exact ⟨hk_.1.1.1.1.1.1.1.1.1.2, hk_.1.1.1.1.1.1.1.1.2, hk_.1.1.1.1.1.1.1.2, hk_.1.1.1.1.1.1.2, hk_.1.1.1.1.1.1.1.1.1.1.1, hk_.1.1.1.1.1.1.1.1.1.1.2, hk_.1.1.1.1.1.2, hk_.1.1.1.1.2, hk_.1.1.1.2, hk_.1.1.2⟩ | simp only [ne_eq, hk_, not_false_eq_true, and_self, true_and, and_true])) (Kd.R_mono (ok' := fun k_ => some k_ ≠ (.slice Ao36 t416.length co36 : Value).ownBlock ∧ some k_ ≠ (.slice Ao37 t419.length co37 : Value).ownBlock ∧ some k_ ≠ (.slice Ao38 t422.length co38 : Value).ownBlock ∧ some k_ ≠ (.slice Ao52 t425.length co52 : Value).ownBlock ∧ some k_ ≠ (.slice Ao44 t431.length co44 : Value).ownBlock ∧ some k_ ≠ (.slice Ao48 t437.length co48 : Value).ownBlock ∧ some k_ ≠ (.slice Ao51 t441.length co51 : Value).ownBlock ∧ some k_ ≠ (.slice Ao58 t449.length co58 : Value).ownBlock ∧ some k_ ≠ (.slice Ao59 t452.length co59 : Value).ownBlock ∧ some k_ ≠ (.slice Ao60 t455.length co60 : Value).ownBlock) (Kd.R_keptB ((Kd.R_apart' HO436.out (Kd.R_typed HO430.out) (by decide))) hkp (fun k_ hk_ hs_ => by first | exact (hk_.2) hs_ | (revert hs_; simp only [ne_eq, hk_, false_imp_iff]))) (fun k_ hk_ => by first | exact ⟨hk_.1.1.1.1.1.1.1.1.1.2, hk_.1.1.1.1.1.1.1.1.2, hk_.1.1.1.1.1.1.1.2, hk_.1.1.1.1.1.1.2, hk_.1.1.1.1.1.1.1.1.1.1.1, hk_.1.1.1.1.1.1.1.1.1.1.2, hk_.1.1.1.1.1.2, hk_.1.1.1.1.2, hk_.1.1.1.2, hk_.1.1.2⟩ | simp only [ne_eq, hk_, not_false_eq_true, and_self, true_and, and_true])) (Kd.R_mono (ok' := fun k_ => some k_ ≠ (.slice Ao36 t416.length co36 : Value).ownBlock ∧ some k_ ≠ (.slice Ao37 t419.length co37 : Value).ownBlock ∧ some k_ ≠ (.slice Ao38 t422.length co38 : Value).ownBlock ∧ some k_ ≠ (.slice Ao52 t425.length co52 : Value).ownBlock ∧ some k_ ≠ (.slice Ao44 t431.length co44 : Value).ownBlock ∧ some k_ ≠ (.slice Ao47 t434.length co47 : Value).ownBlock ∧ some k_ ≠ (.slice Ao51 t441.length co51 : Value).ownBlock ∧ some k_ ≠ (.slice Ao58 t449.length co58 : Value).ownBlock ∧ some k_ ≠ (.slice Ao59 t452.length co59 : Value).ownBlock ∧ some k_ ≠ (.slice Ao60 t455.length co60 : Value).ownBlock) (Kd.R_keptB ((Kd.R_apart' HO439.out (Kd.R_typed HO430.out) (by decide))) hkp (fun k_ hk_ hs_ => by first | exact (hk_.2) hs_ | (revert hs_; simp only [ne_eq, hk_, false_imp_iff]))) (fun k_ hk_ => by first | exact ⟨hk_.1.1.1.1.1.1.1.1.1.2, hk_.1.1.1.1.1.1.1.1.2, hk_.1.1.1.1.1.1.1.2, hk_.1.1.1.1.1.1.2, hk_.1.1.1.1.1.1.1.1.1.1.1, hk_.1.1.1.1.1.1.1.1.1.1.2, hk_.1.1.1.1.1.2, hk_.1.1.1.1.2, hk_.1.1.1.2, hk_.1.1.2⟩ | simp only [ne_eq, hk_, not_false_eq_true, and_self, true_and, and_true])) (blk_kept bk hkp (fun hs_ => (fun e_ => (Kd.R_ne HO430.out BK440.out (by decide)) e_) hs_)) (Kd.R_mono (ok' := fun k_ => some k_ ≠ (.slice Ao36 t416.length co36 : Value).ownBlock ∧ some k_ ≠ (.slice Ao37 t419.length co37 : Value).ownBlock ∧ some k_ ≠ (.slice Ao38 t422.length co38 : Value).ownBlock ∧ some k_ ≠ (.slice Ao52 t425.length co52 : Value).ownBlock ∧ some k_ ≠ (.slice Ao44 t431.length co44 : Value).ownBlock ∧ some k_ ≠ (.slice Ao47 t434.length co47 : Value).ownBlock ∧ some k_ ≠ (.slice Ao48 t437.length co48 : Value).ownBlock ∧ some k_ ≠ (.slice Ao58 t449.length co58 : Value).ownBlock ∧ some k_ ≠ (.slice Ao59 t452.length co59 : Value).ownBlock ∧ some k_ ≠ (.slice Ao60 t455.length co60 : Value).ownBlock) (Kd.R_keptB ((Kd.R_apart' HO443.out (Kd.R_typed HO430.out) (by decide))) hkp (fun k_ hk_ hs_ => by first | exact (hk_.2) hs_ | (revert hs_; simp only [ne_eq, hk_, false_imp_iff]))) (fun k_ hk_ => by first | exact ⟨hk_.1.1.1.1.1.1.1.1.1.1.1.2, hk_.1.1.1.1.1.1.1.1.1.1.2, hk_.1.1.1.1.1.1.1.1.1.2, hk_.1.1.1.1.1.1.1.1.2, hk_.1.1.1.1.1.1.1.2, hk_.1.1.1.1.1.1.2, hk_.1.1.1.1.1.2, hk_.1.1.1.1.2, hk_.1.1.1.2, hk_.1.1.2⟩ | simp only [ne_eq, hk_, not_false_eq_true, and_self, true_and, and_true])) (Kd.R_mono (ok' := fun k_ => some k_ ≠ (.slice Ao35 t413.length co35 : Value).ownBlock ∧ some k_ ≠ (.slice Ao49 t428.length co49 : Value).ownBlock) (Kd.R_keptB (HO447.out) hkp (fun k_ hk_ hs_ => by first | exact (hk_.2) hs_ | (revert hs_; simp only [ne_eq, hk_, false_imp_iff]))) (fun k_ hk_ => by first | exact ⟨hk_.1.1.2, hk_.1.2⟩ | simp only [ne_eq, hk_, not_false_eq_true, and_self, true_and, and_true])) (Kd.R_mono (ok' := fun k_ => some k_ ≠ (.slice Ao36 t416.length co36 : Value).ownBlock ∧ some k_ ≠ (.slice Ao37 t419.length co37 : Value).ownBlock ∧ some k_ ≠ (.slice Ao38 t422.length co38 : Value).ownBlock ∧ some k_ ≠ (.slice Ao52 t425.length co52 : Value).ownBlock ∧ some k_ ≠ (.slice Ao44 t431.length co44 : Value).ownBlock ∧ some k_ ≠ (.slice Ao47 t434.length co47 : Value).ownBlock ∧ some k_ ≠ (.slice Ao48 t437.length co48 : Value).ownBlock ∧ some k_ ≠ (.slice Ao51 t441.length co51 : Value).ownBlock ∧ some k_ ≠ (.slice Ao59 t452.length co59 : Value).ownBlock ∧ some k_ ≠ (.slice Ao60 t455.length co60 : Value).ownBlock) (Kd.R_keptB ((Kd.R_apart' HO451.out (Kd.R_typed HO430.out) (by decide))) hkp (fun k_ hk_ hs_ => by first | exact (hk_.2) hs_ | (revert hs_; simp only [ne_eq, hk_, false_imp_iff]))) (fun k_ hk_ => by first | exact ⟨hk_.1.1.1.1.1.1.1.1.1.2, hk_.1.1.1.1.1.1.1.1.2, hk_.1.1.1.1.1.1.1.2, hk_.1.1.1.1.1.1.2, hk_.1.1.1.1.1.2, hk_.1.1.1.1.2, hk_.1.1.1.2, hk_.1.1.2, hk_.1.1.1.1.1.1.1.1.1.1.1, hk_.1.1.1.1.1.1.1.1.1.1.2⟩ | simp only [ne_eq, hk_, not_false_eq_true, and_self, true_and, and_true])) (Kd.R_mono (ok' := fun k_ => some k_ ≠ (.slice Ao36 t416.length co36 : Value).ownBlock ∧ some k_ ≠ (.slice Ao37 t419.length co37 : Value).ownBlock ∧ some k_ ≠ (.slice Ao38 t422.length co38 : Value).ownBlock ∧ some k_ ≠ (.slice Ao52 t425.length co52 : Value).ownBlock ∧ some k_ ≠ (.slice Ao44 t431.length co44 : Value).ownBlock ∧ some k_ ≠ (.slice Ao47 t434.length co47 : Value).ownBlock ∧ some k_ ≠ (.slice Ao48 t437.length co48 : Value).ownBlock ∧ some k_ ≠ (.slice Ao51 t441.length co51 : Value).ownBlock ∧ some k_ ≠ (.slice Ao58 t449.length co58 : Value).ownBlock ∧ some k_ ≠ (.slice Ao60 t455.length co60 : Value).ownBlock) (Kd.R_keptB ((Kd.R_apart' HO454.out (Kd.R_typed HO430.out) (by decide))) hkp (fun k_ hk_ hs_ => by first | exact (hk_.2) hs_ | (revert hs_; simp only [ne_eq, hk_, false_imp_iff]))) (fun k_ hk_ => by first | exact ⟨hk_.1.1.1.1.1.1.1.1.1.2, hk_.1.1.1.1.1.1.1.1.2, hk_.1.1.1.1.1.1.1.2, hk_.1.1.1.1.1.1.2, hk_.1.1.1.1.1.2, hk_.1.1.1.1.2, hk_.1.1.1.2, hk_.1.1.2, hk_.1.1.1.1.1.1.1.1.1.1.1, hk_.1.1.1.1.1.1.1.1.1.1.2⟩ | simp only [ne_eq, hk_, not_false_eq_true, and_self, true_and, and_true])) (Kd.R_mono (ok' := fun k_ => some k_ ≠ (.slice Ao36 t416.length co36 : Value).ownBlock ∧ some k_ ≠ (.slice Ao37 t419.length co37 : Value).ownBlock ∧ some k_ ≠ (.slice Ao38 t422.length co38 : Value).ownBlock ∧ some k_ ≠ (.slice Ao52 t425.length co52 : Value).ownBlock ∧ some k_ ≠ (.slice Ao44 t431.length co44 : Value).ownBlock ∧ some k_ ≠ (.slice Ao47 t434.length co47 : Value).ownBlock ∧ some k_ ≠ (.slice Ao48 t437.length co48 : Value).ownBlock ∧ some k_ ≠ (.slice Ao51 t441.length co51 : Value).ownBlock ∧ some k_ ≠ (.slice Ao58 t449.length co58 : Value).ownBlock ∧ some k_ ≠ (.slice Ao59 t452.length co59 : Value).ownBlock) (Kd.R_keptB ((Kd.R_apart' HO457.out (Kd.R_typed HO430.out) (by decide))) hkp (fun k_ hk_ hs_ => by first | exact (hk_.2) hs_ | (revert hs_; simp only [ne_eq, hk_, false_imp_iff]))) (fun k_ hk_ => by first | exact ⟨hk_.1.1.1.1.1.1.1.1.1.2, hk_.1.1.1.1.1.1.1.1.2, hk_.1.1.1.1.1.1.1.2, hk_.1.1.1.1.1.1.2, hk_.1.1.1.1.1.2, hk_.1.1.1.1.2, hk_.1.1.1.2, hk_.1.1.2, hk_.1.1.1.1.1.1.1.1.1.1.1, hk_.1.1.1.1.1.1.1.1.1.1.2⟩ | simp only [ne_eq, hk_, not_false_eq_true, and_self, true_and, and_true])) (hb); clear BK410 HO415 HO418 HO421 HO424 HO427 HO430 HO433 HO436 HO439 BK440 HO443 HO447 HO451 HO454 HO457 HB; obtain ⟨BK410, HO415, HO418, HO421, HO424, HO427, HO430, HO433, HO436, HO439, BK440, HO443, HO447, HO451, HO454, HO457, HB⟩ := t_; (try clear hb); (try clear hkp); (try clear hy0); obtain ⟨hcz63_0, hcz63_1, hcz63_2, hfz63_0, hfz63_1, hfz63_2⟩ := bx3 BK440.out) | ((with_reducible refine gate_callee (f := 28) rfl ?_); refine goesL_ (some 59) rfl rfl Try.func28 (by kernel_rfl) rfl #[.agg #[.slice Ao44 t431.length co44, .slice Ao47 t434.length co47, .slice Ao48 t437.length co48], .int .i64 t459] rfl ms ?_; (with_reducible refine (laws_markNumbers.calls k (fun k_ => some k_ = (.slice Ao44 t431.length co44 : Value).ownBlock) (.slice Ao44 t431.length co44) t431 (fun k_ => some k_ = (.slice Ao47 t434.length co47 : Value).ownBlock) (.slice Ao47 t434.length co47) t434 (fun k_ => some k_ = (.slice Ao48 t437.length co48 : Value).ownBlock) (.slice Ao48 t437.length co48) t437 t459 t461 t462 t463 t464 w _ ?side1 ?side2 ?side3 ?side4 ?side5 ?side6 ?side7 ?side8 ?side9 ?side10 A27.out).mono ?_); (case side1 => exact bb); (case side2 => exact Kd.R_tight rfl HO433.out); (case side3 => exact fun k_ e_ => (HO433.out.1 k_ e_.symm).2.2.2.2.1); (case side4 => exact fun k_ e_ => (HO433.out.1 k_ e_.symm).2.2.2.2.2.1); (case side5 => exact Kd.R_tight rfl HO436.out); (case side6 => exact fun k_ e_ => (HO436.out.1 k_ e_.symm).2.2.2.2.1); (case side7 => exact fun k_ e_ => (HO436.out.1 k_ e_.symm).2.2.2.2.2.1); (case side8 => exact Kd.R_tight rfl HO439.out); (case side9 => exact fun k_ e_ => (HO439.out.1 k_ e_.symm).2.2.2.2.1); (case side10 => exact fun k_ e_ => (HO439.out.1 k_ e_.symm).2.2.2.2.2.1); rintro e w64 ⟨rfl, hy0, hy1, hy2, hb, hkp⟩; refine ⟨_, rfl, ?_⟩; have t_ := fc17 (blk_kept bk hkp (fun hs_ => Or.elim hs_ (fun e_ => (fun e_ => (Kd.R_ne HO433.out BK410.out (by decide)) e_) e_) (fun e_ => Or.elim e_ (fun e_ => (fun e_ => (Kd.R_ne HO436.out BK410.out (by decide)) e_) e_) (fun e_ => (fun e_ => (Kd.R_ne HO439.out BK410.out (by decide)) e_) e_)))) (Kd.R_mono (ok' := fun k_ => some k_ ≠ (.slice Ao49 t428.length co49 : Value).ownBlock ∧ some k_ ≠ (.slice Ao54 t445.length co54 : Value).ownBlock) (Kd.R_keptB ((Kd.R_apart' (Kd.R_apart' (Kd.R_apart' HO415.out (Kd.R_typed HO433.out) (by decide)) (Kd.R_typed HO436.out) (by decide)) (Kd.R_typed HO439.out) (by decide))) hkp (fun k_ hk_ hs_ => Or.elim hs_ (fun e_ => (hk_.1.1.2) e_) (fun e_ => Or.elim e_ (fun e_ => (hk_.1.2) e_) (fun e_ => (hk_.2) e_)))) (fun k_ hk_ => by first | exact ⟨hk_.1.1.1.1.1, hk_.1.1.1.1.2⟩ | simp only [ne_eq, hk_, not_false_eq_true, and_self, true_and, and_true])) (Kd.R_mono (ok' := fun k_ => some k_ ≠ (.slice Ao37 t419.length co37 : Value).ownBlock ∧ some k_ ≠ (.slice Ao38 t422.length co38 : Value).ownBlock ∧ some k_ ≠ (.slice Ao52 t425.length co52 : Value).ownBlock ∧ some k_ ≠ (.slice Ao44 t431.length co44 : Value).ownBlock ∧ some k_ ≠ (.slice Ao47 t434.length co47 : Value).ownBlock ∧ some k_ ≠ (.slice Ao48 t437.length co48 : Value).ownBlock ∧ some k_ ≠ (.slice Ao51 t441.length co51 : Value).ownBlock ∧ some k_ ≠ (.slice Ao58 t449.length co58 : Value).ownBlock ∧ some k_ ≠ (.slice Ao59 t452.length co59 : Value).ownBlock ∧ some k_ ≠ (.slice Ao60 t455.length co60 : Value).ownBlock) (Kd.R_keptB (HO418.out) hkp (fun k_ hk_ hs_ => Or.elim hs_ (fun e_ => (hk_.2.2.2.1) e_) (fun e_ => Or.elim e_ (fun e_ => (hk_.2.2.2.2.1) e_) (fun e_ => (hk_.2.2.2.2.2.1) e_)))) (fun k_ hk_ => by first | exact ⟨hk_.1.1, hk_.1.2.1, hk_.1.2.2.1, hk_.1.2.2.2.1, hk_.1.2.2.2.2.1, hk_.1.2.2.2.2.2.1, hk_.1.2.2.2.2.2.2.1, hk_.1.2.2.2.2.2.2.2.1, hk_.1.2.2.2.2.2.2.2.2.1, hk_.1.2.2.2.2.2.2.2.2.2⟩ | simp only [ne_eq, hk_, not_false_eq_true, and_self, true_and, and_true])) (Kd.R_mono (ok' := fun k_ => some k_ ≠ (.slice Ao36 t416.length co36 : Value).ownBlock ∧ some k_ ≠ (.slice Ao38 t422.length co38 : Value).ownBlock ∧ some k_ ≠ (.slice Ao52 t425.length co52 : Value).ownBlock ∧ some k_ ≠ (.slice Ao44 t431.length co44 : Value).ownBlock ∧ some k_ ≠ (.slice Ao47 t434.length co47 : Value).ownBlock ∧ some k_ ≠ (.slice Ao48 t437.length co48 : Value).ownBlock ∧ some k_ ≠ (.slice Ao51 t441.length co51 : Value).ownBlock ∧ some k_ ≠ (.slice Ao58 t449.length co58 : Value).ownBlock ∧ some k_ ≠ (.slice Ao59 t452.length co59 : Value).ownBlock ∧ some k_ ≠ (.slice Ao60 t455.length co60 : Value).ownBlock) (Kd.R_keptB (HO421.out) hkp (fun k_ hk_ hs_ => Or.elim hs_ (fun e_ => (hk_.2.2.2.1) e_) (fun e_ => Or.elim e_ (fun e_ => (hk_.2.2.2.2.1) e_) (fun e_ => (hk_.2.2.2.2.2.1) e_)))) (fun k_ hk_ => by first | exact ⟨hk_.1.1, hk_.1.2.1, hk_.1.2.2.1, hk_.1.2.2.2.1, hk_.1.2.2.2.2.1, hk_.1.2.2.2.2.2.1, hk_.1.2.2.2.2.2.2.1, hk_.1.2.2.2.2.2.2.2.1, hk_.1.2.2.2.2.2.2.2.2.1, hk_.1.2.2.2.2.2.2.2.2.2⟩ | simp only [ne_eq, hk_, not_false_eq_true, and_self, true_and, and_true])) (Kd.R_mono (ok' := fun k_ => some k_ ≠ (.slice Ao36 t416.length co36 : Value).ownBlock ∧ some k_ ≠ (.slice Ao37 t419.length co37 : Value).ownBlock ∧ some k_ ≠ (.slice Ao52 t425.length co52 : Value).ownBlock ∧ some k_ ≠ (.slice Ao44 t431.length co44 : Value).ownBlock ∧ some k_ ≠ (.slice Ao47 t434.length co47 : Value).ownBlock ∧ some k_ ≠ (.slice Ao48 t437.length co48 : Value).ownBlock ∧ some k_ ≠ (.slice Ao51 t441.length co51 : Value).ownBlock ∧ some k_ ≠ (.slice Ao58 t449.length co58 : Value).ownBlock ∧ some k_ ≠ (.slice Ao59 t452.length co59 : Value).ownBlock ∧ some k_ ≠ (.slice Ao60 t455.length co60 : Value).ownBlock) (Kd.R_keptB (HO424.out) hkp (fun k_ hk_ hs_ => Or.elim hs_ (fun e_ => (hk_.2.2.2.1) e_) (fun e_ => Or.elim e_ (fun e_ => (hk_.2.2.2.2.1) e_) (fun e_ => (hk_.2.2.2.2.2.1) e_)))) (fun k_ hk_ => by first | exact ⟨hk_.1.1, hk_.1.2.1, hk_.1.2.2.1, hk_.1.2.2.2.1, hk_.1.2.2.2.2.1, hk_.1.2.2.2.2.2.1, hk_.1.2.2.2.2.2.2.1, hk_.1.2.2.2.2.2.2.2.1, hk_.1.2.2.2.2.2.2.2.2.1, hk_.1.2.2.2.2.2.2.2.2.2⟩ | simp only [ne_eq, hk_, not_false_eq_true, and_self, true_and, and_true])) (Kd.R_mono (ok' := fun k_ => some k_ ≠ (.slice Ao36 t416.length co36 : Value).ownBlock ∧ some k_ ≠ (.slice Ao37 t419.length co37 : Value).ownBlock ∧ some k_ ≠ (.slice Ao38 t422.length co38 : Value).ownBlock ∧ some k_ ≠ (.slice Ao44 t431.length co44 : Value).ownBlock ∧ some k_ ≠ (.slice Ao47 t434.length co47 : Value).ownBlock ∧ some k_ ≠ (.slice Ao48 t437.length co48 : Value).ownBlock ∧ some k_ ≠ (.slice Ao51 t441.length co51 : Value).ownBlock ∧ some k_ ≠ (.slice Ao58 t449.length co58 : Value).ownBlock ∧ some k_ ≠ (.slice Ao59 t452.length co59 : Value).ownBlock ∧ some k_ ≠ (.slice Ao60 t455.length co60 : Value).ownBlock) (Kd.R_keptB (HO427.out) hkp (fun k_ hk_ hs_ => Or.elim hs_ (fun e_ => (hk_.2.2.2.1) e_) (fun e_ => Or.elim e_ (fun e_ => (hk_.2.2.2.2.1) e_) (fun e_ => (hk_.2.2.2.2.2.1) e_)))) (fun k_ hk_ => by first | exact ⟨hk_.1.1, hk_.1.2.1, hk_.1.2.2.1, hk_.1.2.2.2.1, hk_.1.2.2.2.2.1, hk_.1.2.2.2.2.2.1, hk_.1.2.2.2.2.2.2.1, hk_.1.2.2.2.2.2.2.2.1, hk_.1.2.2.2.2.2.2.2.2.1, hk_.1.2.2.2.2.2.2.2.2.2⟩ | simp only [ne_eq, hk_, not_false_eq_true, and_self, true_and, and_true])) (Kd.R_mono (ok' := fun k_ => some k_ ≠ (.slice Ao35 t413.length co35 : Value).ownBlock ∧ some k_ ≠ (.slice Ao54 t445.length co54 : Value).ownBlock) (Kd.R_keptB ((Kd.R_apart' (Kd.R_apart' (Kd.R_apart' HO430.out (Kd.R_typed HO433.out) (by decide)) (Kd.R_typed HO436.out) (by decide)) (Kd.R_typed HO439.out) (by decide))) hkp (fun k_ hk_ hs_ => Or.elim hs_ (fun e_ => (hk_.1.1.2) e_) (fun e_ => Or.elim e_ (fun e_ => (hk_.1.2) e_) (fun e_ => (hk_.2) e_)))) (fun k_ hk_ => by first | exact ⟨hk_.1.1.1.1.1.2, hk_.1.1.1.1.2⟩ | simp only [ne_eq, hk_, not_false_eq_true, and_self, true_and, and_true])) (Kd.R_reok rfl hy0 (fun k_ e_ => HO433.out.1 k_ e_)) (Kd.R_reok rfl hy1 (fun k_ e_ => HO436.out.1 k_ e_)) (Kd.R_reok rfl hy2 (fun k_ e_ => HO439.out.1 k_ e_)) (blk_kept bk hkp (fun hs_ => Or.elim hs_ (fun e_ => (fun e_ => (Kd.R_ne HO433.out BK440.out (by decide)) e_) e_) (fun e_ => Or.elim e_ (fun e_ => (fun e_ => (Kd.R_ne HO436.out BK440.out (by decide)) e_) e_) (fun e_ => (fun e_ => (Kd.R_ne HO439.out BK440.out (by decide)) e_) e_)))) (Kd.R_mono (ok' := fun k_ => some k_ ≠ (.slice Ao36 t416.length co36 : Value).ownBlock ∧ some k_ ≠ (.slice Ao37 t419.length co37 : Value).ownBlock ∧ some k_ ≠ (.slice Ao38 t422.length co38 : Value).ownBlock ∧ some k_ ≠ (.slice Ao52 t425.length co52 : Value).ownBlock ∧ some k_ ≠ (.slice Ao44 t431.length co44 : Value).ownBlock ∧ some k_ ≠ (.slice Ao47 t434.length co47 : Value).ownBlock ∧ some k_ ≠ (.slice Ao48 t437.length co48 : Value).ownBlock ∧ some k_ ≠ (.slice Ao58 t449.length co58 : Value).ownBlock ∧ some k_ ≠ (.slice Ao59 t452.length co59 : Value).ownBlock ∧ some k_ ≠ (.slice Ao60 t455.length co60 : Value).ownBlock) (Kd.R_keptB (HO443.out) hkp (fun k_ hk_ hs_ => Or.elim hs_ (fun e_ => (hk_.2.2.2.2.1) e_) (fun e_ => Or.elim e_ (fun e_ => (hk_.2.2.2.2.2.1) e_) (fun e_ => (hk_.2.2.2.2.2.2.1) e_)))) (fun k_ hk_ => by first | exact ⟨hk_.1.1, hk_.1.2.1, hk_.1.2.2.1, hk_.1.2.2.2.1, hk_.1.2.2.2.2.1, hk_.1.2.2.2.2.2.1, hk_.1.2.2.2.2.2.2.1, hk_.1.2.2.2.2.2.2.2.1, hk_.1.2.2.2.2.2.2.2.2.1, hk_.1.2.2.2.2.2.2.2.2.2⟩ | simp only [ne_eq, hk_, not_false_eq_true, and_self, true_and, and_true])) (Kd.R_mono (ok' := fun k_ => some k_ ≠ (.slice Ao35 t413.length co35 : Value).ownBlock ∧ some k_ ≠ (.slice Ao49 t428.length co49 : Value).ownBlock) (Kd.R_keptB ((Kd.R_apart' (Kd.R_apart' (Kd.R_apart' HO447.out (Kd.R_typed HO433.out) (by decide)) (Kd.R_typed HO436.out) (by decide)) (Kd.R_typed HO439.out) (by decide))) hkp (fun k_ hk_ hs_ => Or.elim hs_ (fun e_ => (hk_.1.1.2) e_) (fun e_ => Or.elim e_ (fun e_ => (hk_.1.2) e_) (fun e_ => (hk_.2) e_)))) (fun k_ hk_ => by first | exact ⟨hk_.1.1.1.1.1, hk_.1.1.1.1.2⟩ | simp only [ne_eq, hk_, not_false_eq_true, and_self, true_and, and_true])) (Kd.R_mono (ok' := fun k_ => some k_ ≠ (.slice Ao36 t416.length co36 : Value).ownBlock ∧ some k_ ≠ (.slice Ao37 t419.length co37 : Value).ownBlock ∧ some k_ ≠ (.slice Ao38 t422.length co38 : Value).ownBlock ∧ some k_ ≠ (.slice Ao52 t425.length co52 : Value).ownBlock ∧ some k_ ≠ (.slice Ao44 t431.length co44 : Value).ownBlock ∧ some k_ ≠ (.slice Ao47 t434.length co47 : Value).ownBlock ∧ some k_ ≠ (.slice Ao48 t437.length co48 : Value).ownBlock ∧ some k_ ≠ (.slice Ao51 t441.length co51 : Value).ownBlock ∧ some k_ ≠ (.slice Ao59 t452.length co59 : Value).ownBlock ∧ some k_ ≠ (.slice Ao60 t455.length co60 : Value).ownBlock) (Kd.R_keptB (HO451.out) hkp (fun k_ hk_ hs_ => Or.elim hs_ (fun e_ => (hk_.2.2.2.2.1) e_) (fun e_ => Or.elim e_ (fun e_ => (hk_.2.2.2.2.2.1) e_) (fun e_ => (hk_.2.2.2.2.2.2.1) e_)))) (fun k_ hk_ => by first | exact ⟨hk_.1.1, hk_.1.2.1, hk_.1.2.2.1, hk_.1.2.2.2.1, hk_.1.2.2.2.2.1, hk_.1.2.2.2.2.2.1, hk_.1.2.2.2.2.2.2.1, hk_.1.2.2.2.2.2.2.2.1, hk_.1.2.2.2.2.2.2.2.2.1, hk_.1.2.2.2.2.2.2.2.2.2⟩ | simp only [ne_eq, hk_, not_false_eq_true, and_self, true_and, and_true])) (Kd.R_mono (ok' := fun k_ => some k_ ≠ (.slice Ao36 t416.length co36 : Value).ownBlock ∧ some k_ ≠ (.slice Ao37 t419.length co37 : Value).ownBlock ∧ some k_ ≠ (.slice Ao38 t422.length co38 : Value).ownBlock ∧ some k_ ≠ (.slice Ao52 t425.length co52 : Value).ownBlock ∧ some k_ ≠ (.slice Ao44 t431.length co44 : Value).ownBlock ∧ some k_ ≠ (.slice Ao47 t434.length co47 : Value).ownBlock ∧ some k_ ≠ (.slice Ao48 t437.length co48 : Value).ownBlock ∧ some k_ ≠ (.slice Ao51 t441.length co51 : Value).ownBlock ∧ some k_ ≠ (.slice Ao58 t449.length co58 : Value).ownBlock ∧ some k_ ≠ (.slice Ao60 t455.length co60 : Value).ownBlock) (Kd.R_keptB (HO454.out) hkp (fun k_ hk_ hs_ => Or.elim hs_ (fun e_ => (hk_.2.2.2.2.1) e_) (fun e_ => Or.elim e_ (fun e_ => (hk_.2.2.2.2.2.1) e_) (fun e_ => (hk_.2.2.2.2.2.2.1) e_)))) (fun k_ hk_ => by first | exact ⟨hk_.1.1, hk_.1.2.1, hk_.1.2.2.1, hk_.1.2.2.2.1, hk_.1.2.2.2.2.1, hk_.1.2.2.2.2.2.1, hk_.1.2.2.2.2.2.2.1, hk_.1.2.2.2.2.2.2.2.1, hk_.1.2.2.2.2.2.2.2.2.1, hk_.1.2.2.2.2.2.2.2.2.2⟩ | simp only [ne_eq, hk_, not_false_eq_true, and_self, true_and, and_true])) (Kd.R_mono (ok' := fun k_ => some k_ ≠ (.slice Ao36 t416.length co36 : Value).ownBlock ∧ some k_ ≠ (.slice Ao37 t419.length co37 : Value).ownBlock ∧ some k_ ≠ (.slice Ao38 t422.length co38 : Value).ownBlock ∧ some k_ ≠ (.slice Ao52 t425.length co52 : Value).ownBlock ∧ some k_ ≠ (.slice Ao44 t431.length co44 : Value).ownBlock ∧ some k_ ≠ (.slice Ao47 t434.length co47 : Value).ownBlock ∧ some k_ ≠ (.slice Ao48 t437.length co48 : Value).ownBlock ∧ some k_ ≠ (.slice Ao51 t441.length co51 : Value).ownBlock ∧ some k_ ≠ (.slice Ao58 t449.length co58 : Value).ownBlock ∧ some k_ ≠ (.slice Ao59 t452.length co59 : Value).ownBlock) (Kd.R_keptB (HO457.out) hkp (fun k_ hk_ hs_ => Or.elim hs_ (fun e_ => (hk_.2.2.2.2.1) e_) (fun e_ => Or.elim e_ (fun e_ => (hk_.2.2.2.2.2.1) e_) (fun e_ => (hk_.2.2.2.2.2.2.1) e_)))) (fun k_ hk_ => by first | exact ⟨hk_.1.1, hk_.1.2.1, hk_.1.2.2.1, hk_.1.2.2.2.1, hk_.1.2.2.2.2.1, hk_.1.2.2.2.2.2.1, hk_.1.2.2.2.2.2.2.1, hk_.1.2.2.2.2.2.2.2.1, hk_.1.2.2.2.2.2.2.2.2.1, hk_.1.2.2.2.2.2.2.2.2.2⟩ | simp only [ne_eq, hk_, not_false_eq_true, and_self, true_and, and_true])) (hb); clear BK410 HO415 HO418 HO421 HO424 HO427 HO430 HO433 HO436 HO439 BK440 HO443 HO447 HO451 HO454 HO457 HB; obtain ⟨BK410, HO415, HO418, HO421, HO424, HO427, HO430, HO433, HO436, HO439, BK440, HO443, HO447, HO451, HO454, HO457, HB⟩ := t_; (try clear hb); (try clear hkp); (try clear hy0); (try clear hy1); (try clear hy2)))
      (try simp only [Act.put, List.setIfInBounds_toArray, List.set_cons_zero, List.set_cons_succ])
      go_cut [67] (fun v67 wc => ∃ (kq : Nat) (x67_27 : Bool), v67 = .bool x67_27 ∧ Aside0 (laws_FnExactDownToId.j0 kq l0 a2 t425 t441 x67_27 l1_0 l1_1 l1_2 = some r) ∧ Aside0 (kq ≤ k) ∧ Aside0 (Kd.R (Kd.int .i64) 3 wc w.heap.size (fun k_ => some k_ ≠ ((.slice Ao51 t441.length co51) : Value).ownBlock ∧ some k_ ≠ ((.slice Ao44 t431.length co44) : Value).ownBlock ∧ some k_ ≠ ((.slice Ao47 t434.length co47) : Value).ownBlock ∧ some k_ ≠ ((.slice Ao48 t437.length co48) : Value).ownBlock) (.slice Ao52 t425.length co52) t425) ∧ Aside0 (Kd.R (Kd.int .i64) 3 wc w.heap.size (fun k_ => some k_ ≠ ((.slice Ao52 t425.length co52) : Value).ownBlock ∧ some k_ ≠ ((.slice Ao44 t431.length co44) : Value).ownBlock ∧ some k_ ≠ ((.slice Ao47 t434.length co47) : Value).ownBlock ∧ some k_ ≠ ((.slice Ao48 t437.length co48) : Value).ownBlock) (.slice Ao51 t441.length co51) t441) ∧ Aside0 (Kd.R (Kd.int .i64) 3 wc w.heap.size (fun k_ => some k_ ≠ ((.slice Ao52 t425.length co52) : Value).ownBlock ∧ some k_ ≠ ((.slice Ao51 t441.length co51) : Value).ownBlock ∧ some k_ ≠ ((.slice Ao47 t434.length co47) : Value).ownBlock ∧ some k_ ≠ ((.slice Ao48 t437.length co48) : Value).ownBlock) (.slice Ao44 t431.length co44) t462) ∧ Aside0 (Kd.R (Kd.int .i64) 3 wc w.heap.size (fun k_ => some k_ ≠ ((.slice Ao52 t425.length co52) : Value).ownBlock ∧ some k_ ≠ ((.slice Ao51 t441.length co51) : Value).ownBlock ∧ some k_ ≠ ((.slice Ao44 t431.length co44) : Value).ownBlock ∧ some k_ ≠ ((.slice Ao48 t437.length co48) : Value).ownBlock) (.slice Ao47 t434.length co47) t463) ∧ Aside0 (Kd.R (Kd.int .i64) 3 wc w.heap.size (fun k_ => some k_ ≠ ((.slice Ao52 t425.length co52) : Value).ownBlock ∧ some k_ ≠ ((.slice Ao51 t441.length co51) : Value).ownBlock ∧ some k_ ≠ ((.slice Ao44 t431.length co44) : Value).ownBlock ∧ some k_ ≠ ((.slice Ao47 t434.length co47) : Value).ownBlock) (.slice Ao48 t437.length co48) t464) ∧ Aside0 (wc.heap[gb410]? = some (.cells #[(.slice A1_0 l1_0.length c1_0), (.slice A1_1 l1_1.length c1_1), (.slice A1_2 l1_2.length c1_2)] 25 (0, 0))) ∧ Aside0 (wc.heap[gb440]? = some (.cells #[(.slice Ao44 t431.length co44), (.slice Ao47 t434.length co47), (.slice Ao48 t437.length co48)] 31 (0, 0))) ∧ Aside0 (Below w.heap.size w wc))
      case first =>
       have H := HC28.out
       clear HC28
       by_cases c65 : t461 < 0
       ·rw [if_pos c65] at H
        exfalso; with_reducible first | exact laws_FnExactDownToId.no_ H hrT_ | exact laws_FnExactDownToId.j0_t H hrT_
       ·rw [if_neg c65] at H
        have c65b0 : decide (t461 < 0) = false := decide_eq_false c65
        clear c65
        (first | rw [c65b0] | (simp only [i64_w, i32_w]; rw [c65b0]) | skip)
        replace H := Option.bind_eq_some_iff.mp H
        obtain ⟨t465, A660, H⟩ := H
        replace H : (laws_FnExactDownToId.j0 k l0 a2 t425 t441 (!t465) l1_0 l1_1 l1_2) = some r := H
        have A66 := Aside0.mk A660
        clear A660
        have H' := Aside0.mk H
        clear H
        go_wp2_with (first | (go_at_call 24; (with_reducible refine (laws_eqIntS.calls k _ _ t441 _ _ t425 t465 _ ?side1 ?side2 ?side3 ?side4 A66.out).mono ?_); (case side1 => repeat (first | exact (Kd.R_reads' HO443.out).2.2 | (with_reducible refine Kd.C_alloc ?_ _) | (with_reducible refine Kd.C_drewN ?_ _) | (with_reducible refine Kd.C_drew ?_))); (case side2 => exact (Kd.R_reads' HO443.out).2.1); (case side3 => repeat (first | exact (Kd.R_reads' HO427.out).2.2 | (with_reducible refine Kd.C_alloc ?_ _) | (with_reducible refine Kd.C_drewN ?_ _) | (with_reducible refine Kd.C_drew ?_))); (case side4 => exact (Kd.R_reads' HO427.out).2.1); rintro e w' ⟨rfl, ⟨nd, rfl⟩⟩))
        go_meet
        case rel => exact ⟨_, (!t465), (by first | rfl | (simp; done) | (simp [*]; done)), H', ⟨by first | omega | exact Nat.le_refl _⟩, ⟨by (with_reducible repeat (first | apply Kd.R_alloc | apply Kd.R_drewN | apply Kd.R_drew)); exact Kd.R_mono HO427.out (fun _ hk => (And.intro (hk.2.2.2.2.2.2.1) ((And.intro (hk.2.2.2.1) ((And.intro (hk.2.2.2.2.1) (hk.2.2.2.2.2.1)))))))⟩, ⟨by (with_reducible repeat (first | apply Kd.R_alloc | apply Kd.R_drewN | apply Kd.R_drew)); exact Kd.R_mono HO443.out (fun _ hk => (And.intro (hk.2.2.2.1) ((And.intro (hk.2.2.2.2.1) ((And.intro (hk.2.2.2.2.2.1) (hk.2.2.2.2.2.2.1)))))))⟩, ⟨by (with_reducible repeat (first | apply Kd.R_alloc | apply Kd.R_drewN | apply Kd.R_drew)); exact Kd.R_mono HO433.out (fun _ hk => (And.intro (hk.2.2.2.1) ((And.intro (hk.2.2.2.2.2.2.1) ((And.intro (hk.2.2.2.2.1) (hk.2.2.2.2.2.1)))))))⟩, ⟨by (with_reducible repeat (first | apply Kd.R_alloc | apply Kd.R_drewN | apply Kd.R_drew)); exact Kd.R_mono HO436.out (fun _ hk => (And.intro (hk.2.2.2.1) ((And.intro (hk.2.2.2.2.2.2.1) ((And.intro (hk.2.2.2.2.1) (hk.2.2.2.2.2.1)))))))⟩, ⟨by (with_reducible repeat (first | apply Kd.R_alloc | apply Kd.R_drewN | apply Kd.R_drew)); exact Kd.R_mono HO439.out (fun _ hk => (And.intro (hk.2.2.2.1) ((And.intro (hk.2.2.2.2.2.2.1) ((And.intro (hk.2.2.2.2.1) (hk.2.2.2.2.2.1)))))))⟩, ⟨by exact bk⟩, ⟨by exact bk⟩, ⟨bb⟩⟩
      case rest =>
       clear HC28
       try clear c1
       try clear c2
       try clear p2
       try clear c3
       try clear c4
       try clear c5
       try clear c5b0
       try clear c6
       try clear c8
       try clear c8b0
       try clear c18
       try clear c19
       try clear c20
       try clear c21
       try clear c22
       try clear c23
       try clear c24
       try clear c25
       try clear c26
       try clear c27
       try clear c28
       try clear c45
       try clear c65
       try clear c65b0
       try clear hcz10_0
       try clear hcz10_1
       try clear hcz10_2
       try clear hcz30_0
       try clear hcz30_1
       try clear hcz30_2
       try clear hcz41_0
       try clear hcz41_1
       try clear hcz41_2
       try clear hcz46_0
       try clear hcz46_1
       try clear hcz46_2
       try clear hcz63_0
       try clear hcz63_1
       try clear hcz63_2
       try clear hfz10_0
       try clear hfz10_1
       try clear hfz10_2
       try clear hfz30_0
       try clear hfz30_1
       try clear hfz30_2
       try clear hfz41_0
       try clear hfz41_1
       try clear hfz41_2
       try clear hfz46_0
       try clear hfz46_1
       try clear hfz46_2
       try clear hfz63_0
       try clear hfz63_1
       try clear hfz63_2
       obtain ⟨kq, x67_27, rfl, HA, HJ27, HO_8, HO_11, HO_441000, HO_441001, HO_441002, BK410, BK440, HB⟩ := hcut
       have hl441000_27 := (Kd.R_reads' HO_441000.out).1
       rw [hl441000_27] at HO_441000
       (try simp only [hl441000_27])
       (try simp only [hl441000_27] at BK410)
       (try simp only [hl441000_27] at BK440)
       (try simp only [hl441000_27] at HO_8)
       (try simp only [hl441000_27] at HO_11)
       (try simp only [hl441000_27] at HO_441001)
       (try simp only [hl441000_27] at HO_441002)
       have hl441001_27 := (Kd.R_reads' HO_441001.out).1
       rw [hl441001_27] at HO_441001
       (try simp only [hl441001_27])
       (try simp only [hl441001_27] at BK410)
       (try simp only [hl441001_27] at BK440)
       (try simp only [hl441001_27] at HO_8)
       (try simp only [hl441001_27] at HO_11)
       (try simp only [hl441001_27] at HO_441000)
       (try simp only [hl441001_27] at HO_441002)
       have hl441002_27 := (Kd.R_reads' HO_441002.out).1
       rw [hl441002_27] at HO_441002
       (try simp only [hl441002_27])
       (try simp only [hl441002_27] at BK410)
       (try simp only [hl441002_27] at BK440)
       (try simp only [hl441002_27] at HO_8)
       (try simp only [hl441002_27] at HO_11)
       (try simp only [hl441002_27] at HO_441000)
       (try simp only [hl441002_27] at HO_441001)
       cases kq with
       | zero => exact absurd HA.out (by simp [laws_FnExactDownToId.j0])
       | succ kj27 =>
        have H := HA.out
        clear HA
        simp only [laws_FnExactDownToId.j0] at H
        by_cases c67 : x67_27 = true
        ·subst c67
         have H1 : (some false) = some r := by rw [if_pos rfl] at H; exact H
         clear H
         have H := H1
         exfalso; with_reducible first | exact laws_FnExactDownToId.no_ H hrT_ | exact laws_FnExactDownToId.j0_t H hrT_
        ·replace c67 := Bool.eq_false_iff.mpr c67
         subst c67
         have H1 : ((laws_markIntS.f kj27 t441 1).bind fun bt466 => ((laws_heldIntS.f kj27 bt466.2 1).bind fun t468 => (if t468 < 0 then (some false) else (if t468 = bt466.1 then ((laws_toNodeS.f kj27 l0).bind fun t469 => ((laws_toNumbers.f kj27 l1_0 l1_1 l1_2).bind fun bt472 => ((impl_DownToId.f kj27 t469 bt472.1 bt472.2.1 bt472.2.2 a2).bind fun t481 => ((laws_eqIntS.f kj27 t481 t425).bind fun t484 => (if t484 = true then ((laws_heldIntS.f kj27 bt466.2 1).bind fun t485 => (if t485 < 0 then (some false) else (if t485 = bt466.1 then (some true) else (some false)))) else (some false)))))) else (some false))))) = some r := by rw [if_neg (show ¬ (false = true) by decide)] at H; exact H
         clear H
         have H := H1
         clear H1
         replace H := Option.bind_eq_some_iff.mp H
         obtain ⟨⟨t466, t467⟩, A680, H⟩ := H
         replace H : ((laws_heldIntS.f kj27 t467 1).bind fun t468 => (if t468 < 0 then (some false) else (if t468 = t466 then ((laws_toNodeS.f kj27 l0).bind fun t469 => ((laws_toNumbers.f kj27 l1_0 l1_1 l1_2).bind fun bt472 => ((impl_DownToId.f kj27 t469 bt472.1 bt472.2.1 bt472.2.2 a2).bind fun t481 => ((laws_eqIntS.f kj27 t481 t425).bind fun t484 => (if t484 = true then ((laws_heldIntS.f kj27 t467 1).bind fun t485 => (if t485 < 0 then (some false) else (if t485 = t466 then (some true) else (some false)))) else (some false)))))) else (some false)))) = some r := H
         have A68 := Aside0.mk A680
         clear A680
         replace H := Option.bind_eq_some_iff.mp H
         obtain ⟨t468, A690, H⟩ := H
         replace H : (if t468 < 0 then (some false) else (if t468 = t466 then ((laws_toNodeS.f kj27 l0).bind fun t469 => ((laws_toNumbers.f kj27 l1_0 l1_1 l1_2).bind fun bt472 => ((impl_DownToId.f kj27 t469 bt472.1 bt472.2.1 bt472.2.2 a2).bind fun t481 => ((laws_eqIntS.f kj27 t481 t425).bind fun t484 => (if t484 = true then ((laws_heldIntS.f kj27 t467 1).bind fun t485 => (if t485 < 0 then (some false) else (if t485 = t466 then (some true) else (some false)))) else (some false)))))) else (some false))) = some r := H
         have A69 := Aside0.mk A690
         clear A690
         by_cases c70 : t468 < 0
         ·rw [if_pos c70] at H
          exfalso; with_reducible first | exact laws_FnExactDownToId.no_ H hrT_ | exact laws_FnExactDownToId.j0_t H hrT_
         ·rw [if_neg c70] at H
          have c70b0 : decide (t468 < 0) = false := decide_eq_false c70
          clear c70
          by_cases c72 : t468 = t466
          ·rw [if_pos c72] at H
           have c72b0 : (t468 == t466) = true := beq_iff_eq.mpr c72
           have c72b1 : (t468 != t466) = false := bne_eq_false_iff_eq.mpr c72
           clear c72
           replace H := Option.bind_eq_some_iff.mp H
           obtain ⟨t469, A730, H⟩ := H
           replace H : ((laws_toNumbers.f kj27 l1_0 l1_1 l1_2).bind fun bt472 => ((impl_DownToId.f kj27 t469 bt472.1 bt472.2.1 bt472.2.2 a2).bind fun t481 => ((laws_eqIntS.f kj27 t481 t425).bind fun t484 => (if t484 = true then ((laws_heldIntS.f kj27 t467 1).bind fun t485 => (if t485 < 0 then (some false) else (if t485 = t466 then (some true) else (some false)))) else (some false))))) = some r := H
           have A73 := Aside0.mk A730
           clear A730
           replace H := Option.bind_eq_some_iff.mp H
           obtain ⟨⟨t472, t475, t478⟩, A740, H⟩ := H
           replace H : ((impl_DownToId.f kj27 t469 t472 t475 t478 a2).bind fun t481 => ((laws_eqIntS.f kj27 t481 t425).bind fun t484 => (if t484 = true then ((laws_heldIntS.f kj27 t467 1).bind fun t485 => (if t485 < 0 then (some false) else (if t485 = t466 then (some true) else (some false)))) else (some false)))) = some r := H
           have A74 := Aside0.mk A740
           clear A740
           replace H := Option.bind_eq_some_iff.mp H
           obtain ⟨t481, A750, H⟩ := H
           replace H : ((laws_eqIntS.f kj27 t481 t425).bind fun t484 => (if t484 = true then ((laws_heldIntS.f kj27 t467 1).bind fun t485 => (if t485 < 0 then (some false) else (if t485 = t466 then (some true) else (some false)))) else (some false))) = some r := H
           have A75 := Aside0.mk A750
           clear A750
           replace H := Option.bind_eq_some_iff.mp H
           obtain ⟨t484, A760, H⟩ := H
           replace H : (if t484 = true then ((laws_heldIntS.f kj27 t467 1).bind fun t485 => (if t485 < 0 then (some false) else (if t485 = t466 then (some true) else (some false)))) else (some false)) = some r := H
           have A76 := Aside0.mk A760
           clear A760
           by_cases c77 : t484 = true
           ·subst c77
            have H1 : ((laws_heldIntS.f kj27 t467 1).bind fun t485 => (if t485 < 0 then (some false) else (if t485 = t466 then (some true) else (some false)))) = some r := by rw [if_pos rfl] at H; exact H
            clear H
            have H := H1
            clear H1
            replace H := Option.bind_eq_some_iff.mp H
            obtain ⟨t485, A780, H⟩ := H
            replace H : (if t485 < 0 then (some false) else (if t485 = t466 then (some true) else (some false))) = some r := H
            have A78 := Aside0.mk A780
            clear A780
            by_cases c79 : t485 < 0
            ·rw [if_pos c79] at H
             exfalso; with_reducible first | exact laws_FnExactDownToId.no_ H hrT_ | exact laws_FnExactDownToId.j0_t H hrT_
            ·rw [if_neg c79] at H
             have c79b0 : decide (t485 < 0) = false := decide_eq_false c79
             clear c79
             by_cases c90 : t485 = t466
             ·rw [if_pos c90] at H
              have c90b0 : (t485 == t466) = true := beq_iff_eq.mpr c90
              have c90b1 : (t485 != t466) = false := bne_eq_false_iff_eq.mpr c90
              clear c90
              obtain rfl := Option.some.inj H
              try go_wp2_with (first | ((with_reducible refine gate_callee (f := 29) rfl ?_); refine goesL_ (some 70) rfl rfl Try.func29 (by kernel_rfl) rfl #[.slice Ao51 t441.length co51, .int .i64 1] rfl ms ?_; (with_reducible refine (laws_markIntS.calls kj27 (fun k_ => some k_ = (.slice Ao51 t441.length co51 : Value).ownBlock) (.slice Ao51 t441.length co51) t441 1 t466 t467 w _ ?side1 ?side2 A68.out).mono ?_); (case side1 => exact bb); (case side2 => exact Kd.R_tight rfl HO_11.out); rintro e w91 ⟨rfl, hy0, hb, hkp⟩; refine ⟨_, rfl, ?_⟩; have t_ := fc8 (Kd.R_mono (ok' := fun k_ => some k_ ≠ (.slice Ao51 t441.length co51 : Value).ownBlock ∧ some k_ ≠ (.slice Ao44 t462.length co44 : Value).ownBlock ∧ some k_ ≠ (.slice Ao47 t463.length co47 : Value).ownBlock ∧ some k_ ≠ (.slice Ao48 t464.length co48 : Value).ownBlock) (Kd.R_keptB (HO_8.out) hkp (fun k_ hk_ hs_ => by first | exact (hk_.1) hs_ | (revert hs_; simp only [ne_eq, hk_, false_imp_iff]))) (fun k_ hk_ => by first | exact ⟨hk_.1.1, hk_.1.2.1, hk_.1.2.2.1, hk_.1.2.2.2⟩ | simp only [ne_eq, hk_, not_false_eq_true, and_self, true_and, and_true])) (Kd.R_reok rfl hy0 (fun k_ e_ => HO_11.out.1 k_ e_)) (Kd.R_mono (ok' := fun k_ => some k_ ≠ (.slice Ao52 t425.length co52 : Value).ownBlock ∧ some k_ ≠ (.slice Ao51 t441.length co51 : Value).ownBlock ∧ some k_ ≠ (.slice Ao47 t463.length co47 : Value).ownBlock ∧ some k_ ≠ (.slice Ao48 t464.length co48 : Value).ownBlock) (Kd.R_keptB (HO_441000.out) hkp (fun k_ hk_ hs_ => by first | exact (hk_.2.1) hs_ | (revert hs_; simp only [ne_eq, hk_, false_imp_iff]))) (fun k_ hk_ => by first | exact ⟨hk_.1.1, hk_.1.2.1, hk_.1.2.2.1, hk_.1.2.2.2⟩ | simp only [ne_eq, hk_, not_false_eq_true, and_self, true_and, and_true])) (Kd.R_mono (ok' := fun k_ => some k_ ≠ (.slice Ao52 t425.length co52 : Value).ownBlock ∧ some k_ ≠ (.slice Ao51 t441.length co51 : Value).ownBlock ∧ some k_ ≠ (.slice Ao44 t462.length co44 : Value).ownBlock ∧ some k_ ≠ (.slice Ao48 t464.length co48 : Value).ownBlock) (Kd.R_keptB (HO_441001.out) hkp (fun k_ hk_ hs_ => by first | exact (hk_.2.1) hs_ | (revert hs_; simp only [ne_eq, hk_, false_imp_iff]))) (fun k_ hk_ => by first | exact ⟨hk_.1.1, hk_.1.2.1, hk_.1.2.2.1, hk_.1.2.2.2⟩ | simp only [ne_eq, hk_, not_false_eq_true, and_self, true_and, and_true])) (Kd.R_mono (ok' := fun k_ => some k_ ≠ (.slice Ao52 t425.length co52 : Value).ownBlock ∧ some k_ ≠ (.slice Ao51 t441.length co51 : Value).ownBlock ∧ some k_ ≠ (.slice Ao44 t462.length co44 : Value).ownBlock ∧ some k_ ≠ (.slice Ao47 t463.length co47 : Value).ownBlock) (Kd.R_keptB (HO_441002.out) hkp (fun k_ hk_ hs_ => by first | exact (hk_.2.1) hs_ | (revert hs_; simp only [ne_eq, hk_, false_imp_iff]))) (fun k_ hk_ => by first | exact ⟨hk_.1.1, hk_.1.2.1, hk_.1.2.2.1, hk_.1.2.2.2⟩ | simp only [ne_eq, hk_, not_false_eq_true, and_self, true_and, and_true])) (blk_kept bk hkp (fun hs_ => (fun e_ => (Kd.R_ne HO_11.out BK410.out (by decide)) e_) hs_)) (blk_kept bk hkp (fun hs_ => (fun e_ => (Kd.R_ne HO_11.out BK440.out (by decide)) e_) hs_)) (hb); clear HO_8 HO_11 HO_441000 HO_441001 HO_441002 BK410 BK440 HB; obtain ⟨HO_8, HO_11, HO_441000, HO_441001, HO_441002, BK410, BK440, HB⟩ := t_; (try clear hb); (try clear hkp); (try clear hy0)) | ((with_reducible refine gate_callee (f := 30) rfl ?_); refine goesL_ (some 73) rfl rfl Try.func30 (by kernel_rfl) rfl #[.slice Ao51 t467.length co51, .int .i64 1] rfl (by (try simp only [List.map_toArray, List.map_cons, List.map_nil]); first | done | (rw [show t467.length = t441.length from (Kd.R_reads' HO_11.out).1.symm] <;> rfl) | rfl | (simp only [List.length_drop, List.length_take]; rfl)) ?_; (with_reducible refine (laws_heldIntS.calls kj27 _ _ t467 1 t468 _ ?side1 ?side2 A69.out).mono ?_); (case side1 => repeat (first | exact (Kd.R_reads' HO_11.out).2.2 | (with_reducible refine Kd.C_alloc ?_ _) | (with_reducible refine Kd.C_drewN ?_ _) | (with_reducible refine Kd.C_drew ?_))); (case side2 => rw [show t467.length = t441.length from (Kd.R_reads' HO_11.out).1.symm]; exact (Kd.R_reads' HO_11.out).2.1); rintro e w' ⟨rfl, ⟨nd, rfl⟩⟩; refine ⟨_, rfl, ?_⟩))
              (try (rw [drewN_self w91]; generalize hq_ : World.drewN w91 _ = w91; have n0_ : Aside0 (Kd.R (Kd.int .i64) 3 w91 w.heap.size (fun k_ => (some k_ ≠ (.slice Ao52 t425.length co52 : Value).ownBlock ∧ (some k_ ≠ (.slice Ao44 t462.length co44 : Value).ownBlock ∧ (some k_ ≠ (.slice Ao47 t463.length co47 : Value).ownBlock ∧ some k_ ≠ (.slice Ao48 t464.length co48 : Value).ownBlock)))) (.slice Ao51 t441.length co51) t467) := ⟨by rw [← hq_]; exact (ra HO_11.out)⟩; have n1_ : Aside0 (Kd.R (Kd.int .i64) 3 w91 w.heap.size (fun k_ => (some k_ ≠ (.slice Ao52 t425.length co52 : Value).ownBlock ∧ (some k_ ≠ (.slice Ao51 t441.length co51 : Value).ownBlock ∧ (some k_ ≠ (.slice Ao47 t463.length co47 : Value).ownBlock ∧ some k_ ≠ (.slice Ao48 t464.length co48 : Value).ownBlock)))) (.slice Ao44 t462.length co44) t462) := ⟨by rw [← hq_]; exact (ra HO_441000.out)⟩; have n2_ : Aside0 (Kd.R (Kd.int .i64) 3 w91 w.heap.size (fun k_ => (some k_ ≠ (.slice Ao52 t425.length co52 : Value).ownBlock ∧ (some k_ ≠ (.slice Ao51 t441.length co51 : Value).ownBlock ∧ (some k_ ≠ (.slice Ao44 t462.length co44 : Value).ownBlock ∧ some k_ ≠ (.slice Ao48 t464.length co48 : Value).ownBlock)))) (.slice Ao47 t463.length co47) t463) := ⟨by rw [← hq_]; exact (ra HO_441001.out)⟩; have n3_ : Aside0 (Kd.R (Kd.int .i64) 3 w91 w.heap.size (fun k_ => (some k_ ≠ (.slice Ao52 t425.length co52 : Value).ownBlock ∧ (some k_ ≠ (.slice Ao51 t441.length co51 : Value).ownBlock ∧ (some k_ ≠ (.slice Ao44 t462.length co44 : Value).ownBlock ∧ some k_ ≠ (.slice Ao47 t463.length co47 : Value).ownBlock)))) (.slice Ao48 t464.length co48) t464) := ⟨by rw [← hq_]; exact (ra HO_441002.out)⟩; have n4_ : Aside0 (Kd.R (Kd.int .i64) 3 w91 w.heap.size (fun k_ => (some k_ ≠ (.slice Ao51 t441.length co51 : Value).ownBlock ∧ (some k_ ≠ (.slice Ao44 t462.length co44 : Value).ownBlock ∧ (some k_ ≠ (.slice Ao47 t463.length co47 : Value).ownBlock ∧ some k_ ≠ (.slice Ao48 t464.length co48 : Value).ownBlock)))) (.slice Ao52 t425.length co52) t425) := ⟨by rw [← hq_]; exact (ra HO_8.out)⟩; have n5_ : Aside0 (w91.heap[gb410]? = some (.cells #[.slice A1_0 l1_0.length c1_0, .slice A1_1 l1_1.length c1_1, .slice A1_2 l1_2.length c1_2] 25 (0, 0))) := ⟨by rw [← hq_]; exact bk⟩; have n6_ : Aside0 (w91.heap[gb440]? = some (.cells #[.slice Ao44 t462.length co44, .slice Ao47 t463.length co47, .slice Ao48 t464.length co48] 31 (0, 0))) := ⟨by rw [← hq_]; exact bk⟩; have n7_ : Aside0 (Below w.heap.size w w91) := ⟨by rw [← hq_]; exact bb⟩; clear HO_11 HO_441000 HO_441001 HO_441002 HO_8 BK410 BK440 HB hq_; have HO_11 := n0_; have HO_441000 := n1_; have HO_441001 := n2_; have HO_441002 := n3_; have HO_8 := n4_; have BK410 := n5_; have BK440 := n6_; have HB := n7_; clear n0_ n1_ n2_ n3_ n4_ n5_ n6_ n7_))
              have t_ := fc8 (Kd.R_drew HO_8.out) (Kd.R_drew HO_11.out) (Kd.R_drew HO_441000.out) (Kd.R_drew HO_441001.out) (Kd.R_drew HO_441002.out) (blk_drew BK410.out) (blk_drew BK440.out) (below_drew1 HB.out)
              clear HO_8 HO_11 HO_441000 HO_441001 HO_441002 BK410 BK440 HB
              obtain ⟨HO_8, HO_11, HO_441000, HO_441001, HO_441002, BK410, BK440, HB⟩ := t_
              refine start_ (n := 7) (S := fun w' => w'.cell? ⟨gb410, 0, none⟩ = some (.slice A1_0 l1_0.length c1_0) ∧ w'.cell? ⟨gb410, 1, none⟩ = some (.slice A1_1 l1_1.length c1_1) ∧ w'.cell? ⟨gb410, 2, none⟩ = some (.slice A1_2 l1_2.length c1_2)) (ds := []) #[false, false, false, false, false, false, false] (by kernel_rfl) rfl rfl ⟨(blk_cell BK410.out 0).trans rfl, (blk_cell BK410.out 1).trans rfl, (blk_cell BK410.out 2).trans rfl⟩ (fun hHeld => ?_)
              generalize w91.drew = w92 at HO_8 HO_11 HO_441000 HO_441001 HO_441002 BK410 BK440 HB hHeld ⊢
              refine pure_ (i := 0) (N := some 79) (v := ?_) (a' := ?_) #[true, false, false, false, false, false, false] rfl rfl (by kernel_rfl) (fun _ _ _ h => h) (Or.inl ⟨by rfl, ?_⟩) ?_ ?_
              rotate_left
              ·intro w'
               go_simp
               with_reducible rfl
              rotate_left
              ·simp only [Act.put, List.setIfInBounds_toArray, List.set_cons_zero, List.set_cons_succ, i64_w, i32_w]
               rfl
              refine pure_ (i := 4) (N := some 83) (v := ?_) (a' := ?_) #[true, false, false, false, true, false, false] rfl rfl (by kernel_rfl) (fun _ _ _ h => h) (Or.inl ⟨by rfl, ?_⟩) ?_ ?_
              rotate_left
              ·intro w'
               go_simp
               with_reducible rfl
              rotate_left
              ·simp only [Act.put, List.setIfInBounds_toArray, List.set_cons_zero, List.set_cons_succ, i64_w, i32_w]
               rfl
              refine take_ (i := 2) (N := some 81) (v := ?_) (a' := ?_) #[true, false, true, false, true, false, false] rfl rfl (by kernel_rfl) (fun _ _ _ h => h) (Or.inl ⟨by rfl, ?_⟩) hHeld ?_ ?_
              rotate_left
              ·rintro w' ⟨s0, s1, s2⟩
               go_simp
               with_reducible rfl
              rotate_left
              ·simp only [Act.put, List.setIfInBounds_toArray, List.set_cons_zero, List.set_cons_succ, i64_w, i32_w]
               rfl
              refine one_ (i := 1) (N := some 80) #[true, true, true, false, true, false, false] rfl rfl (by kernel_rfl) (by decide) (fun K hK => ?_)
              refine goes_ Try.func21 (by kernel_rfl) rfl #[.slice A0 l0.length c0] (by rfl) rfl rfl ms ?_
              with_reducible refine (laws_toNodeS.calls kj27 _ _ l0 t469 _ ?side1 ?side2 A73.out).mono ?_
              (case side1 => exact kc)
              (case side2 => exact HC0.out)
              rintro e w93 ⟨v470, rfl, ho0, hb⟩
              refine ⟨_, rfl, ?_⟩
              have t_ := fc9 (Kd.R_below (ra HO_8.out) hb) (Kd.R_below (ra HO_11.out) hb) (Kd.R_below (ra HO_441000.out) hb) (Kd.R_below (ra HO_441001.out) hb) (Kd.R_below (ra HO_441002.out) hb) (Kd.R_lower ho0 (below_size bb)) (bw BK410 hb) (bw BK440 hb) (below_step bb hb)
              clear HO_8 HO_11 HO_441000 HO_441001 HO_441002 BK410 BK440 HB
              obtain ⟨HO_8, HO_11, HO_441000, HO_441001, HO_441002, HO471, BK410, BK440, HB⟩ := t_
              (try clear hb)
              (try clear hb2)
              (try clear hk)
              (try clear hi)
              (try clear ho0)
              refine hK.out _ _ ⟨(blk_cell BK410.out 0).trans rfl, (blk_cell BK410.out 1).trans rfl, (blk_cell BK410.out 2).trans rfl⟩ (fun hHeld => ?_)
              clear hK K
              refine norm_ (a' := ?_) ?_ ?_
              rotate_left
              ·show Act.put _ (some 80) _ = _
               simp only [Act.put, List.setIfInBounds_toArray, List.set_cons_zero, List.set_cons_succ, i64_w, i32_w]
               rfl
              refine one_ (i := 3) (N := some 82) #[true, true, true, true, true, false, false] rfl rfl (by kernel_rfl) (by decide) (fun K hK => ?_)
              refine goes_ Try.func22 (by kernel_rfl) rfl #[.agg #[.slice A1_0 l1_0.length c1_0, .slice A1_1 l1_1.length c1_1, .slice A1_2 l1_2.length c1_2]] (by rfl) rfl rfl ms ?_
              with_reducible refine (laws_toNumbers.calls kj27 _ _ l1_0 _ _ l1_1 _ _ l1_2 t472 t475 t478 _ ?side1 ?side2 ?side3 ?side4 ?side5 ?side6 A74.out).mono ?_
              (case side1 => exact kc)
              (case side2 => exact HC1_0.out)
              (case side3 => exact kc)
              (case side4 => exact HC1_1.out)
              (case side5 => exact kc)
              (case side6 => exact HC1_2.out)
              rintro e w94 ⟨v473, v476, v479, rfl, ho0, ho1, ho2, hb⟩
              refine ⟨_, rfl, ?_⟩
              have t_ := fc12 (Kd.R_mono (Kd.R_told (Kd.R_told (Kd.R_told (Kd.R_old (ra HO_8.out) hb) (Kd.R_base ho0)) (Kd.R_base ho1)) (Kd.R_base ho2)) (fun _ h_ => h_.1)) (Kd.R_mono (Kd.R_told (Kd.R_told (Kd.R_told (Kd.R_old (ra HO_11.out) hb) (Kd.R_base ho0)) (Kd.R_base ho1)) (Kd.R_base ho2)) (fun _ h_ => h_.1)) (Kd.R_mono (Kd.R_told (Kd.R_told (Kd.R_told (Kd.R_old (ra HO_441000.out) hb) (Kd.R_base ho0)) (Kd.R_base ho1)) (Kd.R_base ho2)) (fun _ h_ => h_.1)) (Kd.R_mono (Kd.R_told (Kd.R_told (Kd.R_told (Kd.R_old (ra HO_441001.out) hb) (Kd.R_base ho0)) (Kd.R_base ho1)) (Kd.R_base ho2)) (fun _ h_ => h_.1)) (Kd.R_mono (Kd.R_told (Kd.R_told (Kd.R_told (Kd.R_old (ra HO_441002.out) hb) (Kd.R_base ho0)) (Kd.R_base ho1)) (Kd.R_base ho2)) (fun _ h_ => h_.1)) (Kd.R_below (ra HO471.out) hb) (Kd.R_lower (Kd.R_new' (Kd.R_new' (Kd.R_new' (Kd.R_new' (Kd.R_new' ho0 (Kd.R_lt (ra HO_8.out))) (Kd.R_lt (ra HO_11.out))) (Kd.R_lt (ra HO_441000.out))) (Kd.R_lt (ra HO_441001.out))) (Kd.R_lt (ra HO_441002.out))) (below_size bb)) (Kd.R_lower (Kd.R_new' (Kd.R_new' (Kd.R_new' (Kd.R_new' (Kd.R_new' ho1 (Kd.R_lt (ra HO_8.out))) (Kd.R_lt (ra HO_11.out))) (Kd.R_lt (ra HO_441000.out))) (Kd.R_lt (ra HO_441001.out))) (Kd.R_lt (ra HO_441002.out))) (below_size bb)) (Kd.R_lower (Kd.R_new' (Kd.R_new' (Kd.R_new' (Kd.R_new' (Kd.R_new' ho2 (Kd.R_lt (ra HO_8.out))) (Kd.R_lt (ra HO_11.out))) (Kd.R_lt (ra HO_441000.out))) (Kd.R_lt (ra HO_441001.out))) (Kd.R_lt (ra HO_441002.out))) (below_size bb)) (bw BK410 hb) (bw BK440 hb) (below_step bb hb)
              clear HO_8 HO_11 HO_441000 HO_441001 HO_441002 HO471 BK410 BK440 HB
              obtain ⟨HO_8, HO_11, HO_441000, HO_441001, HO_441002, HO471, HO474, HO477, HO480, BK410, BK440, HB⟩ := t_
              (try clear hb)
              (try clear hb2)
              (try clear hk)
              (try clear hi)
              (try clear ho0)
              (try clear ho1)
              (try clear ho2)
              obtain ⟨Ao95, co95, eo95⟩ := Kd.R_slice HO471.out
              (first | subst eo95 | (injection eo95 with f1_ f2_ f3_; have f4_ := f1_.symm; have f5_ := f3_.symm; clear f1_ f2_ f3_; subst f4_; subst f5_))
              obtain ⟨Ao96, co96, eo96⟩ := Kd.R_slice HO474.out
              (first | subst eo96 | (injection eo96 with f1_ f2_ f3_; have f4_ := f1_.symm; have f5_ := f3_.symm; clear f1_ f2_ f3_; subst f4_; subst f5_))
              obtain ⟨Ao97, co97, eo97⟩ := Kd.R_slice HO477.out
              (first | subst eo97 | (injection eo97 with f1_ f2_ f3_; have f4_ := f1_.symm; have f5_ := f3_.symm; clear f1_ f2_ f3_; subst f4_; subst f5_))
              obtain ⟨Ao98, co98, eo98⟩ := Kd.R_slice HO480.out
              (first | subst eo98 | (injection eo98 with f1_ f2_ f3_; have f4_ := f1_.symm; have f5_ := f3_.symm; clear f1_ f2_ f3_; subst f4_; subst f5_))
              refine hK.out _ _ ⟨(blk_cell BK410.out 0).trans rfl, (blk_cell BK410.out 1).trans rfl, (blk_cell BK410.out 2).trans rfl⟩ (fun hHeld => ?_)
              clear hK K
              refine norm_ (a' := ?_) ?_ ?_
              rotate_left
              ·show Act.put _ (some 82) _ = _
               simp only [Act.put, List.setIfInBounds_toArray, List.set_cons_zero, List.set_cons_succ, i64_w, i32_w]
               rfl
              refine one_ (i := 5) (N := some 84) #[true, true, true, true, true, true, false] rfl rfl (by kernel_rfl) (by decide) (fun K hK => ?_)
              refine goes_ Try.func23 (by kernel_rfl) rfl #[.slice Ao95 t469.length co95, .agg #[.slice Ao96 t472.length co96, .slice Ao97 t475.length co97, .slice Ao98 t478.length co98], .int .i64 a2] (by rfl) rfl rfl ms ?_
              with_reducible refine (impl_DownToId.calls kj27 _ _ t469 _ _ t472 _ _ t475 _ _ t478 a2 t481 _ ?side1 ?side2 ?side3 ?side4 ?side5 ?side6 ?side7 ?side8 A75.out).mono ?_
              (case side1 => repeat (first | exact (Kd.R_reads' HO471.out).2.2 | (with_reducible refine Kd.C_alloc ?_ _) | (with_reducible refine Kd.C_drewN ?_ _) | (with_reducible refine Kd.C_drew ?_)))
              (case side2 => exact (Kd.R_reads' HO471.out).2.1)
              (case side3 => repeat (first | exact (Kd.R_reads' HO474.out).2.2 | (with_reducible refine Kd.C_alloc ?_ _) | (with_reducible refine Kd.C_drewN ?_ _) | (with_reducible refine Kd.C_drew ?_)))
              (case side4 => exact (Kd.R_reads' HO474.out).2.1)
              (case side5 => repeat (first | exact (Kd.R_reads' HO477.out).2.2 | (with_reducible refine Kd.C_alloc ?_ _) | (with_reducible refine Kd.C_drewN ?_ _) | (with_reducible refine Kd.C_drew ?_)))
              (case side6 => exact (Kd.R_reads' HO477.out).2.1)
              (case side7 => repeat (first | exact (Kd.R_reads' HO480.out).2.2 | (with_reducible refine Kd.C_alloc ?_ _) | (with_reducible refine Kd.C_drewN ?_ _) | (with_reducible refine Kd.C_drew ?_)))
              (case side8 => exact (Kd.R_reads' HO480.out).2.1)
              rintro e w99 ⟨v482, rfl, ho0, hb⟩
              refine ⟨_, rfl, ?_⟩
              have t_ := fc13 (Kd.R_elder' (ra HO_8.out) (Kd.R_base ho0) hb) (Kd.R_elder' (ra HO_11.out) (Kd.R_base ho0) hb) (Kd.R_elder' (ra HO_441000.out) (Kd.R_base ho0) hb) (Kd.R_elder' (ra HO_441001.out) (Kd.R_base ho0) hb) (Kd.R_elder' (ra HO_441002.out) (Kd.R_base ho0) hb) (Kd.R_below (ra HO471.out) hb) (Kd.R_elder' (ra HO474.out) (Kd.R_base ho0) hb) (Kd.R_elder' (ra HO477.out) (Kd.R_base ho0) hb) (Kd.R_elder' (ra HO480.out) (Kd.R_base ho0) hb) (Kd.R_lower (Kd.R_new' (Kd.R_new' (Kd.R_new' (Kd.R_new' (Kd.R_new' (Kd.R_new' (Kd.R_new' (Kd.R_new' ho0 (Kd.R_lt (ra HO_8.out))) (Kd.R_lt (ra HO_11.out))) (Kd.R_lt (ra HO_441000.out))) (Kd.R_lt (ra HO_441001.out))) (Kd.R_lt (ra HO_441002.out))) (Kd.R_lt (ra HO474.out))) (Kd.R_lt (ra HO477.out))) (Kd.R_lt (ra HO480.out))) (below_size bb)) (bw BK410 hb) (bw BK440 hb) (below_step bb hb)
              clear HO_8 HO_11 HO_441000 HO_441001 HO_441002 HO471 HO474 HO477 HO480 BK410 BK440 HB
              obtain ⟨HO_8, HO_11, HO_441000, HO_441001, HO_441002, HO471, HO474, HO477, HO480, HO483, BK410, BK440, HB⟩ := t_
              (try clear hb)
              (try clear hb2)
              (try clear hk)
              (try clear hi)
              (try clear ho0)
              refine hK.out _ _ ⟨(blk_cell BK410.out 0).trans rfl, (blk_cell BK410.out 1).trans rfl, (blk_cell BK410.out 2).trans rfl⟩ (fun hHeld => ?_)
              clear hK K
              refine norm_ (a' := ?_) ?_ ?_
              rotate_left
              ·show Act.put _ (some 84) _ = _
               simp only [Act.put, List.setIfInBounds_toArray, List.set_cons_zero, List.set_cons_succ, i64_w, i32_w]
               rfl
              refine pure_ (i := 6) (N := some 15) (v := ?_) (a' := ?_) #[true, true, true, true, true, true, true] rfl rfl (by kernel_rfl) (fun _ _ _ h => h) (Or.inl ⟨by rfl, ?_⟩) ?_ ?_
              rotate_left
              ·intro w'
               go_simp
               with_reducible rfl
              rotate_left
              ·simp only [Act.put, List.setIfInBounds_toArray, List.set_cons_zero, List.set_cons_succ, i64_w, i32_w]
               rfl
              refine done_ (by kernel_rfl) ?_
              obtain ⟨Ao100, co100, eo100⟩ := Kd.R_slice HO483.out
              subst eo100
              try go_wp2_with (first | ((with_reducible refine gate_callee (f := 24) rfl ?_); refine goesL_ (some 87) rfl rfl Try.func24 (by kernel_rfl) rfl #[.slice Ao100 t481.length co100, .slice Ao52 t425.length co52] rfl ms ?_; (with_reducible refine (laws_eqIntS.calls kj27 _ _ t481 _ _ t425 true _ ?side1 ?side2 ?side3 ?side4 A76.out).mono ?_); (case side1 => repeat (first | exact (Kd.R_reads' HO483.out).2.2 | (with_reducible refine Kd.C_alloc ?_ _) | (with_reducible refine Kd.C_drewN ?_ _) | (with_reducible refine Kd.C_drew ?_))); (case side2 => exact (Kd.R_reads' HO483.out).2.1); (case side3 => repeat (first | exact (Kd.R_reads' HO_8.out).2.2 | (with_reducible refine Kd.C_alloc ?_ _) | (with_reducible refine Kd.C_drewN ?_ _) | (with_reducible refine Kd.C_drew ?_))); (case side4 => exact (Kd.R_reads' HO_8.out).2.1); rintro e w' ⟨rfl, ⟨nd, rfl⟩⟩; refine ⟨_, rfl, ?_⟩) | ((with_reducible refine gate_callee (f := 30) rfl ?_); refine goesL_ (some 91) rfl rfl Try.func30 (by kernel_rfl) rfl #[.slice Ao51 t467.length co51, .int .i64 1] rfl (by (try simp only [List.map_toArray, List.map_cons, List.map_nil]); first | done | (rw [show t467.length = t441.length from (Kd.R_reads' HO_11.out).1.symm] <;> rfl) | rfl | (simp only [List.length_drop, List.length_take]; rfl)) ?_; (with_reducible refine (laws_heldIntS.calls kj27 _ _ t467 1 t485 _ ?side1 ?side2 A78.out).mono ?_); (case side1 => repeat (first | exact (Kd.R_reads' HO_11.out).2.2 | (with_reducible refine Kd.C_alloc ?_ _) | (with_reducible refine Kd.C_drewN ?_ _) | (with_reducible refine Kd.C_drew ?_))); (case side2 => rw [show t467.length = t441.length from (Kd.R_reads' HO_11.out).1.symm]; exact (Kd.R_reads' HO_11.out).2.1); rintro e w' ⟨rfl, ⟨nd, rfl⟩⟩; refine ⟨_, rfl, ?_⟩))
              go_ret
              exact ⟨er, bb⟩
             ·rw [if_neg c90] at H
              exfalso; with_reducible first | exact laws_FnExactDownToId.no_ H hrT_ | exact laws_FnExactDownToId.j0_t H hrT_
           ·replace c77 := Bool.eq_false_iff.mpr c77
            subst c77
            have H1 : (some false) = some r := by rw [if_neg (show ¬ (false = true) by decide)] at H; exact H
            clear H
            have H := H1
            exfalso; with_reducible first | exact laws_FnExactDownToId.no_ H hrT_ | exact laws_FnExactDownToId.j0_t H hrT_
          ·rw [if_neg c72] at H
           exfalso; with_reducible first | exact laws_FnExactDownToId.no_ H hrT_ | exact laws_FnExactDownToId.j0_t H hrT_
     ·replace c25 := Bool.eq_false_iff.mpr c25
      subst c25
      have H1 : (some false) = some r := by rw [if_neg (show ¬ (false = true) by decide)] at H; exact H
      clear H
      have H := H1
      exfalso; with_reducible first | exact laws_FnExactDownToId.no_ H hrT_ | exact laws_FnExactDownToId.j0_t H hrT_
    ·replace c22 := Bool.eq_false_iff.mpr c22
     subst c22
     have H1 : (some false) = some r := by rw [if_neg (show ¬ (false = true) by decide)] at H; exact H
     clear H
     have H := H1
     exfalso; with_reducible first | exact laws_FnExactDownToId.no_ H hrT_ | exact laws_FnExactDownToId.j0_t H hrT_
   ·replace c19 := Bool.eq_false_iff.mpr c19
    subst c19
    have H1 : (some false) = some r := by rw [if_neg (show ¬ (false = true) by decide)] at H; exact H
    clear H
    have H := H1
    exfalso; with_reducible first | exact laws_FnExactDownToId.no_ H hrT_ | exact laws_FnExactDownToId.j0_t H hrT_
end Go.Proofs.Ytbbppknnkghkjaa.PFnExactDownToId
