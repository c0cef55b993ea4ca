/- Printed by a program of this session out of the translation: each Go function as a Lean function, with the proof that Go comes to just its answer (no condition beyond what each theorem says). (squeezed) -/
import Derived.Test.YtbbppknnkghkjaaPFnNobodyx0
import Derived.Test.YtbbppknnkghkjaaPFnNobodyx2
import Derived.Test.YtbbppknnkghkjaaPFnNobodyx3
import Derived.Test.YtbbppknnkghkjaaPFnNobodyx4
import Derived.Test.YtbbppknnkghkjaaPFnNobodyx6
import Derived.Test.YtbbppknnkghkjaaPFnNobodyx7
import Derived.Test.YtbbppknnkghkjaaPFnNobodyx8
import Derived.Test.YtbbppknnkghkjaaPFnNobodyx10
namespace Go.Proofs.Ytbbppknnkghkjaa.PFnNobody
open Go.RowKit Go.Proofs.YtbbppknnkghkjaaW.PrintWords Go.Proofs.YtbbppknnkghkjaaW.PrintLast Go.Proofs.YtbbppknnkghkjaaW.PrintMore Go.Proofs.Ytbbppknnkghkjaa.Kit Go.Proofs.Ytbbppknnkghkjaa.Kit2
attribute [local go_sem] max2_int min2_int max_two min_two max_three min_three max_four min_four   -- for this text's walks alone
set_option linter.unusedVariables false
set_option linter.unusedSimpArgs false

/-! ### spec_l01New: function 89 -/
def spec_l01New.l0 : Nat → List Int → Int → Int → Option (List Int × Int × Int)
 | 0, _, _, _ => none
 | k + 1, x0, x3, x4 => if x4 < (x0.length : Int) then (if x4 < 4000 then (if 0 ≤ x4 then (spec_l01New.l0 k x0 (Go.bits .and .i64 (wrap64 ((wrap64 ((wrap64 (x3 * 131)) + (wrap64 (rd x0 x4)))) + 7)) 1073741823) (wrap64 (x4 + 1))) else (none)) else (some (x0, 0, x3))) else (some (x0, 0, x3))
def spec_l01New.f (k : Nat) (l0 : List Int) : Option (List Int × Int × Int) := spec_l01New.l0 k l0 (wrap64 (98663 + (l0.length : Int))) 0
set_option maxHeartbeats 8000000 in
set_option maxRecDepth 100000 in
theorem spec_l01New.calls (k : Nat) (A0 : Option Addr) (c0 : Nat) (l0 : List Int) (r1 : List Int) (r2 : Int) (r3 : Int) (w0 w : World) (hB : Below w0.heap.size w0 w) (hr0 : Kd.C (Kd.int .u8) w0 A0 l0.length l0) (hc0 : l0.length ≤ c0) (h : spec_l01New.f k l0 = some (r1, r2, r3)) :
  Calls Try.prog 89 #[.slice A0 l0.length c0] w fun e w' => ∃ g_ : Nat, e = .returned (.pointer (some ⟨g_, 0, none⟩)) ∧ IsS109 w0 w' g_ r1 r2 r3 ∧ Below w0.heap.size w0 w' ∧ Below w.heap.size w w' := by
 have hu109 := Try.underlying109
 have HR0 := Aside0.mk hr0
 have HC0 := Aside0.mk hc0
 clear hr0 hc0
 have HBW := Aside0.mk (Below.refl w.heap.size w)
 have HW0 := Aside0.mk hB.size
 have HB := Aside0.mk hB
 clear hB
 have H : (spec_l01New.l0 k l0 (wrap64 (98663 + (l0.length : Int))) 0) = some (r1, r2, r3) := h
 clear h
 have H' := Aside0.mk H
 clear H
 go_enter Try.func89, Try.ntmps89
 go_wp2
 go_loopg [3, 4] k (fun kq v3 v4 w' => ∃ (x3_1 : Int) (x4_1 : Int), v3 = .int .i64 x3_1 ∧ v4 = .int .i64 x4_1 ∧ Aside0 (spec_l01New.l0 kq l0 x3_1 x4_1 = some (r1, r2, r3)) ∧ Aside0 (kq ≤ k) ∧ Aside0 (Below w.heap.size w w') ∧ Aside0 (Below w0.heap.size w0 w'))
 case atStart => exact ⟨(wrap64 (98663 + (l0.length : Int))), (0), (by first | rfl | (simp; done) | (simp [*]; done)), (by first | rfl | (simp; done) | (simp [*]; done)), H', ⟨Nat.le_refl _⟩, ⟨by repeat (first | (with_reducible first | exact HBW.out | apply below_alloc | apply pw_below_drewN | apply below_drew1) | exact HBW.out)⟩, ⟨bb⟩⟩
 case round =>
  clear H'
  obtain ⟨x3_1, x4_1, rfl, rfl, HA, HK1, HBW, HB⟩ := hrel
  cases gk with
  | zero => exact absurd HA.out (by simp [spec_l01New.l0])
  | succ k1 =>
   have H := HA.out
   clear HA
   simp only [spec_l01New.l0] at H
   by_cases c2 : x4_1 < (l0.length : Int)
   ·rw [if_pos c2] at H
    have c2b0 : decide (x4_1 < (l0.length : Int)) = true := decide_eq_true c2
    clear c2
    by_cases c3 : x4_1 < 4000
    ·rw [if_pos c3] at H
     have c3b0 : decide (x4_1 < 4000) = true := decide_eq_true c3
     clear c3
     by_cases c4 : 0 ≤ x4_1
     ·rw [if_pos c4] at H
      have c4b0 : decide (0 ≤ x4_1) = true := decide_eq_true c4
      clear c4
      have H' := Aside0.mk H
      clear H
      have p293 : 0 ≤ (x4_1 : Int) := of_decide_eq_true as_
      have q293 : x4_1 < (l0.length : Int) := of_decide_eq_true as_
      obtain ⟨ad293, e293, hx293_0⟩ := Kd.at_int HR0.out x4_1 p293 q293
      cases e293
      replace hx293_0 := pw_cell_below HB.out hx293_0
      replace p293 := eq_true p293
      replace q293 := eq_true q293
      go_wp2
      go_roundg k1
      case measure => have := HK1.out; omega
      case rel => exact ⟨(Go.bits .and .i64 (wrap64 ((wrap64 ((wrap64 (x3_1 * 131)) + (wrap64 (rd l0 x4_1)))) + 7)) 1073741823), (wrap64 (x4_1 + 1)), (by first | rfl | (simp; done) | (simp [*]; done)), (by first | rfl | (simp; done) | (simp [*]; done)), H', ⟨by have := HK1.out; omega⟩, ⟨by repeat (first | (with_reducible first | exact HBW.out | apply below_alloc | apply pw_below_drewN | apply below_drew1) | exact HBW.out)⟩, ⟨bb⟩⟩
     ·rw [if_neg c4] at H
      exact absurd H (by simp)
    ·rw [if_neg c3] at H
     have c3b0 : decide (x4_1 < 4000) = false := decide_eq_false c3
     clear c3
     simp only [Option.some.injEq, Prod.mk.injEq] at H
     obtain ⟨rfl, rfl, rfl⟩ := H
     go_wp2_with (first | ((with_reducible refine gate_dst (N := 31) rfl ?_); refine box_event ?hg (N := 31) ?hd (cs := #[.slice A0 l0.length c0, .int .i64 0, .int .i64 x3_1]) (t := 109) ?hr ?_; (case hd => rfl); (case hg => rfl); (case hr => first | (go_simp; done) | (go_simp; rfl)); intro gb294 hg w5 hbox hb; have t_ := fc5 (below_step HBW.out hb) (below_step bb hb) (hbox) ((by rw [hg]; exact (below_size (by repeat (first | (with_reducible first | exact HBW.out | apply below_alloc | apply pw_below_drewN | apply below_drew1) | exact HBW.out))) : w.heap.size ≤ gb294)) ((Nat.le_trans HW0.out (by rw [hg]; exact (below_size (by repeat (first | (with_reducible first | exact HBW.out | apply below_alloc | apply pw_below_drewN | apply below_drew1) | exact HBW.out))) : w.heap.size ≤ gb294) : w0.heap.size ≤ gb294)); clear HBW HB; obtain ⟨HBW, HB, BK294, GW294, GE294⟩ := t_; clear hb hbox hg))
     go_ret
     exact ⟨_, rfl, (show IsS109 w0 _ gb294 l0 0 x3_1 from ⟨_, _, by exact bk, GE294.out, HR0.out⟩), bb, by repeat (first | (with_reducible first | exact HBW.out | apply below_alloc | apply pw_below_drewN | apply below_drew1 | refine below_set ?_ GW294.out) | exact HBW.out)⟩
   ·rw [if_neg c2] at H
    have c2b0 : decide (x4_1 < (l0.length : Int)) = false := decide_eq_false c2
    clear c2
    simp only [Option.some.injEq, Prod.mk.injEq] at H
    obtain ⟨rfl, rfl, rfl⟩ := H
    go_wp2_with (first | ((with_reducible refine gate_dst (N := 31) rfl ?_); refine box_event ?hg (N := 31) ?hd (cs := #[.slice A0 l0.length c0, .int .i64 0, .int .i64 x3_1]) (t := 109) ?hr ?_; (case hd => rfl); (case hg => rfl); (case hr => first | (go_simp; done) | (go_simp; rfl)); intro gb295 hg w6 hbox hb; have t_ := fc5 (below_step HBW.out hb) (below_step bb hb) (hbox) ((by rw [hg]; exact (below_size (by repeat (first | (with_reducible first | exact HBW.out | apply below_alloc | apply pw_below_drewN | apply below_drew1) | exact HBW.out))) : w.heap.size ≤ gb295)) ((Nat.le_trans HW0.out (by rw [hg]; exact (below_size (by repeat (first | (with_reducible first | exact HBW.out | apply below_alloc | apply pw_below_drewN | apply below_drew1) | exact HBW.out))) : w.heap.size ≤ gb295) : w0.heap.size ≤ gb295)); clear HBW HB; obtain ⟨HBW, HB, BK295, GW295, GE295⟩ := t_; clear hb hbox hg))
    go_ret
    exact ⟨_, rfl, (show IsS109 w0 _ gb295 l0 0 x3_1 from ⟨_, _, by exact bk, GE295.out, HR0.out⟩), bb, by repeat (first | (with_reducible first | exact HBW.out | apply below_alloc | apply pw_below_drewN | apply below_drew1 | refine below_set ?_ GW295.out) | exact HBW.out)⟩

/-! ### spec_DrawTree: function 36 -/
def spec_DrawTree.f (k : Nat) (l0 : List Int) : Option ((List (S50))) := (spec_l01New.f k l0).bind fun bt296 => ((spec_l19Tree.f k bt296.1 bt296.2.1 bt296.2.2).bind fun bt300 => (some bt300.1))
set_option maxHeartbeats 8000000 in
set_option maxRecDepth 100000 in
theorem spec_DrawTree.calls (k : Nat) (A0 : Option Addr) (c0 : Nat) (l0 : List Int) (r : List (S50)) (w : World) (hr0 : Kd.C (Kd.int .u8) w A0 l0.length l0) (hc0 : l0.length ≤ c0) (h : spec_DrawTree.f k l0 = some r) :
  Calls Try.prog 36 #[.slice A0 l0.length c0] w fun e w' => ∃ v0_ : Value, e = .returned (v0_) ∧ Kd.R k50 50 w' w.heap.size (fun _ => True) v0_ r ∧ Below w.heap.size w w' := by
 have HR0 := Aside0.mk hr0
 have HC0 := Aside0.mk hc0
 clear hr0 hc0
 have HB := Aside0.mk (Below.refl w.heap.size w)
 have H : ((spec_l01New.f k l0).bind fun bt296 => ((spec_l19Tree.f k bt296.1 bt296.2.1 bt296.2.2).bind fun bt300 => (some bt300.1))) = some r := h
 clear h
 replace H := Option.bind_eq_some_iff.mp H
 obtain ⟨⟨t296, t297, t298⟩, A20, H⟩ := H
 replace H : ((spec_l19Tree.f k t296 t297 t298).bind fun bt300 => (some bt300.1)) = some r := H
 have A2 := Aside0.mk A20
 clear A20
 replace H := Option.bind_eq_some_iff.mp H
 obtain ⟨⟨t300, t303, t304⟩, A30, H⟩ := H
 replace H : (some t300) = some r := H
 have A3 := Aside0.mk A30
 clear A30
 obtain rfl := Option.some.inj H
 go_enter Try.func36, Try.ntmps36
 go_wp2_with (first | ((with_reducible refine gate_callee (f := 89) rfl ?_); refine goesL_ (some 4) rfl rfl Try.func89 (by kernel_rfl) rfl #[.slice A0 l0.length c0] rfl ms ?_; (with_reducible refine (spec_l01New.calls k _ _ l0 t296 t297 t298 w _ ?side1 ?side2 ?side3 A2.out).mono ?_); (case side1 => exact bb); (case side2 => exact HR0.out); (case side3 => exact HC0.out); rintro e w4 ⟨g299, rfl, hi, hb, hb2⟩; refine ⟨_, rfl, ?_⟩; have t_ := fc2 (hb) (hi); clear HB; obtain ⟨HB, HI299⟩ := t_; (try clear hb); (try clear hb2); (try clear hk); (try clear hi)) | ((with_reducible refine gate_callee (f := 88) rfl ?_); refine goesL_ (some 5) rfl rfl Try.func88 (by kernel_rfl) rfl #[.pointer (some ⟨g299, 0, none⟩)] rfl ms ?_; (with_reducible refine (spec_l19Tree.calls k g299 t296 t297 t298 t300 t303 t304 w _ ?side1 ?side2 A3.out).mono ?_); (case side1 => repeat (first | (with_reducible first | exact HI299.out | apply IsS109.alloc | apply IsS109.drewN | apply IsS109.drew | apply IsS109.set_1 | apply IsS109.set_2) | exact HI299.out)); (case side2 => repeat (first | (with_reducible first | exact HB.out | apply below_alloc | apply pw_below_drewN | apply below_drew1 | refine below_set ?_ (IsS109.ge HI299.out)) | exact HB.out)); rintro e w5 ⟨v301, rfl, ho0, hi, hb, hk⟩; refine ⟨_, rfl, ?_⟩; have t_ := fc3 (Kd.R_lower ho0 (below_size (by repeat (first | (with_reducible first | exact HB.out | apply below_alloc | apply pw_below_drewN | apply below_drew1 | refine below_set ?_ (IsS109.ge HI299.out)) | exact HB.out)))) (hb) (hi); clear HB HI299; obtain ⟨HO302, HB, HI299⟩ := t_; (try clear hb); (try clear hb2); (try clear hk); (try clear hi); (try clear ho0)))
 go_ret
 exact ⟨_, er, by (with_reducible repeat (first | apply Kd.R_alloc | apply Kd.R_drewN | apply Kd.R_drew)); exact HO302.out, by repeat (first | (with_reducible first | exact HB.out | apply below_alloc | apply pw_below_drewN | apply below_drew1 | refine below_set ?_ (IsS109.ge HI299.out)) | exact HB.out)⟩

/-! ### impl_MakeId: function 101 -/
def impl_MakeId.f (a0 : Int) (a1 : Int) (a2 : Int) : Option (Int) := (impl_within.f a0 0 15).bind fun t305 => (if t305 = true then ((impl_within.f a1 0 3).bind fun t306 => (if t306 = true then ((impl_within.f a2 0 3).bind fun t307 => (if t307 = true then (some (wrap64 ((wrap64 ((wrap64 (a0 * 16)) + (wrap64 (a1 * 4)))) + a2))) else (some (-1)))) else (some (-1)))) else (some (-1)))
set_option maxHeartbeats 8000000 in
set_option maxRecDepth 100000 in
theorem impl_MakeId.calls (a0 : Int) (a1 : Int) (a2 : Int) (r : Int) (w : World) (h : impl_MakeId.f a0 a1 a2 = some r) :
  Calls Try.prog 101 #[.int .i64 a0, .int .i64 a1, .int .i64 a2] w fun e w' => e = .returned (.int .i64 r) ∧ Drawn0 w w' := by
 have H : ((impl_within.f a0 0 15).bind fun t305 => (if t305 = true then ((impl_within.f a1 0 3).bind fun t306 => (if t306 = true then ((impl_within.f a2 0 3).bind fun t307 => (if t307 = true then (some (wrap64 ((wrap64 ((wrap64 (a0 * 16)) + (wrap64 (a1 * 4)))) + a2))) else (some (-1)))) else (some (-1)))) else (some (-1)))) = some r := h
 clear h
 replace H := Option.bind_eq_some_iff.mp H
 obtain ⟨t305, A40, H⟩ := H
 replace H : (if t305 = true then ((impl_within.f a1 0 3).bind fun t306 => (if t306 = true then ((impl_within.f a2 0 3).bind fun t307 => (if t307 = true then (some (wrap64 ((wrap64 ((wrap64 (a0 * 16)) + (wrap64 (a1 * 4)))) + a2))) else (some (-1)))) else (some (-1)))) else (some (-1))) = some r := H
 have A4 := Aside0.mk A40
 clear A40
 by_cases c5 : t305 = true
 ·subst c5
  have H1 : ((impl_within.f a1 0 3).bind fun t306 => (if t306 = true then ((impl_within.f a2 0 3).bind fun t307 => (if t307 = true then (some (wrap64 ((wrap64 ((wrap64 (a0 * 16)) + (wrap64 (a1 * 4)))) + a2))) else (some (-1)))) else (some (-1)))) = some r := by rw [if_pos rfl] at H; exact H
  clear H
  have H := H1
  clear H1
  replace H := Option.bind_eq_some_iff.mp H
  obtain ⟨t306, A60, H⟩ := H
  replace H : (if t306 = true then ((impl_within.f a2 0 3).bind fun t307 => (if t307 = true then (some (wrap64 ((wrap64 ((wrap64 (a0 * 16)) + (wrap64 (a1 * 4)))) + a2))) else (some (-1)))) else (some (-1))) = some r := H
  have A6 := Aside0.mk A60
  clear A60
  by_cases c7 : t306 = true
  ·subst c7
   have H1 : ((impl_within.f a2 0 3).bind fun t307 => (if t307 = true then (some (wrap64 ((wrap64 ((wrap64 (a0 * 16)) + (wrap64 (a1 * 4)))) + a2))) else (some (-1)))) = some r := by rw [if_pos rfl] at H; exact H
   clear H
   have H := H1
   clear H1
   replace H := Option.bind_eq_some_iff.mp H
   obtain ⟨t307, A80, H⟩ := H
   replace H : (if t307 = true then (some (wrap64 ((wrap64 ((wrap64 (a0 * 16)) + (wrap64 (a1 * 4)))) + a2))) else (some (-1))) = some r := H
   have A8 := Aside0.mk A80
   clear A80
   by_cases c9 : t307 = true
   ·subst c9
    have H1 : (some (wrap64 ((wrap64 ((wrap64 (a0 * 16)) + (wrap64 (a1 * 4)))) + a2))) = some r := by rw [if_pos rfl] at H; exact H
    clear H
    have H := H1
    clear H1
    obtain rfl := Option.some.inj H
    go_enter Try.func101, Try.ntmps101
    go_wp2_with (first | ((with_reducible refine gate_callee (f := 94) rfl ?_); refine goesL_ (some 8) rfl rfl Try.func94 (by kernel_rfl) rfl #[.int .i64 a0, .int .i64 0, .int .i64 15] rfl ms ?_; (with_reducible refine (impl_within.calls a0 0 15 true _ A4.out).mono ?_); rintro e w' ⟨rfl, ⟨nd, rfl⟩⟩; refine ⟨_, rfl, ?_⟩) | (go_at_call 94; (with_reducible refine (impl_within.calls a1 0 3 true _ A6.out).mono ?_); rintro e w' ⟨rfl, ⟨nd, rfl⟩⟩) | (go_at_call 94; (with_reducible refine (impl_within.calls a2 0 3 true _ A8.out).mono ?_); rintro e w' ⟨rfl, ⟨nd, rfl⟩⟩))
    go_ret
    exact ⟨by first | rfl | (simp; done) | (simp [*]; done), by repeat (first | exact Drawn0.refl _ | apply Drawn0.step)⟩
   ·replace c9 := Bool.eq_false_iff.mpr c9
    subst c9
    have H1 : (some (-1)) = some r := by rw [if_neg (show ¬ (false = true) by decide)] at H; exact H
    clear H
    have H := H1
    clear H1
    obtain rfl := Option.some.inj H
    go_enter Try.func101, Try.ntmps101
    go_wp2_with (first | ((with_reducible refine gate_callee (f := 94) rfl ?_); refine goesL_ (some 8) rfl rfl Try.func94 (by kernel_rfl) rfl #[.int .i64 a0, .int .i64 0, .int .i64 15] rfl ms ?_; (with_reducible refine (impl_within.calls a0 0 15 true _ A4.out).mono ?_); rintro e w' ⟨rfl, ⟨nd, rfl⟩⟩; refine ⟨_, rfl, ?_⟩) | (go_at_call 94; (with_reducible refine (impl_within.calls a1 0 3 true _ A6.out).mono ?_); rintro e w' ⟨rfl, ⟨nd, rfl⟩⟩) | (go_at_call 94; (with_reducible refine (impl_within.calls a2 0 3 false _ A8.out).mono ?_); rintro e w' ⟨rfl, ⟨nd, rfl⟩⟩))
    go_ret
    exact ⟨by first | rfl | (simp; done) | (simp [*]; done), by repeat (first | exact Drawn0.refl _ | apply Drawn0.step)⟩
  ·replace c7 := Bool.eq_false_iff.mpr c7
   subst c7
   have H1 : (some (-1)) = some r := by rw [if_neg (show ¬ (false = true) by decide)] at H; exact H
   clear H
   have H := H1
   clear H1
   obtain rfl := Option.some.inj H
   go_enter Try.func101, Try.ntmps101
   go_wp2_with (first | ((with_reducible refine gate_callee (f := 94) rfl ?_); refine goesL_ (some 8) rfl rfl Try.func94 (by kernel_rfl) rfl #[.int .i64 a0, .int .i64 0, .int .i64 15] rfl ms ?_; (with_reducible refine (impl_within.calls a0 0 15 true _ A4.out).mono ?_); rintro e w' ⟨rfl, ⟨nd, rfl⟩⟩; refine ⟨_, rfl, ?_⟩) | (go_at_call 94; (with_reducible refine (impl_within.calls a1 0 3 false _ A6.out).mono ?_); rintro e w' ⟨rfl, ⟨nd, rfl⟩⟩))
   go_ret
   exact ⟨by first | rfl | (simp; done) | (simp [*]; done), by repeat (first | exact Drawn0.refl _ | apply Drawn0.step)⟩
 ·replace c5 := Bool.eq_false_iff.mpr c5
  subst c5
  have H1 : (some (-1)) = some r := by rw [if_neg (show ¬ (false = true) by decide)] at H; exact H
  clear H
  have H := H1
  clear H1
  obtain rfl := Option.some.inj H
  go_enter Try.func101, Try.ntmps101
  go_wp2_with (first | ((with_reducible refine gate_callee (f := 94) rfl ?_); refine goesL_ (some 8) rfl rfl Try.func94 (by kernel_rfl) rfl #[.int .i64 a0, .int .i64 0, .int .i64 15] rfl ms ?_; (with_reducible refine (impl_within.calls a0 0 15 false _ A4.out).mono ?_); rintro e w' ⟨rfl, ⟨nd, rfl⟩⟩; refine ⟨_, rfl, ?_⟩))
  go_ret
  exact ⟨by first | rfl | (simp; done) | (simp [*]; done), by repeat (first | exact Drawn0.refl _ | apply Drawn0.step)⟩

/-! ### impl_NodeId: function 45 -/
def impl_NodeId.f (k : Nat) (l0 : List (S50)) (l1_0 : List Int) (l1_1 : List Int) (l1_2 : List Int) (a2 : Int) (a3 : Int) : Option (Int) := (impl_areNumbers.f k l0 l1_0 l1_1 l1_2).bind fun t309 => (if t309 = true then ((impl_within.f a2 1 (wrap64 ((l0.length : Int) - 1))).bind fun t310 => (if t310 = true then (if 0 ≤ a2 then (if a2 < (l0.length : Int) then ((impl_hasFunction.f ((rd_T50 l0 a2).f0) ((rd_T50 l0 a2).f1) ((rd_T50 l0 a2).f2) a3).bind fun t312 => (if t312 = true then (if a2 < (l1_0.length : Int) then ((impl_MakeId.f (rd l1_0 a2) ((rd_T50 l0 a2).f1) a3).bind fun t315 => (some t315)) else (none)) else (some (-1)))) else (none)) else (none)) else (some (-1)))) else (some (-1)))
set_option maxHeartbeats 8000000 in
set_option maxRecDepth 100000 in
theorem impl_NodeId.calls (k : Nat) (A0 : Option Addr) (c0 : Nat) (l0 : List (S50)) (A1_0 : Option Addr) (c1_0 : Nat) (l1_0 : List Int) (A1_1 : Option Addr) (c1_1 : Nat) (l1_1 : List Int) (A1_2 : Option Addr) (c1_2 : Nat) (l1_2 : List Int) (a2 : Int) (a3 : Int) (r : Int) (w : World) (hr0 : Kd.C k50 w A0 l0.length l0) (hc0 : l0.length ≤ c0) (hr1_0 : Kd.C (Kd.int .i64) w A1_0 l1_0.length l1_0) (hc1_0 : l1_0.length ≤ c1_0) (hr1_1 : Kd.C (Kd.int .i64) w A1_1 l1_1.length l1_1) (hc1_1 : l1_1.length ≤ c1_1) (hr1_2 : Kd.C (Kd.int .i64) w A1_2 l1_2.length l1_2) (hc1_2 : l1_2.length ≤ c1_2) (h : impl_NodeId.f k l0 l1_0 l1_1 l1_2 a2 a3 = some r) :
  Calls Try.prog 45 #[.slice A0 l0.length c0, .agg #[.slice A1_0 l1_0.length c1_0, .slice A1_1 l1_1.length c1_1, .slice A1_2 l1_2.length c1_2], .int .i64 a2, .int .i64 a3] w fun e w' => e = .returned (.int .i64 r) ∧ Below w.heap.size w w' := by
 have hu31 := Try.underlying31
 have hu50 := Try.underlying50
 have HR0 := Aside0.mk hr0
 have HC0 := Aside0.mk hc0
 clear hr0 hc0
 have HR1_0 := Aside0.mk hr1_0
 have HC1_0 := Aside0.mk hc1_0
 clear hr1_0 hc1_0
 have HR1_1 := Aside0.mk hr1_1
 have HC1_1 := Aside0.mk hc1_1
 clear hr1_1 hc1_1
 have HR1_2 := Aside0.mk hr1_2
 have HC1_2 := Aside0.mk hc1_2
 clear hr1_2 hc1_2
 have HB := Aside0.mk (Below.refl w.heap.size w)
 have H : ((impl_areNumbers.f k l0 l1_0 l1_1 l1_2).bind fun t309 => (if t309 = true then ((impl_within.f a2 1 (wrap64 ((l0.length : Int) - 1))).bind fun t310 => (if t310 = true then (if 0 ≤ a2 then (if a2 < (l0.length : Int) then ((impl_hasFunction.f ((rd_T50 l0 a2).f0) ((rd_T50 l0 a2).f1) ((rd_T50 l0 a2).f2) a3).bind fun t312 => (if t312 = true then (if a2 < (l1_0.length : Int) then ((impl_MakeId.f (rd l1_0 a2) ((rd_T50 l0 a2).f1) a3).bind fun t315 => (some t315)) else (none)) else (some (-1)))) else (none)) else (none)) else (some (-1)))) else (some (-1)))) = some r := h
 clear h
 replace H := Option.bind_eq_some_iff.mp H
 obtain ⟨t309, A50, H⟩ := H
 replace H : (if t309 = true then ((impl_within.f a2 1 (wrap64 ((l0.length : Int) - 1))).bind fun t310 => (if t310 = true then (if 0 ≤ a2 then (if a2 < (l0.length : Int) then ((impl_hasFunction.f ((rd_T50 l0 a2).f0) ((rd_T50 l0 a2).f1) ((rd_T50 l0 a2).f2) a3).bind fun t312 => (if t312 = true then (if a2 < (l1_0.length : Int) then ((impl_MakeId.f (rd l1_0 a2) ((rd_T50 l0 a2).f1) a3).bind fun t315 => (some t315)) else (none)) else (some (-1)))) else (none)) else (none)) else (some (-1)))) else (some (-1))) = some r := H
 have A5 := Aside0.mk A50
 clear A50
 by_cases c6 : t309 = true
 ·subst c6
  have H1 : ((impl_within.f a2 1 (wrap64 ((l0.length : Int) - 1))).bind fun t310 => (if t310 = true then (if 0 ≤ a2 then (if a2 < (l0.length : Int) then ((impl_hasFunction.f ((rd_T50 l0 a2).f0) ((rd_T50 l0 a2).f1) ((rd_T50 l0 a2).f2) a3).bind fun t312 => (if t312 = true then (if a2 < (l1_0.length : Int) then ((impl_MakeId.f (rd l1_0 a2) ((rd_T50 l0 a2).f1) a3).bind fun t315 => (some t315)) else (none)) else (some (-1)))) else (none)) else (none)) else (some (-1)))) = some r := by rw [if_pos rfl] at H; exact H
  clear H
  have H := H1
  clear H1
  replace H := Option.bind_eq_some_iff.mp H
  obtain ⟨t310, A70, H⟩ := H
  replace H : (if t310 = true then (if 0 ≤ a2 then (if a2 < (l0.length : Int) then ((impl_hasFunction.f ((rd_T50 l0 a2).f0) ((rd_T50 l0 a2).f1) ((rd_T50 l0 a2).f2) a3).bind fun t312 => (if t312 = true then (if a2 < (l1_0.length : Int) then ((impl_MakeId.f (rd l1_0 a2) ((rd_T50 l0 a2).f1) a3).bind fun t315 => (some t315)) else (none)) else (some (-1)))) else (none)) else (none)) else (some (-1))) = some r := H
  have A7 := Aside0.mk A70
  clear A70
  by_cases c8 : t310 = true
  ·subst c8
   have H1 : (if 0 ≤ a2 then (if a2 < (l0.length : Int) then ((impl_hasFunction.f ((rd_T50 l0 a2).f0) ((rd_T50 l0 a2).f1) ((rd_T50 l0 a2).f2) a3).bind fun t312 => (if t312 = true then (if a2 < (l1_0.length : Int) then ((impl_MakeId.f (rd l1_0 a2) ((rd_T50 l0 a2).f1) a3).bind fun t315 => (some t315)) else (none)) else (some (-1)))) else (none)) else (none)) = some r := by rw [if_pos rfl] at H; exact H
   clear H
   have H := H1
   clear H1
   by_cases c9 : 0 ≤ a2
   ·rw [if_pos c9] at H
    have c9b0 : decide (0 ≤ a2) = true := decide_eq_true c9
    clear c9
    by_cases c10 : a2 < (l0.length : Int)
    ·rw [if_pos c10] at H
     have c10b0 : decide (a2 < (l0.length : Int)) = true := decide_eq_true c10
     clear c10
     replace H := Option.bind_eq_some_iff.mp H
     obtain ⟨t312, A110, H⟩ := H
     replace H : (if t312 = true then (if a2 < (l1_0.length : Int) then ((impl_MakeId.f (rd l1_0 a2) ((rd_T50 l0 a2).f1) a3).bind fun t315 => (some t315)) else (none)) else (some (-1))) = some r := H
     have A11 := Aside0.mk A110
     clear A110
     by_cases c12 : t312 = true
     ·subst c12
      have H1 : (if a2 < (l1_0.length : Int) then ((impl_MakeId.f (rd l1_0 a2) ((rd_T50 l0 a2).f1) a3).bind fun t315 => (some t315)) else (none)) = some r := by rw [if_pos rfl] at H; exact H
      clear H
      have H := H1
      clear H1
      by_cases c13 : a2 < (l1_0.length : Int)
      ·rw [if_pos c13] at H
       have c13b0 : decide (a2 < (l1_0.length : Int)) = true := decide_eq_true c13
       clear c13
       replace H := Option.bind_eq_some_iff.mp H
       obtain ⟨t315, A140, H⟩ := H
       replace H : (some t315) = some r := H
       have A14 := Aside0.mk A140
       clear A140
       obtain rfl := Option.some.inj H
       go_enter Try.func45, Try.ntmps45
       go_wp2_with (first | ((with_reducible refine gate_dst (N := 5) rfl ?_); (try (refine gate_guard (by rfl) ?_; dsimp only)); refine box_event ?hg (N := 5) ?hd (cs := #[.slice A1_0 l1_0.length c1_0, .slice A1_1 l1_1.length c1_1, .slice A1_2 l1_2.length c1_2]) (t := 31) ?hr ?_; (case hd => rfl); (case hg => rfl); (case hr => first | (go_simp; done) | (go_simp; rfl)); intro gb308 hg w15 hbox hb; have t_ := fc4 (below_step bb hb) (hbox) (bg hg : w.heap.size ≤ gb308) (bg hg : w.heap.size ≤ gb308); clear HB; obtain ⟨HB, BK308, GW308, GE308⟩ := t_; clear hb hbox hg; obtain ⟨hcz16_0, hcz16_1, hcz16_2, hfz16_0, hfz16_1, hfz16_2⟩ := bx3 BK308.out) | (go_at_call 76; (with_reducible refine (impl_areNumbers.calls k _ _ l0 _ _ l1_0 _ _ l1_1 _ _ l1_2 true _ ?side1 ?side2 ?side3 ?side4 ?side5 ?side6 ?side7 ?side8 A5.out).mono ?_); (case side1 => exact kc); (case side2 => exact HC0.out); (case side3 => exact kc); (case side4 => exact HC1_0.out); (case side5 => exact kc); (case side6 => exact HC1_1.out); (case side7 => exact kc); (case side8 => exact HC1_2.out); rintro e w17 ⟨rfl, hb⟩; have t_ := fc2 (bw BK308 hb) (below_step bb hb); clear BK308 HB; obtain ⟨BK308, HB⟩ := t_; (try clear hb); (try clear hb2); (try clear hk); (try clear hi)) | (go_at_call 94; (with_reducible refine (impl_within.calls a2 1 (wrap64 ((l0.length : Int) - 1)) true _ A7.out).mono ?_); rintro e w' ⟨rfl, ⟨nd, rfl⟩⟩; (try first | exact ⟨rfl, _, World.drewN_drewN _ _ _⟩ | exact ⟨rfl, _, Eq.trans (World.drewN_drewN _ _ _) (congrArg (World.drewN _) (Nat.add_assoc _ _ _))⟩); have p311 : 0 ≤ (a2 : Int) := of_decide_eq_true as_; have q311 : a2 < (l0.length : Int) := of_decide_eq_true as_; obtain ⟨ad311, e311, hx311_0, hx311_1, hx311_2⟩ := at_T50 HR0.out a2 p311 q311; cases e311; replace hx311_0 := pw_cell_below HB.out hx311_0; replace hx311_1 := pw_cell_below HB.out hx311_1; replace hx311_2 := pw_cell_below HB.out hx311_2; replace p311 := eq_true p311; replace q311 := eq_true q311) | (go_at_call 82; (with_reducible refine (impl_hasFunction.calls ((rd_T50 l0 a2).f0) ((rd_T50 l0 a2).f1) ((rd_T50 l0 a2).f2) a3 true _ A11.out).mono ?_); rintro e w18 ⟨rfl, hb⟩; have t_ := fc2 (bw BK308 hb) (below_step bb hb); clear BK308 HB; obtain ⟨BK308, HB⟩ := t_; (try clear hb); (try clear hb2); (try clear hk); (try clear hi); obtain ⟨hcz19_0, hcz19_1, hcz19_2, hfz19_0, hfz19_1, hfz19_2⟩ := bx3 BK308.out; have p313 : 0 ≤ (a2 : Int) := of_decide_eq_true as_; have q313 : a2 < (l1_0.length : Int) := of_decide_eq_true as_; obtain ⟨ad313, e313, hx313_0⟩ := Kd.at_int HR1_0.out a2 p313 q313; cases e313; replace hx313_0 := pw_cell_below HB.out hx313_0; replace p313 := eq_true p313; replace q313 := eq_true q313; have p314 : 0 ≤ (a2 : Int) := of_decide_eq_true as_; have q314 : a2 < (l0.length : Int) := of_decide_eq_true as_; obtain ⟨ad314, e314, hx314_0, hx314_1, hx314_2⟩ := at_T50 HR0.out a2 p314 q314; obtain rfl : ad311 = ad314 := (by injection e314); replace hx314_0 := pw_cell_below HB.out hx314_0; replace hx314_1 := pw_cell_below HB.out hx314_1; replace hx314_2 := pw_cell_below HB.out hx314_2; replace p314 := eq_true p314; replace q314 := eq_true q314) | (go_at_call 101; (with_reducible refine (impl_MakeId.calls (rd l1_0 a2) ((rd_T50 l0 a2).f1) a3 t315 _ A14.out).mono ?_); rintro e w' ⟨rfl, ⟨nd, rfl⟩⟩; (try first | exact ⟨rfl, _, World.drewN_drewN _ _ _⟩ | exact ⟨rfl, _, Eq.trans (World.drewN_drewN _ _ _) (congrArg (World.drewN _) (Nat.add_assoc _ _ _))⟩)))
       repeat (go_quiet (first | ((with_reducible refine gate_dst (N := 5) rfl ?_); (try (refine gate_guard (by rfl) ?_; dsimp only)); refine box_event ?hg (N := 5) ?hd (cs := #[.slice A1_0 l1_0.length c1_0, .slice A1_1 l1_1.length c1_1, .slice A1_2 l1_2.length c1_2]) (t := 31) ?hr ?_; (case hd => rfl); (case hg => rfl); (case hr => first | (go_simp; done) | (go_simp; rfl)); intro gb308 hg w15 hbox hb; have t_ := fc4 (below_step bb hb) (hbox) (bg hg : w.heap.size ≤ gb308) (bg hg : w.heap.size ≤ gb308); clear HB; obtain ⟨HB, BK308, GW308, GE308⟩ := t_; clear hb hbox hg; obtain ⟨hcz16_0, hcz16_1, hcz16_2, hfz16_0, hfz16_1, hfz16_2⟩ := bx3 BK308.out) | (go_at_call 76; (with_reducible refine (impl_areNumbers.calls k _ _ l0 _ _ l1_0 _ _ l1_1 _ _ l1_2 true _ ?side1 ?side2 ?side3 ?side4 ?side5 ?side6 ?side7 ?side8 A5.out).mono ?_); (case side1 => exact kc); (case side2 => exact HC0.out); (case side3 => exact kc); (case side4 => exact HC1_0.out); (case side5 => exact kc); (case side6 => exact HC1_1.out); (case side7 => exact kc); (case side8 => exact HC1_2.out); rintro e w17 ⟨rfl, hb⟩; have t_ := fc2 (bw BK308 hb) (below_step bb hb); clear BK308 HB; obtain ⟨BK308, HB⟩ := t_; (try clear hb); (try clear hb2); (try clear hk); (try clear hi)) | (go_at_call 94; (with_reducible refine (impl_within.calls a2 1 (wrap64 ((l0.length : Int) - 1)) true _ A7.out).mono ?_); rintro e w' ⟨rfl, ⟨nd, rfl⟩⟩; (try first | exact ⟨rfl, _, World.drewN_drewN _ _ _⟩ | exact ⟨rfl, _, Eq.trans (World.drewN_drewN _ _ _) (congrArg (World.drewN _) (Nat.add_assoc _ _ _))⟩); have p311 : 0 ≤ (a2 : Int) := of_decide_eq_true as_; have q311 : a2 < (l0.length : Int) := of_decide_eq_true as_; obtain ⟨ad311, e311, hx311_0, hx311_1, hx311_2⟩ := at_T50 HR0.out a2 p311 q311; cases e311; replace hx311_0 := pw_cell_below HB.out hx311_0; replace hx311_1 := pw_cell_below HB.out hx311_1; replace hx311_2 := pw_cell_below HB.out hx311_2; replace p311 := eq_true p311; replace q311 := eq_true q311) | (go_at_call 82; (with_reducible refine (impl_hasFunction.calls ((rd_T50 l0 a2).f0) ((rd_T50 l0 a2).f1) ((rd_T50 l0 a2).f2) a3 true _ A11.out).mono ?_); rintro e w18 ⟨rfl, hb⟩; have t_ := fc2 (bw BK308 hb) (below_step bb hb); clear BK308 HB; obtain ⟨BK308, HB⟩ := t_; (try clear hb); (try clear hb2); (try clear hk); (try clear hi); obtain ⟨hcz19_0, hcz19_1, hcz19_2, hfz19_0, hfz19_1, hfz19_2⟩ := bx3 BK308.out; have p313 : 0 ≤ (a2 : Int) := of_decide_eq_true as_; have q313 : a2 < (l1_0.length : Int) := of_decide_eq_true as_; obtain ⟨ad313, e313, hx313_0⟩ := Kd.at_int HR1_0.out a2 p313 q313; cases e313; replace hx313_0 := pw_cell_below HB.out hx313_0; replace p313 := eq_true p313; replace q313 := eq_true q313; have p314 : 0 ≤ (a2 : Int) := of_decide_eq_true as_; have q314 : a2 < (l0.length : Int) := of_decide_eq_true as_; obtain ⟨ad314, e314, hx314_0, hx314_1, hx314_2⟩ := at_T50 HR0.out a2 p314 q314; obtain rfl : ad311 = ad314 := (by injection e314); replace hx314_0 := pw_cell_below HB.out hx314_0; replace hx314_1 := pw_cell_below HB.out hx314_1; replace hx314_2 := pw_cell_below HB.out hx314_2; replace p314 := eq_true p314; replace q314 := eq_true q314) | (go_at_call 101; (with_reducible refine (impl_MakeId.calls (rd l1_0 a2) ((rd_T50 l0 a2).f1) a3 t315 _ A14.out).mono ?_); rintro e w' ⟨rfl, ⟨nd, rfl⟩⟩; (try first | exact ⟨rfl, _, World.drewN_drewN _ _ _⟩ | exact ⟨rfl, _, Eq.trans (World.drewN_drewN _ _ _) (congrArg (World.drewN _) (Nat.add_assoc _ _ _))⟩))); try go_wp2_with (first | ((with_reducible refine gate_dst (N := 5) rfl ?_); (try (refine gate_guard (by rfl) ?_; dsimp only)); refine box_event ?hg (N := 5) ?hd (cs := #[.slice A1_0 l1_0.length c1_0, .slice A1_1 l1_1.length c1_1, .slice A1_2 l1_2.length c1_2]) (t := 31) ?hr ?_; (case hd => rfl); (case hg => rfl); (case hr => first | (go_simp; done) | (go_simp; rfl)); intro gb308 hg w15 hbox hb; have t_ := fc4 (below_step bb hb) (hbox) (bg hg : w.heap.size ≤ gb308) (bg hg : w.heap.size ≤ gb308); clear HB; obtain ⟨HB, BK308, GW308, GE308⟩ := t_; clear hb hbox hg; obtain ⟨hcz16_0, hcz16_1, hcz16_2, hfz16_0, hfz16_1, hfz16_2⟩ := bx3 BK308.out) | (go_at_call 76; (with_reducible refine (impl_areNumbers.calls k _ _ l0 _ _ l1_0 _ _ l1_1 _ _ l1_2 true _ ?side1 ?side2 ?side3 ?side4 ?side5 ?side6 ?side7 ?side8 A5.out).mono ?_); (case side1 => exact kc); (case side2 => exact HC0.out); (case side3 => exact kc); (case side4 => exact HC1_0.out); (case side5 => exact kc); (case side6 => exact HC1_1.out); (case side7 => exact kc); (case side8 => exact HC1_2.out); rintro e w17 ⟨rfl, hb⟩; have t_ := fc2 (bw BK308 hb) (below_step bb hb); clear BK308 HB; obtain ⟨BK308, HB⟩ := t_; (try clear hb); (try clear hb2); (try clear hk); (try clear hi)) | (go_at_call 94; (with_reducible refine (impl_within.calls a2 1 (wrap64 ((l0.length : Int) - 1)) true _ A7.out).mono ?_); rintro e w' ⟨rfl, ⟨nd, rfl⟩⟩; (try first | exact ⟨rfl, _, World.drewN_drewN _ _ _⟩ | exact ⟨rfl, _, Eq.trans (World.drewN_drewN _ _ _) (congrArg (World.drewN _) (Nat.add_assoc _ _ _))⟩); have p311 : 0 ≤ (a2 : Int) := of_decide_eq_true as_; have q311 : a2 < (l0.length : Int) := of_decide_eq_true as_; obtain ⟨ad311, e311, hx311_0, hx311_1, hx311_2⟩ := at_T50 HR0.out a2 p311 q311; cases e311; replace hx311_0 := pw_cell_below HB.out hx311_0; replace hx311_1 := pw_cell_below HB.out hx311_1; replace hx311_2 := pw_cell_below HB.out hx311_2; replace p311 := eq_true p311; replace q311 := eq_true q311) | (go_at_call 82; (with_reducible refine (impl_hasFunction.calls ((rd_T50 l0 a2).f0) ((rd_T50 l0 a2).f1) ((rd_T50 l0 a2).f2) a3 true _ A11.out).mono ?_); rintro e w18 ⟨rfl, hb⟩; have t_ := fc2 (bw BK308 hb) (below_step bb hb); clear BK308 HB; obtain ⟨BK308, HB⟩ := t_; (try clear hb); (try clear hb2); (try clear hk); (try clear hi); obtain ⟨hcz19_0, hcz19_1, hcz19_2, hfz19_0, hfz19_1, hfz19_2⟩ := bx3 BK308.out; have p313 : 0 ≤ (a2 : Int) := of_decide_eq_true as_; have q313 : a2 < (l1_0.length : Int) := of_decide_eq_true as_; obtain ⟨ad313, e313, hx313_0⟩ := Kd.at_int HR1_0.out a2 p313 q313; cases e313; replace hx313_0 := pw_cell_below HB.out hx313_0; replace p313 := eq_true p313; replace q313 := eq_true q313; have p314 : 0 ≤ (a2 : Int) := of_decide_eq_true as_; have q314 : a2 < (l0.length : Int) := of_decide_eq_true as_; obtain ⟨ad314, e314, hx314_0, hx314_1, hx314_2⟩ := at_T50 HR0.out a2 p314 q314; obtain rfl : ad311 = ad314 := (by injection e314); replace hx314_0 := pw_cell_below HB.out hx314_0; replace hx314_1 := pw_cell_below HB.out hx314_1; replace hx314_2 := pw_cell_below HB.out hx314_2; replace p314 := eq_true p314; replace q314 := eq_true q314) | (go_at_call 101; (with_reducible refine (impl_MakeId.calls (rd l1_0 a2) ((rd_T50 l0 a2).f1) a3 t315 _ A14.out).mono ?_); rintro e w' ⟨rfl, ⟨nd, rfl⟩⟩; (try first | exact ⟨rfl, _, World.drewN_drewN _ _ _⟩ | exact ⟨rfl, _, Eq.trans (World.drewN_drewN _ _ _) (congrArg (World.drewN _) (Nat.add_assoc _ _ _))⟩))))
       go_ret
       exact ⟨er, bb⟩
      ·rw [if_neg c13] at H
       exact absurd H (by simp)
     ·replace c12 := Bool.eq_false_iff.mpr c12
      subst c12
      have H1 : (some (-1)) = some r := by rw [if_neg (show ¬ (false = true) by decide)] at H; exact H
      clear H
      have H := H1
      clear H1
      obtain rfl := Option.some.inj H
      go_enter Try.func45, Try.ntmps45
      go_wp2_with (first | ((with_reducible refine gate_dst (N := 5) rfl ?_); (try (refine gate_guard (by rfl) ?_; dsimp only)); refine box_event ?hg (N := 5) ?hd (cs := #[.slice A1_0 l1_0.length c1_0, .slice A1_1 l1_1.length c1_1, .slice A1_2 l1_2.length c1_2]) (t := 31) ?hr ?_; (case hd => rfl); (case hg => rfl); (case hr => first | (go_simp; done) | (go_simp; rfl)); intro gb308 hg w20 hbox hb; have t_ := fc4 (below_step bb hb) (hbox) (bg hg : w.heap.size ≤ gb308) (bg hg : w.heap.size ≤ gb308); clear HB; obtain ⟨HB, BK308, GW308, GE308⟩ := t_; clear hb hbox hg; obtain ⟨hcz21_0, hcz21_1, hcz21_2, hfz21_0, hfz21_1, hfz21_2⟩ := bx3 BK308.out) | (go_at_call 76; (with_reducible refine (impl_areNumbers.calls k _ _ l0 _ _ l1_0 _ _ l1_1 _ _ l1_2 true _ ?side1 ?side2 ?side3 ?side4 ?side5 ?side6 ?side7 ?side8 A5.out).mono ?_); (case side1 => exact kc); (case side2 => exact HC0.out); (case side3 => exact kc); (case side4 => exact HC1_0.out); (case side5 => exact kc); (case side6 => exact HC1_1.out); (case side7 => exact kc); (case side8 => exact HC1_2.out); rintro e w22 ⟨rfl, hb⟩; have t_ := fc2 (bw BK308 hb) (below_step bb hb); clear BK308 HB; obtain ⟨BK308, HB⟩ := t_; (try clear hb); (try clear hb2); (try clear hk); (try clear hi)) | (go_at_call 94; (with_reducible refine (impl_within.calls a2 1 (wrap64 ((l0.length : Int) - 1)) true _ A7.out).mono ?_); rintro e w' ⟨rfl, ⟨nd, rfl⟩⟩; (try first | exact ⟨rfl, _, World.drewN_drewN _ _ _⟩ | exact ⟨rfl, _, Eq.trans (World.drewN_drewN _ _ _) (congrArg (World.drewN _) (Nat.add_assoc _ _ _))⟩); have p311 : 0 ≤ (a2 : Int) := of_decide_eq_true as_; have q311 : a2 < (l0.length : Int) := of_decide_eq_true as_; obtain ⟨ad311, e311, hx311_0, hx311_1, hx311_2⟩ := at_T50 HR0.out a2 p311 q311; cases e311; replace hx311_0 := pw_cell_below HB.out hx311_0; replace hx311_1 := pw_cell_below HB.out hx311_1; replace hx311_2 := pw_cell_below HB.out hx311_2; replace p311 := eq_true p311; replace q311 := eq_true q311) | (go_at_call 82; (with_reducible refine (impl_hasFunction.calls ((rd_T50 l0 a2).f0) ((rd_T50 l0 a2).f1) ((rd_T50 l0 a2).f2) a3 false _ A11.out).mono ?_); rintro e w23 ⟨rfl, hb⟩; have t_ := fc2 (bw BK308 hb) (below_step bb hb); clear BK308 HB; obtain ⟨BK308, HB⟩ := t_; (try clear hb); (try clear hb2); (try clear hk); (try clear hi)))
      repeat (go_quiet (first | ((with_reducible refine gate_dst (N := 5) rfl ?_); (try (refine gate_guard (by rfl) ?_; dsimp only)); refine box_event ?hg (N := 5) ?hd (cs := #[.slice A1_0 l1_0.length c1_0, .slice A1_1 l1_1.length c1_1, .slice A1_2 l1_2.length c1_2]) (t := 31) ?hr ?_; (case hd => rfl); (case hg => rfl); (case hr => first | (go_simp; done) | (go_simp; rfl)); intro gb308 hg w20 hbox hb; have t_ := fc4 (below_step bb hb) (hbox) (bg hg : w.heap.size ≤ gb308) (bg hg : w.heap.size ≤ gb308); clear HB; obtain ⟨HB, BK308, GW308, GE308⟩ := t_; clear hb hbox hg; obtain ⟨hcz21_0, hcz21_1, hcz21_2, hfz21_0, hfz21_1, hfz21_2⟩ := bx3 BK308.out) | (go_at_call 76; (with_reducible refine (impl_areNumbers.calls k _ _ l0 _ _ l1_0 _ _ l1_1 _ _ l1_2 true _ ?side1 ?side2 ?side3 ?side4 ?side5 ?side6 ?side7 ?side8 A5.out).mono ?_); (case side1 => exact kc); (case side2 => exact HC0.out); (case side3 => exact kc); (case side4 => exact HC1_0.out); (case side5 => exact kc); (case side6 => exact HC1_1.out); (case side7 => exact kc); (case side8 => exact HC1_2.out); rintro e w22 ⟨rfl, hb⟩; have t_ := fc2 (bw BK308 hb) (below_step bb hb); clear BK308 HB; obtain ⟨BK308, HB⟩ := t_; (try clear hb); (try clear hb2); (try clear hk); (try clear hi)) | (go_at_call 94; (with_reducible refine (impl_within.calls a2 1 (wrap64 ((l0.length : Int) - 1)) true _ A7.out).mono ?_); rintro e w' ⟨rfl, ⟨nd, rfl⟩⟩; (try first | exact ⟨rfl, _, World.drewN_drewN _ _ _⟩ | exact ⟨rfl, _, Eq.trans (World.drewN_drewN _ _ _) (congrArg (World.drewN _) (Nat.add_assoc _ _ _))⟩); have p311 : 0 ≤ (a2 : Int) := of_decide_eq_true as_; have q311 : a2 < (l0.length : Int) := of_decide_eq_true as_; obtain ⟨ad311, e311, hx311_0, hx311_1, hx311_2⟩ := at_T50 HR0.out a2 p311 q311; cases e311; replace hx311_0 := pw_cell_below HB.out hx311_0; replace hx311_1 := pw_cell_below HB.out hx311_1; replace hx311_2 := pw_cell_below HB.out hx311_2; replace p311 := eq_true p311; replace q311 := eq_true q311) | (go_at_call 82; (with_reducible refine (impl_hasFunction.calls ((rd_T50 l0 a2).f0) ((rd_T50 l0 a2).f1) ((rd_T50 l0 a2).f2) a3 false _ A11.out).mono ?_); rintro e w23 ⟨rfl, hb⟩; have t_ := fc2 (bw BK308 hb) (below_step bb hb); clear BK308 HB; obtain ⟨BK308, HB⟩ := t_; (try clear hb); (try clear hb2); (try clear hk); (try clear hi))); try go_wp2_with (first | ((with_reducible refine gate_dst (N := 5) rfl ?_); (try (refine gate_guard (by rfl) ?_; dsimp only)); refine box_event ?hg (N := 5) ?hd (cs := #[.slice A1_0 l1_0.length c1_0, .slice A1_1 l1_1.length c1_1, .slice A1_2 l1_2.length c1_2]) (t := 31) ?hr ?_; (case hd => rfl); (case hg => rfl); (case hr => first | (go_simp; done) | (go_simp; rfl)); intro gb308 hg w20 hbox hb; have t_ := fc4 (below_step bb hb) (hbox) (bg hg : w.heap.size ≤ gb308) (bg hg : w.heap.size ≤ gb308); clear HB; obtain ⟨HB, BK308, GW308, GE308⟩ := t_; clear hb hbox hg; obtain ⟨hcz21_0, hcz21_1, hcz21_2, hfz21_0, hfz21_1, hfz21_2⟩ := bx3 BK308.out) | (go_at_call 76; (with_reducible refine (impl_areNumbers.calls k _ _ l0 _ _ l1_0 _ _ l1_1 _ _ l1_2 true _ ?side1 ?side2 ?side3 ?side4 ?side5 ?side6 ?side7 ?side8 A5.out).mono ?_); (case side1 => exact kc); (case side2 => exact HC0.out); (case side3 => exact kc); (case side4 => exact HC1_0.out); (case side5 => exact kc); (case side6 => exact HC1_1.out); (case side7 => exact kc); (case side8 => exact HC1_2.out); rintro e w22 ⟨rfl, hb⟩; have t_ := fc2 (bw BK308 hb) (below_step bb hb); clear BK308 HB; obtain ⟨BK308, HB⟩ := t_; (try clear hb); (try clear hb2); (try clear hk); (try clear hi)) | (go_at_call 94; (with_reducible refine (impl_within.calls a2 1 (wrap64 ((l0.length : Int) - 1)) true _ A7.out).mono ?_); rintro e w' ⟨rfl, ⟨nd, rfl⟩⟩; (try first | exact ⟨rfl, _, World.drewN_drewN _ _ _⟩ | exact ⟨rfl, _, Eq.trans (World.drewN_drewN _ _ _) (congrArg (World.drewN _) (Nat.add_assoc _ _ _))⟩); have p311 : 0 ≤ (a2 : Int) := of_decide_eq_true as_; have q311 : a2 < (l0.length : Int) := of_decide_eq_true as_; obtain ⟨ad311, e311, hx311_0, hx311_1, hx311_2⟩ := at_T50 HR0.out a2 p311 q311; cases e311; replace hx311_0 := pw_cell_below HB.out hx311_0; replace hx311_1 := pw_cell_below HB.out hx311_1; replace hx311_2 := pw_cell_below HB.out hx311_2; replace p311 := eq_true p311; replace q311 := eq_true q311) | (go_at_call 82; (with_reducible refine (impl_hasFunction.calls ((rd_T50 l0 a2).f0) ((rd_T50 l0 a2).f1) ((rd_T50 l0 a2).f2) a3 false _ A11.out).mono ?_); rintro e w23 ⟨rfl, hb⟩; have t_ := fc2 (bw BK308 hb) (below_step bb hb); clear BK308 HB; obtain ⟨BK308, HB⟩ := t_; (try clear hb); (try clear hb2); (try clear hk); (try clear hi))))
      go_ret
      exact ⟨er, bb⟩
    ·rw [if_neg c10] at H
     exact absurd H (by simp)
   ·rw [if_neg c9] at H
    exact absurd H (by simp)
  ·replace c8 := Bool.eq_false_iff.mpr c8
   subst c8
   have H1 : (some (-1)) = some r := by rw [if_neg (show ¬ (false = true) by decide)] at H; exact H
   clear H
   have H := H1
   clear H1
   obtain rfl := Option.some.inj H
   go_enter Try.func45, Try.ntmps45
   go_wp2_with (first | ((with_reducible refine gate_dst (N := 5) rfl ?_); (try (refine gate_guard (by rfl) ?_; dsimp only)); refine box_event ?hg (N := 5) ?hd (cs := #[.slice A1_0 l1_0.length c1_0, .slice A1_1 l1_1.length c1_1, .slice A1_2 l1_2.length c1_2]) (t := 31) ?hr ?_; (case hd => rfl); (case hg => rfl); (case hr => first | (go_simp; done) | (go_simp; rfl)); intro gb308 hg w24 hbox hb; have t_ := fc4 (below_step bb hb) (hbox) (bg hg : w.heap.size ≤ gb308) (bg hg : w.heap.size ≤ gb308); clear HB; obtain ⟨HB, BK308, GW308, GE308⟩ := t_; clear hb hbox hg; obtain ⟨hcz25_0, hcz25_1, hcz25_2, hfz25_0, hfz25_1, hfz25_2⟩ := bx3 BK308.out) | (go_at_call 76; (with_reducible refine (impl_areNumbers.calls k _ _ l0 _ _ l1_0 _ _ l1_1 _ _ l1_2 true _ ?side1 ?side2 ?side3 ?side4 ?side5 ?side6 ?side7 ?side8 A5.out).mono ?_); (case side1 => exact kc); (case side2 => exact HC0.out); (case side3 => exact kc); (case side4 => exact HC1_0.out); (case side5 => exact kc); (case side6 => exact HC1_1.out); (case side7 => exact kc); (case side8 => exact HC1_2.out); rintro e w26 ⟨rfl, hb⟩; have t_ := fc2 (bw BK308 hb) (below_step bb hb); clear BK308 HB; obtain ⟨BK308, HB⟩ := t_; (try clear hb); (try clear hb2); (try clear hk); (try clear hi)) | (go_at_call 94; (with_reducible refine (impl_within.calls a2 1 (wrap64 ((l0.length : Int) - 1)) false _ A7.out).mono ?_); rintro e w' ⟨rfl, ⟨nd, rfl⟩⟩; (try first | exact ⟨rfl, _, World.drewN_drewN _ _ _⟩ | exact ⟨rfl, _, Eq.trans (World.drewN_drewN _ _ _) (congrArg (World.drewN _) (Nat.add_assoc _ _ _))⟩)))
   repeat (go_quiet (first | ((with_reducible refine gate_dst (N := 5) rfl ?_); (try (refine gate_guard (by rfl) ?_; dsimp only)); refine box_event ?hg (N := 5) ?hd (cs := #[.slice A1_0 l1_0.length c1_0, .slice A1_1 l1_1.length c1_1, .slice A1_2 l1_2.length c1_2]) (t := 31) ?hr ?_; (case hd => rfl); (case hg => rfl); (case hr => first | (go_simp; done) | (go_simp; rfl)); intro gb308 hg w24 hbox hb; have t_ := fc4 (below_step bb hb) (hbox) (bg hg : w.heap.size ≤ gb308) (bg hg : w.heap.size ≤ gb308); clear HB; obtain ⟨HB, BK308, GW308, GE308⟩ := t_; clear hb hbox hg; obtain ⟨hcz25_0, hcz25_1, hcz25_2, hfz25_0, hfz25_1, hfz25_2⟩ := bx3 BK308.out) | (go_at_call 76; (with_reducible refine (impl_areNumbers.calls k _ _ l0 _ _ l1_0 _ _ l1_1 _ _ l1_2 true _ ?side1 ?side2 ?side3 ?side4 ?side5 ?side6 ?side7 ?side8 A5.out).mono ?_); (case side1 => exact kc); (case side2 => exact HC0.out); (case side3 => exact kc); (case side4 => exact HC1_0.out); (case side5 => exact kc); (case side6 => exact HC1_1.out); (case side7 => exact kc); (case side8 => exact HC1_2.out); rintro e w26 ⟨rfl, hb⟩; have t_ := fc2 (bw BK308 hb) (below_step bb hb); clear BK308 HB; obtain ⟨BK308, HB⟩ := t_; (try clear hb); (try clear hb2); (try clear hk); (try clear hi)) | (go_at_call 94; (with_reducible refine (impl_within.calls a2 1 (wrap64 ((l0.length : Int) - 1)) false _ A7.out).mono ?_); rintro e w' ⟨rfl, ⟨nd, rfl⟩⟩; (try first | exact ⟨rfl, _, World.drewN_drewN _ _ _⟩ | exact ⟨rfl, _, Eq.trans (World.drewN_drewN _ _ _) (congrArg (World.drewN _) (Nat.add_assoc _ _ _))⟩))); try go_wp2_with (first | ((with_reducible refine gate_dst (N := 5) rfl ?_); (try (refine gate_guard (by rfl) ?_; dsimp only)); refine box_event ?hg (N := 5) ?hd (cs := #[.slice A1_0 l1_0.length c1_0, .slice A1_1 l1_1.length c1_1, .slice A1_2 l1_2.length c1_2]) (t := 31) ?hr ?_; (case hd => rfl); (case hg => rfl); (case hr => first | (go_simp; done) | (go_simp; rfl)); intro gb308 hg w24 hbox hb; have t_ := fc4 (below_step bb hb) (hbox) (bg hg : w.heap.size ≤ gb308) (bg hg : w.heap.size ≤ gb308); clear HB; obtain ⟨HB, BK308, GW308, GE308⟩ := t_; clear hb hbox hg; obtain ⟨hcz25_0, hcz25_1, hcz25_2, hfz25_0, hfz25_1, hfz25_2⟩ := bx3 BK308.out) | (go_at_call 76; (with_reducible refine (impl_areNumbers.calls k _ _ l0 _ _ l1_0 _ _ l1_1 _ _ l1_2 true _ ?side1 ?side2 ?side3 ?side4 ?side5 ?side6 ?side7 ?side8 A5.out).mono ?_); (case side1 => exact kc); (case side2 => exact HC0.out); (case side3 => exact kc); (case side4 => exact HC1_0.out); (case side5 => exact kc); (case side6 => exact HC1_1.out); (case side7 => exact kc); (case side8 => exact HC1_2.out); rintro e w26 ⟨rfl, hb⟩; have t_ := fc2 (bw BK308 hb) (below_step bb hb); clear BK308 HB; obtain ⟨BK308, HB⟩ := t_; (try clear hb); (try clear hb2); (try clear hk); (try clear hi)) | (go_at_call 94; (with_reducible refine (impl_within.calls a2 1 (wrap64 ((l0.length : Int) - 1)) false _ A7.out).mono ?_); rintro e w' ⟨rfl, ⟨nd, rfl⟩⟩; (try first | exact ⟨rfl, _, World.drewN_drewN _ _ _⟩ | exact ⟨rfl, _, Eq.trans (World.drewN_drewN _ _ _) (congrArg (World.drewN _) (Nat.add_assoc _ _ _))⟩))))
   go_ret
   exact ⟨er, bb⟩
 ·replace c6 := Bool.eq_false_iff.mpr c6
  subst c6
  have H1 : (some (-1)) = some r := by rw [if_neg (show ¬ (false = true) by decide)] at H; exact H
  clear H
  have H := H1
  clear H1
  obtain rfl := Option.some.inj H
  go_enter Try.func45, Try.ntmps45
  go_wp2_with (first | ((with_reducible refine gate_dst (N := 5) rfl ?_); (try (refine gate_guard (by rfl) ?_; dsimp only)); refine box_event ?hg (N := 5) ?hd (cs := #[.slice A1_0 l1_0.length c1_0, .slice A1_1 l1_1.length c1_1, .slice A1_2 l1_2.length c1_2]) (t := 31) ?hr ?_; (case hd => rfl); (case hg => rfl); (case hr => first | (go_simp; done) | (go_simp; rfl)); intro gb308 hg w27 hbox hb; have t_ := fc4 (below_step bb hb) (hbox) (bg hg : w.heap.size ≤ gb308) (bg hg : w.heap.size ≤ gb308); clear HB; obtain ⟨HB, BK308, GW308, GE308⟩ := t_; clear hb hbox hg; obtain ⟨hcz28_0, hcz28_1, hcz28_2, hfz28_0, hfz28_1, hfz28_2⟩ := bx3 BK308.out) | (go_at_call 76; (with_reducible refine (impl_areNumbers.calls k _ _ l0 _ _ l1_0 _ _ l1_1 _ _ l1_2 false _ ?side1 ?side2 ?side3 ?side4 ?side5 ?side6 ?side7 ?side8 A5.out).mono ?_); (case side1 => exact kc); (case side2 => exact HC0.out); (case side3 => exact kc); (case side4 => exact HC1_0.out); (case side5 => exact kc); (case side6 => exact HC1_1.out); (case side7 => exact kc); (case side8 => exact HC1_2.out); rintro e w29 ⟨rfl, hb⟩; have t_ := fc2 (bw BK308 hb) (below_step bb hb); clear BK308 HB; obtain ⟨BK308, HB⟩ := t_; (try clear hb); (try clear hb2); (try clear hk); (try clear hi)))
  repeat (go_quiet (first | ((with_reducible refine gate_dst (N := 5) rfl ?_); (try (refine gate_guard (by rfl) ?_; dsimp only)); refine box_event ?hg (N := 5) ?hd (cs := #[.slice A1_0 l1_0.length c1_0, .slice A1_1 l1_1.length c1_1, .slice A1_2 l1_2.length c1_2]) (t := 31) ?hr ?_; (case hd => rfl); (case hg => rfl); (case hr => first | (go_simp; done) | (go_simp; rfl)); intro gb308 hg w27 hbox hb; have t_ := fc4 (below_step bb hb) (hbox) (bg hg : w.heap.size ≤ gb308) (bg hg : w.heap.size ≤ gb308); clear HB; obtain ⟨HB, BK308, GW308, GE308⟩ := t_; clear hb hbox hg; obtain ⟨hcz28_0, hcz28_1, hcz28_2, hfz28_0, hfz28_1, hfz28_2⟩ := bx3 BK308.out) | (go_at_call 76; (with_reducible refine (impl_areNumbers.calls k _ _ l0 _ _ l1_0 _ _ l1_1 _ _ l1_2 false _ ?side1 ?side2 ?side3 ?side4 ?side5 ?side6 ?side7 ?side8 A5.out).mono ?_); (case side1 => exact kc); (case side2 => exact HC0.out); (case side3 => exact kc); (case side4 => exact HC1_0.out); (case side5 => exact kc); (case side6 => exact HC1_1.out); (case side7 => exact kc); (case side8 => exact HC1_2.out); rintro e w29 ⟨rfl, hb⟩; have t_ := fc2 (bw BK308 hb) (below_step bb hb); clear BK308 HB; obtain ⟨BK308, HB⟩ := t_; (try clear hb); (try clear hb2); (try clear hk); (try clear hi))); try go_wp2_with (first | ((with_reducible refine gate_dst (N := 5) rfl ?_); (try (refine gate_guard (by rfl) ?_; dsimp only)); refine box_event ?hg (N := 5) ?hd (cs := #[.slice A1_0 l1_0.length c1_0, .slice A1_1 l1_1.length c1_1, .slice A1_2 l1_2.length c1_2]) (t := 31) ?hr ?_; (case hd => rfl); (case hg => rfl); (case hr => first | (go_simp; done) | (go_simp; rfl)); intro gb308 hg w27 hbox hb; have t_ := fc4 (below_step bb hb) (hbox) (bg hg : w.heap.size ≤ gb308) (bg hg : w.heap.size ≤ gb308); clear HB; obtain ⟨HB, BK308, GW308, GE308⟩ := t_; clear hb hbox hg; obtain ⟨hcz28_0, hcz28_1, hcz28_2, hfz28_0, hfz28_1, hfz28_2⟩ := bx3 BK308.out) | (go_at_call 76; (with_reducible refine (impl_areNumbers.calls k _ _ l0 _ _ l1_0 _ _ l1_1 _ _ l1_2 false _ ?side1 ?side2 ?side3 ?side4 ?side5 ?side6 ?side7 ?side8 A5.out).mono ?_); (case side1 => exact kc); (case side2 => exact HC0.out); (case side3 => exact kc); (case side4 => exact HC1_0.out); (case side5 => exact kc); (case side6 => exact HC1_1.out); (case side7 => exact kc); (case side8 => exact HC1_2.out); rintro e w29 ⟨rfl, hb⟩; have t_ := fc2 (bw BK308 hb) (below_step bb hb); clear BK308 HB; obtain ⟨BK308, HB⟩ := t_; (try clear hb); (try clear hb2); (try clear hk); (try clear hi))))
  go_ret
  exact ⟨er, bb⟩

/-! ### impl_OwnerOfId: function 46 -/
mutual
def impl_OwnerOfId.j0 : Nat → List (S50) → Int → Bool → List Int → List Int → List Int → Option (Int × Int × Bool)
 | 0, _, _, _, _, _, _ => none
 | k + 1, x0, x2, x18, x317000, x317001, x317002 => if x18 = true then (some (0, 0, false)) else (impl_OwnerOfId.l0 k x0 x2 1 x317000 x317001 x317002)
def impl_OwnerOfId.l0 : Nat → List (S50) → Int → Int → List Int → List Int → List Int → Option (Int × Int × Bool)
 | 0, _, _, _, _, _, _ => none
 | k + 1, x0, x2, x9, x317000, x317001, x317002 => if x9 < (x0.length : Int) then (impl_OwnerOfId.l1 k x0 x2 x9 0 x317000 x317001 x317002) else (some (0, 0, false))
def impl_OwnerOfId.l1 : Nat → List (S50) → Int → Int → Int → List Int → List Int → List Int → Option (Int × Int × Bool)
 | 0, _, _, _, _, _, _, _ => none
 | k + 1, x0, x2, x9, x25, x317000, x317001, x317002 => if x25 < 4 then ((impl_NodeId.f k x0 x317000 x317001 x317002 x9 x25).bind fun t318 => (if t318 = x2 then (some (x9, x25, true)) else (impl_OwnerOfId.l1 k x0 x2 x9 (wrap64 (x25 + 1)) x317000 x317001 x317002))) else (impl_OwnerOfId.l0 k x0 x2 (wrap64 (x9 + 1)) x317000 x317001 x317002)
end
def impl_OwnerOfId.f (k : Nat) (l0 : List (S50)) (l1_0 : List Int) (l1_1 : List Int) (l1_2 : List Int) (a2 : Int) : Option (Int × Int × Bool) := (impl_areNumbers.f k l0 l1_0 l1_1 l1_2).bind fun t317 => (if t317 = true then (impl_OwnerOfId.j0 k l0 a2 (decide (a2 < 0)) l1_0 l1_1 l1_2) else (impl_OwnerOfId.j0 k l0 a2 true l1_0 l1_1 l1_2))
set_option maxHeartbeats 8000000 in
set_option maxRecDepth 100000 in
theorem impl_OwnerOfId.calls (k : Nat) (A0 : Option Addr) (c0 : Nat) (l0 : List (S50)) (A1_0 : Option Addr) (c1_0 : Nat) (l1_0 : List Int) (A1_1 : Option Addr) (c1_1 : Nat) (l1_1 : List Int) (A1_2 : Option Addr) (c1_2 : Nat) (l1_2 : List Int) (a2 : Int) (r1 : Int) (r2 : Int) (r3 : Bool) (w : World) (hr0 : Kd.C k50 w A0 l0.length l0) (hc0 : l0.length ≤ c0) (hr1_0 : Kd.C (Kd.int .i64) w A1_0 l1_0.length l1_0) (hc1_0 : l1_0.length ≤ c1_0) (hr1_1 : Kd.C (Kd.int .i64) w A1_1 l1_1.length l1_1) (hc1_1 : l1_1.length ≤ c1_1) (hr1_2 : Kd.C (Kd.int .i64) w A1_2 l1_2.length l1_2) (hc1_2 : l1_2.length ≤ c1_2) (h : impl_OwnerOfId.f k l0 l1_0 l1_1 l1_2 a2 = some (r1, r2, r3)) :
  Calls Try.prog 46 #[.slice A0 l0.length c0, .agg #[.slice A1_0 l1_0.length c1_0, .slice A1_1 l1_1.length c1_1, .slice A1_2 l1_2.length c1_2], .int .i64 a2] w fun e w' => e = .returned (.tuple #[.int .i64 r1, .int .i64 r2, .bool r3]) ∧ Below w.heap.size w w' := by
 have hu31 := Try.underlying31
 have HR0 := Aside0.mk hr0
 have HC0 := Aside0.mk hc0
 clear hr0 hc0
 have HR1_0 := Aside0.mk hr1_0
 have HC1_0 := Aside0.mk hc1_0
 clear hr1_0 hc1_0
 have HR1_1 := Aside0.mk hr1_1
 have HC1_1 := Aside0.mk hc1_1
 clear hr1_1 hc1_1
 have HR1_2 := Aside0.mk hr1_2
 have HC1_2 := Aside0.mk hc1_2
 clear hr1_2 hc1_2
 have HB := Aside0.mk (Below.refl w.heap.size w)
 have H : ((impl_areNumbers.f k l0 l1_0 l1_1 l1_2).bind fun t317 => (if t317 = true then (impl_OwnerOfId.j0 k l0 a2 (decide (a2 < 0)) l1_0 l1_1 l1_2) else (impl_OwnerOfId.j0 k l0 a2 true l1_0 l1_1 l1_2))) = some (r1, r2, r3) := h
 clear h
 have HC4 := Aside0.mk H
 clear H
 go_enter Try.func46, Try.ntmps46
 go_upto_region 1 with (first | ((with_reducible refine gate_dst (N := 4) rfl ?_); refine box_event ?hg (N := 4) ?hd (cs := #[.slice A1_0 l1_0.length c1_0, .slice A1_1 l1_1.length c1_1, .slice A1_2 l1_2.length c1_2]) (t := 31) ?hr ?_; (case hd => rfl); (case hg => rfl); (case hr => first | (go_simp; done) | (go_simp; rfl)); intro gb316 hg w5 hbox hb; have t_ := fc4 (below_step bb hb) (hbox) (bg hg : w.heap.size ≤ gb316) (bg hg : w.heap.size ≤ gb316); clear HB; obtain ⟨HB, BK316, GW316, GE316⟩ := t_; clear hb hbox hg))
 (try simp only [Act.put, List.setIfInBounds_toArray, List.set_cons_zero, List.set_cons_succ])
 go_cut [18] (fun v18 wc => ∃ (kq : Nat) (x18_3 : Bool), v18 = .bool x18_3 ∧ Aside0 (impl_OwnerOfId.j0 kq l0 a2 x18_3 l1_0 l1_1 l1_2 = some (r1, r2, r3)) ∧ Aside0 (kq ≤ k) ∧ Aside0 (wc.heap[gb316]? = some (.cells #[(.slice A1_0 l1_0.length c1_0), (.slice A1_1 l1_1.length c1_1), (.slice A1_2 l1_2.length c1_2)] 31 (0, 0))) ∧ Aside0 (Below w.heap.size w wc))
 case first =>
  have H := HC4.out
  clear HC4
  replace H := Option.bind_eq_some_iff.mp H
  obtain ⟨t317, A60, H⟩ := H
  replace H : (if t317 = true then (impl_OwnerOfId.j0 k l0 a2 (decide (a2 < 0)) l1_0 l1_1 l1_2) else (impl_OwnerOfId.j0 k l0 a2 true l1_0 l1_1 l1_2)) = some (r1, r2, r3) := H
  have A6 := Aside0.mk A60
  clear A60
  by_cases c7 : t317 = true
  ·subst c7
   have H1 : (impl_OwnerOfId.j0 k l0 a2 (decide (a2 < 0)) l1_0 l1_1 l1_2) = some (r1, r2, r3) := by rw [if_pos rfl] at H; exact H
   clear H
   have H := H1
   clear H1
   have H' := Aside0.mk H
   clear H
   obtain ⟨hcz8_0, hcz8_1, hcz8_2, hfz8_0, hfz8_1, hfz8_2⟩ := bx3 BK316.out
   go_wp2_with (first | ((with_reducible refine gate_callee (f := 76) rfl ?_); refine goesL_ (some 13) rfl rfl Try.func76 (by kernel_rfl) rfl #[.slice A0 l0.length c0, .agg #[.slice A1_0 l1_0.length c1_0, .slice A1_1 l1_1.length c1_1, .slice A1_2 l1_2.length c1_2]] rfl ms ?_; (with_reducible refine (impl_areNumbers.calls k _ _ l0 _ _ l1_0 _ _ l1_1 _ _ l1_2 true _ ?side1 ?side2 ?side3 ?side4 ?side5 ?side6 ?side7 ?side8 A6.out).mono ?_); (case side1 => exact kc); (case side2 => exact HC0.out); (case side3 => exact kc); (case side4 => exact HC1_0.out); (case side5 => exact kc); (case side6 => exact HC1_1.out); (case side7 => exact kc); (case side8 => exact HC1_2.out); rintro e w9 ⟨rfl, hb⟩; refine ⟨_, rfl, ?_⟩; have t_ := fc2 (bw BK316 hb) (below_step bb hb); clear BK316 HB; obtain ⟨BK316, HB⟩ := t_; (try clear hb); (try clear hb2); (try clear hk); (try clear hi)))
   go_meet
   case rel => exact ⟨_, (decide (a2 < 0)), (by first | rfl | (simp; done) | (simp [*]; done)), H', ⟨by first | omega | exact Nat.le_refl _⟩, ⟨by exact bk⟩, ⟨bb⟩⟩
  ·replace c7 := Bool.eq_false_iff.mpr c7
   subst c7
   have H1 : (impl_OwnerOfId.j0 k l0 a2 true l1_0 l1_1 l1_2) = some (r1, r2, r3) := by rw [if_neg (show ¬ (false = true) by decide)] at H; exact H
   clear H
   have H := H1
   clear H1
   have H' := Aside0.mk H
   clear H
   obtain ⟨hcz10_0, hcz10_1, hcz10_2, hfz10_0, hfz10_1, hfz10_2⟩ := bx3 BK316.out
   go_wp2_with (first | ((with_reducible refine gate_callee (f := 76) rfl ?_); refine goesL_ (some 13) rfl rfl Try.func76 (by kernel_rfl) rfl #[.slice A0 l0.length c0, .agg #[.slice A1_0 l1_0.length c1_0, .slice A1_1 l1_1.length c1_1, .slice A1_2 l1_2.length c1_2]] rfl ms ?_; (with_reducible refine (impl_areNumbers.calls k _ _ l0 _ _ l1_0 _ _ l1_1 _ _ l1_2 false _ ?side1 ?side2 ?side3 ?side4 ?side5 ?side6 ?side7 ?side8 A6.out).mono ?_); (case side1 => exact kc); (case side2 => exact HC0.out); (case side3 => exact kc); (case side4 => exact HC1_0.out); (case side5 => exact kc); (case side6 => exact HC1_1.out); (case side7 => exact kc); (case side8 => exact HC1_2.out); rintro e w11 ⟨rfl, hb⟩; refine ⟨_, rfl, ?_⟩; have t_ := fc2 (bw BK316 hb) (below_step bb hb); clear BK316 HB; obtain ⟨BK316, HB⟩ := t_; (try clear hb); (try clear hb2); (try clear hk); (try clear hi)))
   go_meet
   case rel => exact ⟨_, (true), (by first | rfl | (simp; done) | (simp [*]; done)), H', ⟨by first | omega | exact Nat.le_refl _⟩, ⟨by exact bk⟩, ⟨bb⟩⟩
 case rest =>
  clear HC4
  try clear c1
  try clear p2
  try clear c4
  try clear c7
  try clear hcz10_0
  try clear hcz10_1
  try clear hcz10_2
  try clear hcz8_0
  try clear hcz8_1
  try clear hcz8_2
  try clear hfz10_0
  try clear hfz10_1
  try clear hfz10_2
  try clear hfz8_0
  try clear hfz8_1
  try clear hfz8_2
  obtain ⟨kq, x18_3, rfl, HA, HJ3, BK316, HB⟩ := hcut
  cases kq with
  | zero => exact absurd HA.out (by simp [impl_OwnerOfId.j0])
  | succ kj3 =>
   have H := HA.out
   clear HA
   simp only [impl_OwnerOfId.j0] at H
   by_cases c12 : x18_3 = true
   ·subst c12
    have H1 : (some (0, 0, false)) = some (r1, r2, r3) := by rw [if_pos rfl] at H; exact H
    clear H
    have H := H1
    clear H1
    simp only [Option.some.injEq, Prod.mk.injEq] at H
    obtain ⟨rfl, rfl, rfl⟩ := H
    go_wp2
    go_ret3
    exact ⟨er, bb⟩
   ·replace c12 := Bool.eq_false_iff.mpr c12
    subst c12
    have H1 : (impl_OwnerOfId.l0 kj3 l0 a2 1 l1_0 l1_1 l1_2) = some (r1, r2, r3) := by rw [if_neg (show ¬ (false = true) by decide)] at H; exact H
    clear H
    have H := H1
    clear H1
    have H' := Aside0.mk H
    clear H
    go_wp2
    go_loopg [9] kj3 (fun kq v9 w' => ∃ (x9_2 : Int), v9 = .int .i64 x9_2 ∧ Aside0 (impl_OwnerOfId.l0 kq l0 a2 x9_2 l1_0 l1_1 l1_2 = some (r1, r2, r3)) ∧ Aside0 (kq ≤ kj3) ∧ Aside0 (w'.heap[gb316]? = some (.cells #[(.slice A1_0 l1_0.length c1_0), (.slice A1_1 l1_1.length c1_1), (.slice A1_2 l1_2.length c1_2)] 31 (0, 0))) ∧ Aside0 (Below w.heap.size w w'))
    case atStart => exact ⟨(1), (by first | rfl | (simp; done) | (simp [*]; done)), H', ⟨Nat.le_refl _⟩, ⟨by exact bk⟩, ⟨bb⟩⟩
    case round =>
     clear H'
     try clear c1
     try clear p2
     try clear c4
     try clear c7
     try clear c12
     try clear hcz10_0
     try clear hcz10_1
     try clear hcz10_2
     try clear hcz8_0
     try clear hcz8_1
     try clear hcz8_2
     try clear hfz10_0
     try clear hfz10_1
     try clear hfz10_2
     try clear hfz8_0
     try clear hfz8_1
     try clear hfz8_2
     try clear p2
     obtain ⟨x9_2, rfl, HA, HK2, BK316, HB⟩ := hrel
     cases gk with
     | zero => exact absurd HA.out (by simp [impl_OwnerOfId.l0])
     | succ k2 =>
      have H := HA.out
      clear HA
      simp only [impl_OwnerOfId.l0] at H
      by_cases c13 : x9_2 < (l0.length : Int)
      ·rw [if_pos c13] at H
       have c13b0 : decide (x9_2 < (l0.length : Int)) = true := decide_eq_true c13
       clear c13
       have H' := Aside0.mk H
       clear H
       go_wp2
       go_loopg [25] k2 (fun kq v25 w' => ∃ (x25_3 : Int), v25 = .int .i64 x25_3 ∧ Aside0 (impl_OwnerOfId.l1 kq l0 a2 x9_2 x25_3 l1_0 l1_1 l1_2 = some (r1, r2, r3)) ∧ Aside0 (kq ≤ k2) ∧ Aside0 (w'.heap[gb316]? = some (.cells #[(.slice A1_0 l1_0.length c1_0), (.slice A1_1 l1_1.length c1_1), (.slice A1_2 l1_2.length c1_2)] 31 (0, 0))) ∧ Aside0 (Below w.heap.size w w'))
       case atStart => exact ⟨(0), (by first | rfl | (simp; done) | (simp [*]; done)), H', ⟨Nat.le_refl _⟩, ⟨by exact bk⟩, ⟨bb⟩⟩
       case round =>
        clear H'
        try clear c1
        try clear p2
        try clear c4
        try clear c7
        try clear c12
        try clear c13
        try clear c13b0
        try clear hcz10_0
        try clear hcz10_1
        try clear hcz10_2
        try clear hcz8_0
        try clear hcz8_1
        try clear hcz8_2
        try clear hfz10_0
        try clear hfz10_1
        try clear hfz10_2
        try clear hfz8_0
        try clear hfz8_1
        try clear hfz8_2
        try clear p2
        obtain ⟨x25_3, rfl, HA, HK3, BK316, HB⟩ := hrel
        cases gk with
        | zero => exact absurd HA.out (by simp [impl_OwnerOfId.l1])
        | succ k3 =>
         have H := HA.out
         clear HA
         simp only [impl_OwnerOfId.l1] at H
         by_cases c14 : x25_3 < 4
         ·rw [if_pos c14] at H
          have c14b0 : decide (x25_3 < 4) = true := decide_eq_true c14
          clear c14
          replace H := Option.bind_eq_some_iff.mp H
          obtain ⟨t318, A150, H⟩ := H
          replace H : (if t318 = a2 then (some (x9_2, x25_3, true)) else (impl_OwnerOfId.l1 k3 l0 a2 x9_2 (wrap64 (x25_3 + 1)) l1_0 l1_1 l1_2)) = some (r1, r2, r3) := H
          have A15 := Aside0.mk A150
          clear A150
          by_cases c16 : t318 = a2
          ·rw [if_pos c16] at H
           have c16b0 : (t318 == a2) = true := beq_iff_eq.mpr c16
           have c16b1 : (t318 != a2) = false := bne_eq_false_iff_eq.mpr c16
           clear c16
           simp only [Option.some.injEq, Prod.mk.injEq] at H
           obtain ⟨rfl, rfl, rfl⟩ := H
           obtain ⟨hcz17_0, hcz17_1, hcz17_2, hfz17_0, hfz17_1, hfz17_2⟩ := bx3 BK316.out
           go_wp2_with (first | ((with_reducible refine gate_callee (f := 45) rfl ?_); refine goesL_ (some 32) rfl rfl Try.func45 (by kernel_rfl) rfl #[.slice A0 l0.length c0, .agg #[.slice A1_0 l1_0.length c1_0, .slice A1_1 l1_1.length c1_1, .slice A1_2 l1_2.length c1_2], .int .i64 x9_2, .int .i64 x25_3] rfl ms ?_; (with_reducible refine (impl_NodeId.calls k3 _ _ l0 _ _ l1_0 _ _ l1_1 _ _ l1_2 x9_2 x25_3 t318 _ ?side1 ?side2 ?side3 ?side4 ?side5 ?side6 ?side7 ?side8 A15.out).mono ?_); (case side1 => exact kc); (case side2 => exact HC0.out); (case side3 => exact kc); (case side4 => exact HC1_0.out); (case side5 => exact kc); (case side6 => exact HC1_1.out); (case side7 => exact kc); (case side8 => exact HC1_2.out); rintro e w18 ⟨rfl, hb⟩; refine ⟨_, rfl, ?_⟩; have t_ := fc2 (bw BK316 hb) (below_step bb hb); clear BK316 HB; obtain ⟨BK316, HB⟩ := t_; (try clear hb); (try clear hb2); (try clear hk); (try clear hi)))
           go_ret3
           exact ⟨er, bb⟩
          ·rw [if_neg c16] at H
           have c16b0 : (t318 == a2) = false := beq_eq_false_iff_ne.mpr c16
           have c16b1 : (t318 != a2) = true := bne_iff_ne.mpr c16
           have H' := Aside0.mk H
           clear H
           obtain ⟨hcz19_0, hcz19_1, hcz19_2, hfz19_0, hfz19_1, hfz19_2⟩ := bx3 BK316.out
           go_wp2_with (first | ((with_reducible refine gate_callee (f := 45) rfl ?_); refine goesL_ (some 32) rfl rfl Try.func45 (by kernel_rfl) rfl #[.slice A0 l0.length c0, .agg #[.slice A1_0 l1_0.length c1_0, .slice A1_1 l1_1.length c1_1, .slice A1_2 l1_2.length c1_2], .int .i64 x9_2, .int .i64 x25_3] rfl ms ?_; (with_reducible refine (impl_NodeId.calls k3 _ _ l0 _ _ l1_0 _ _ l1_1 _ _ l1_2 x9_2 x25_3 t318 _ ?side1 ?side2 ?side3 ?side4 ?side5 ?side6 ?side7 ?side8 A15.out).mono ?_); (case side1 => exact kc); (case side2 => exact HC0.out); (case side3 => exact kc); (case side4 => exact HC1_0.out); (case side5 => exact kc); (case side6 => exact HC1_1.out); (case side7 => exact kc); (case side8 => exact HC1_2.out); rintro e w20 ⟨rfl, hb⟩; refine ⟨_, rfl, ?_⟩; have t_ := fc2 (bw BK316 hb) (below_step bb hb); clear BK316 HB; obtain ⟨BK316, HB⟩ := t_; (try clear hb); (try clear hb2); (try clear hk); (try clear hi)))
           go_roundg k3
           case measure => have := HJ3.out; have := HK2.out; have := HK3.out; omega
           case rel => exact ⟨(wrap64 (x25_3 + 1)), (by first | rfl | (simp; done) | (simp [*]; done)), H', ⟨by have := HJ3.out; have := HK2.out; have := HK3.out; omega⟩, ⟨by exact bk⟩, ⟨bb⟩⟩
         ·rw [if_neg c14] at H
          have c14b0 : decide (x25_3 < 4) = false := decide_eq_false c14
          clear c14
          have H' := Aside0.mk H
          clear H
          go_wp2
          go_roundg k3
          case measure => have := HJ3.out; have := HK2.out; have := HK3.out; omega
          case rel => exact ⟨(wrap64 (x9_2 + 1)), (by first | rfl | (simp; done) | (simp [*]; done)), H', ⟨by have := HJ3.out; have := HK2.out; have := HK3.out; omega⟩, ⟨by exact bk⟩, ⟨bb⟩⟩
      ·rw [if_neg c13] at H
       have c13b0 : decide (x9_2 < (l0.length : Int)) = false := decide_eq_false c13
       clear c13
       simp only [Option.some.injEq, Prod.mk.injEq] at H
       obtain ⟨rfl, rfl, rfl⟩ := H
       go_wp2
       go_ret3
       exact ⟨er, bb⟩

/-! ### laws_FnNobody: function 11 -/
def laws_FnNobody.l0 : Nat → List (S50) → Bool → Int → List Int → List Int → List Int → Option (Bool)
 | 0, _, _, _, _, _, _ => none
 | k + 1, x3, x5, x6, x334000, x334001, x334002 => if x6 < 256 then ((impl_OwnerOfId.f k x3 x334000 x334001 x334002 x6).bind fun bt334 => ((impl_DownToId.f k x3 x334000 x334001 x334002 x6).bind fun t337 => (if (bt334.2.2 != (decide ((t337.length : Int) > 0))) = true then (some false) else (laws_FnNobody.l0 k x3 x5 (wrap64 ((wrap64 (x6 + 1)) + (Int.tmod x6 3))) x334000 x334001 x334002)))) else (some x5)
def laws_FnNobody.f (k : Nat) (l0 : List Int) : Option (Bool) := (laws_big.f l0).bind fun t319 => (if t319 = true then (some true) else ((spec_DrawTree.f k l0).bind fun t320 => ((impl_Enumerate.f k t320).bind fun bt323 => (laws_FnNobody.l0 k t320 bt323.2.2.2 0 bt323.1 bt323.2.1 bt323.2.2.1))))
theorem laws_FnNobody.no_ {r : Bool} (h : some false = some r) (ht : r = true) : False := Bool.false_ne_true ((Option.some.inj h).trans ht)
set_option maxHeartbeats 8000000 in
set_option maxRecDepth 100000 in
theorem laws_FnNobody.calls (k : Nat) (A0 : Option Addr) (c0 : Nat) (l0 : List Int) (r : Bool) (w : World) (hr0 : Kd.C (Kd.int .u8) w A0 l0.length l0) (hc0 : l0.length ≤ c0) (h : laws_FnNobody.f k l0 = some r) (hrT_ : r = true := by rfl) :
  Calls Try.prog 11 #[.slice A0 l0.length c0] w fun e w' => e = .returned (.bool r) ∧ Below w.heap.size w w' := by
 have hu31 := Try.underlying31
 have HR0 := Aside0.mk hr0
 have HC0 := Aside0.mk hc0
 clear hr0 hc0
 have HB := Aside0.mk (Below.refl w.heap.size w)
 have H : ((laws_big.f l0).bind fun t319 => (if t319 = true then (some true) else ((spec_DrawTree.f k l0).bind fun t320 => ((impl_Enumerate.f k t320).bind fun bt323 => (laws_FnNobody.l0 k t320 bt323.2.2.2 0 bt323.1 bt323.2.1 bt323.2.2.1))))) = some r := h
 clear h
 replace H := Option.bind_eq_some_iff.mp H
 obtain ⟨t319, A20, H⟩ := H
 replace H : (if t319 = true then (some true) else ((spec_DrawTree.f k l0).bind fun t320 => ((impl_Enumerate.f k t320).bind fun bt323 => (laws_FnNobody.l0 k t320 bt323.2.2.2 0 bt323.1 bt323.2.1 bt323.2.2.1)))) = some r := H
 have A2 := Aside0.mk A20
 clear A20
 by_cases c3 : t319 = true
 ·subst c3
  have H1 : (some true) = some r := by rw [if_pos rfl] at H; exact H
  clear H
  have H := H1
  clear H1
  obtain rfl := Option.some.inj H
  go_enter Try.func11, Try.ntmps11
  go_wp2_with (first | ((with_reducible refine gate_callee (f := 35) rfl ?_); refine goesL_ (some 11) rfl rfl Try.func35 (by kernel_rfl) rfl #[.slice A0 l0.length c0] rfl ms ?_; (with_reducible refine (laws_big.calls _ _ l0 true _ ?side1 ?side2 A2.out).mono ?_); (case side1 => repeat (first | exact HR0.out | (with_reducible refine Kd.C_alloc ?_ _) | (with_reducible refine Kd.C_drewN ?_ _) | (with_reducible refine Kd.C_drew ?_))); (case side2 => exact HC0.out); rintro e w' ⟨rfl, ⟨nd, rfl⟩⟩; refine ⟨_, rfl, ?_⟩))
  go_ret
  exact ⟨er, bb⟩
 ·replace c3 := Bool.eq_false_iff.mpr c3
  subst c3
  have H1 : ((spec_DrawTree.f k l0).bind fun t320 => ((impl_Enumerate.f k t320).bind fun bt323 => (laws_FnNobody.l0 k t320 bt323.2.2.2 0 bt323.1 bt323.2.1 bt323.2.2.1))) = some r := by rw [if_neg (show ¬ (false = true) by decide)] at H; exact H
  clear H
  have H := H1
  clear H1
  replace H := Option.bind_eq_some_iff.mp H
  obtain ⟨t320, A40, H⟩ := H
  replace H : ((impl_Enumerate.f k t320).bind fun bt323 => (laws_FnNobody.l0 k t320 bt323.2.2.2 0 bt323.1 bt323.2.1 bt323.2.2.1)) = some r := H
  have A4 := Aside0.mk A40
  clear A40
  replace H := Option.bind_eq_some_iff.mp H
  obtain ⟨⟨t323, t326, t329, t332⟩, A50, H⟩ := H
  replace H : (laws_FnNobody.l0 k t320 t332 0 t323 t326 t329) = some r := H
  have A5 := Aside0.mk A50
  clear A50
  have H' := Aside0.mk H
  clear H
  go_enter Try.func11, Try.ntmps11
  go_wp2_with (first | ((with_reducible refine gate_callee (f := 35) rfl ?_); refine goesL_ (some 11) rfl rfl Try.func35 (by kernel_rfl) rfl #[.slice A0 l0.length c0] rfl ms ?_; (with_reducible refine (laws_big.calls _ _ l0 false _ ?side1 ?side2 A2.out).mono ?_); (case side1 => repeat (first | exact HR0.out | (with_reducible refine Kd.C_alloc ?_ _) | (with_reducible refine Kd.C_drewN ?_ _) | (with_reducible refine Kd.C_drew ?_))); (case side2 => exact HC0.out); rintro e w' ⟨rfl, ⟨nd, rfl⟩⟩; refine ⟨_, rfl, ?_⟩) | ((with_reducible refine gate_callee (f := 36) rfl ?_); refine goesL_ (some 13) rfl rfl Try.func36 (by kernel_rfl) rfl #[.slice A0 l0.length c0] rfl ms ?_; (with_reducible refine (spec_DrawTree.calls k _ _ l0 t320 _ ?side1 ?side2 A4.out).mono ?_); (case side1 => repeat (first | exact HR0.out | (with_reducible refine Kd.C_alloc ?_ _) | (with_reducible refine Kd.C_drewN ?_ _) | (with_reducible refine Kd.C_drew ?_))); (case side2 => exact HC0.out); rintro e w6 ⟨v321, rfl, ho0, hb⟩; refine ⟨_, rfl, ?_⟩; have t_ := fc2 (Kd.R_lower ho0 (below_size bb)) (below_step bb hb); clear HB; obtain ⟨HO322, HB⟩ := t_; (try clear hb); (try clear hb2); (try clear hk); (try clear hi); (try clear ho0); obtain ⟨Ao7, co7, eo7⟩ := Kd.R_slice HO322.out; subst eo7) | ((with_reducible refine gate_callee (f := 42) rfl ?_); refine goesL_ (some 16) rfl rfl Try.func42 (by kernel_rfl) rfl #[.slice Ao7 t320.length co7] rfl ms ?_; (with_reducible refine (impl_Enumerate.calls k _ _ t320 t323 t326 t329 t332 _ ?side1 ?side2 A5.out).mono ?_); (case side1 => repeat (first | exact (Kd.R_reads' HO322.out).2.2 | (with_reducible refine Kd.C_alloc ?_ _) | (with_reducible refine Kd.C_drewN ?_ _) | (with_reducible refine Kd.C_drew ?_))); (case side2 => exact (Kd.R_reads' HO322.out).2.1); rintro e w8 ⟨v324, v327, v330, rfl, ho0, ho1, ho2, hb⟩; refine ⟨_, rfl, ?_⟩; have t_ := fc5 (Kd.R_below (ra HO322.out) hb) (Kd.R_lower ho0 (below_size bb)) (Kd.R_lower ho1 (below_size bb)) (Kd.R_lower ho2 (below_size bb)) (below_step bb hb); clear HO322 HB; obtain ⟨HO322, HO325, HO328, HO331, HB⟩ := t_; (try clear hb); (try clear hb2); (try clear hk); (try clear hi); (try clear ho0); (try clear ho1); (try clear ho2)) | ((with_reducible refine gate_dst (N := 4) rfl ?_); refine box_event ?hg (N := 4) ?hd (cs := #[.slice none 0 0, .slice none 0 0, .slice none 0 0]) (t := 31) ?hr ?_; (case hd => rfl); (case hg => rfl); (case hr => first | (go_simp; done) | (go_simp; rfl)); intro gb333 hg w9 hbox hb; have t_ := fc8 (Kd.R_below (ra HO322.out) hb) (Kd.R_below (ra HO325.out) hb) (Kd.R_below (ra HO328.out) hb) (Kd.R_below (ra HO331.out) hb) (below_step bb hb) (hbox) (bg hg : w.heap.size ≤ gb333) (bg hg : w.heap.size ≤ gb333); clear HO322 HO325 HO328 HO331 HB; obtain ⟨HO322, HO325, HO328, HO331, HB, BK333, GW333, GE333⟩ := t_; clear hb hbox hg; obtain ⟨Ao10, co10, eo10⟩ := Kd.R_slice HO325.out; subst eo10; obtain ⟨hcz11_0, hcz11_1, hcz11_2, hfz11_0, hfz11_1, hfz11_2⟩ := bx3 BK333.out; obtain ⟨Ao12, co12, eo12⟩ := Kd.R_slice HO328.out; subst eo12; obtain ⟨Ao13, co13, eo13⟩ := Kd.R_slice HO331.out; subst eo13))
  go_loopg [6] k (fun kq v6 w' => ∃ (x6_1 : Int), v6 = .int .i64 x6_1 ∧ Aside0 (laws_FnNobody.l0 kq t320 t332 x6_1 t323 t326 t329 = some r) ∧ Aside0 (kq ≤ k) ∧ Aside0 (Kd.R k50 50 w' w.heap.size (fun _ => True) (.slice Ao7 t320.length co7) t320) ∧ Aside0 (Kd.R (Kd.int .i64) 3 w' w.heap.size (fun k_ => some k_ ≠ ((.slice Ao12 t326.length co12) : Value).ownBlock ∧ some k_ ≠ ((.slice Ao13 t329.length co13) : Value).ownBlock) (.slice Ao10 t323.length co10) t323) ∧ Aside0 (Kd.R (Kd.int .i64) 3 w' w.heap.size (fun k_ => some k_ ≠ ((.slice Ao10 t323.length co10) : Value).ownBlock ∧ some k_ ≠ ((.slice Ao13 t329.length co13) : Value).ownBlock) (.slice Ao12 t326.length co12) t326) ∧ Aside0 (Kd.R (Kd.int .i64) 3 w' w.heap.size (fun k_ => some k_ ≠ ((.slice Ao10 t323.length co10) : Value).ownBlock ∧ some k_ ≠ ((.slice Ao12 t326.length co12) : Value).ownBlock) (.slice Ao13 t329.length co13) t329) ∧ Aside0 (w'.heap[gb333]? = some (.cells #[(.slice Ao10 t323.length co10), (.slice Ao12 t326.length co12), (.slice Ao13 t329.length co13)] 31 (0, 0))) ∧ Aside0 (Below w.heap.size w w'))
  case atStart => exact ⟨(0), (by first | rfl | (simp; done) | (simp [*]; done)), H', ⟨Nat.le_refl _⟩, ⟨by (with_reducible repeat (first | apply Kd.R_alloc | apply Kd.R_drewN | apply Kd.R_drew)); exact Kd.R_mono (Kd.R_far (p := ⟨gb333, 2, none⟩) (Kd.R_far (p := ⟨gb333, 1, none⟩) (Kd.R_far (p := ⟨gb333, 0, none⟩) (Kd.R_types HO322.out BK333.out (by decide)) fk (.slice Ao10 t323.length co10)) fk (.slice Ao12 t326.length co12)) fk (.slice Ao13 t329.length co13)) (fun _ hk => trivial)⟩, ⟨by (with_reducible repeat (first | apply Kd.R_alloc | apply Kd.R_drewN | apply Kd.R_drew)); exact Kd.R_mono (Kd.R_far (p := ⟨gb333, 2, none⟩) (Kd.R_far (p := ⟨gb333, 1, none⟩) (Kd.R_far (p := ⟨gb333, 0, none⟩) (Kd.R_types HO325.out BK333.out (by decide)) fk (.slice Ao10 t323.length co10)) fk (.slice Ao12 t326.length co12)) fk (.slice Ao13 t329.length co13)) (fun _ hk => (And.intro (hk.1.1) (hk.1.2)))⟩, ⟨by (with_reducible repeat (first | apply Kd.R_alloc | apply Kd.R_drewN | apply Kd.R_drew)); exact Kd.R_mono (Kd.R_far (p := ⟨gb333, 2, none⟩) (Kd.R_far (p := ⟨gb333, 1, none⟩) (Kd.R_far (p := ⟨gb333, 0, none⟩) (Kd.R_types HO328.out BK333.out (by decide)) fk (.slice Ao10 t323.length co10)) fk (.slice Ao12 t326.length co12)) fk (.slice Ao13 t329.length co13)) (fun _ hk => (And.intro (hk.1.1) (hk.1.2)))⟩, ⟨by (with_reducible repeat (first | apply Kd.R_alloc | apply Kd.R_drewN | apply Kd.R_drew)); exact Kd.R_mono (Kd.R_far (p := ⟨gb333, 2, none⟩) (Kd.R_far (p := ⟨gb333, 1, none⟩) (Kd.R_far (p := ⟨gb333, 0, none⟩) (Kd.R_types HO331.out BK333.out (by decide)) fk (.slice Ao10 t323.length co10)) fk (.slice Ao12 t326.length co12)) fk (.slice Ao13 t329.length co13)) (fun _ hk => (And.intro (hk.1.1) (hk.1.2)))⟩, ⟨by (with_reducible repeat (first | refine blk_drewN ?_ _ | refine blk_drew ?_ | refine blk_alloc ?_ _)); refine blk_put (cs := #[.slice Ao10 t323.length co10, .slice Ao12 t326.length co12, .slice none 0 0]) ?_ 2 _ rfl; (with_reducible repeat (first | refine blk_drewN ?_ _ | refine blk_drew ?_ | refine blk_alloc ?_ _)); refine blk_put (cs := #[.slice Ao10 t323.length co10, .slice none 0 0, .slice none 0 0]) ?_ 1 _ rfl; (with_reducible repeat (first | refine blk_drewN ?_ _ | refine blk_drew ?_ | refine blk_alloc ?_ _)); refine blk_put (cs := #[.slice none 0 0, .slice none 0 0, .slice none 0 0]) ?_ 0 _ rfl; exact bk⟩, ⟨bb⟩⟩
  case round =>
   clear H'
   try clear c1
   try clear p2
   try clear c3
   try clear c4
   try clear c11
   try clear hcz11_0
   try clear hcz11_1
   try clear hcz11_2
   try clear hfz11_0
   try clear hfz11_1
   try clear hfz11_2
   obtain ⟨x6_1, rfl, HA, HK1, HO_3, HO_334000, HO_334001, HO_334002, BK333, HB⟩ := hrel
   cases gk with
   | zero => exact absurd HA.out (by simp [laws_FnNobody.l0])
   | succ k1 =>
    have H := HA.out
    clear HA
    simp only [laws_FnNobody.l0] at H
    by_cases c14 : x6_1 < 256
    ·rw [if_pos c14] at H
     have c14b0 : decide (x6_1 < 256) = true := decide_eq_true c14
     clear c14
     replace H := Option.bind_eq_some_iff.mp H
     obtain ⟨⟨t334, t335, t336⟩, A150, H⟩ := H
     replace H : ((impl_DownToId.f k1 t320 t323 t326 t329 x6_1).bind fun t337 => (if (t336 != (decide ((t337.length : Int) > 0))) = true then (some false) else (laws_FnNobody.l0 k1 t320 t332 (wrap64 ((wrap64 (x6_1 + 1)) + (Int.tmod x6_1 3))) t323 t326 t329))) = some r := H
     have A15 := Aside0.mk A150
     clear A150
     replace H := Option.bind_eq_some_iff.mp H
     obtain ⟨t337, A160, H⟩ := H
     replace H : (if (t336 != (decide ((t337.length : Int) > 0))) = true then (some false) else (laws_FnNobody.l0 k1 t320 t332 (wrap64 ((wrap64 (x6_1 + 1)) + (Int.tmod x6_1 3))) t323 t326 t329)) = some r := H
     have A16 := Aside0.mk A160
     clear A160
     by_cases c17 : (t336 != (decide ((t337.length : Int) > 0))) = true
     ·rw [if_pos c17] at H
      exfalso; with_reducible first | exact laws_FnNobody.no_ H hrT_
     ·rw [if_neg c17] at H
      obtain rfl : t336 = (decide ((t337.length : Int) > 0)) := by simpa using c17
      clear c17
      have H' := Aside0.mk H
      clear H
      obtain ⟨hcz23_0, hcz23_1, hcz23_2, hfz23_0, hfz23_1, hfz23_2⟩ := bx3 BK333.out
      go_wp2_with (first | ((with_reducible refine gate_callee (f := 46) rfl ?_); refine goesL_ (some 30) rfl rfl Try.func46 (by kernel_rfl) rfl #[.slice Ao7 t320.length co7, .agg #[.slice Ao10 t323.length co10, .slice Ao12 t326.length co12, .slice Ao13 t329.length co13], .int .i64 x6_1] rfl ms ?_; (with_reducible refine (impl_OwnerOfId.calls k1 _ _ t320 _ _ t323 _ _ t326 _ _ t329 x6_1 t334 t335 ((decide ((t337.length : Int) > 0))) _ ?side1 ?side2 ?side3 ?side4 ?side5 ?side6 ?side7 ?side8 A15.out).mono ?_); (case side1 => repeat (first | exact (Kd.R_reads' HO_3.out).2.2 | (with_reducible refine Kd.C_alloc ?_ _) | (with_reducible refine Kd.C_drewN ?_ _) | (with_reducible refine Kd.C_drew ?_))); (case side2 => exact (Kd.R_reads' HO_3.out).2.1); (case side3 => repeat (first | exact (Kd.R_reads' HO_334000.out).2.2 | (with_reducible refine Kd.C_alloc ?_ _) | (with_reducible refine Kd.C_drewN ?_ _) | (with_reducible refine Kd.C_drew ?_))); (case side4 => exact (Kd.R_reads' HO_334000.out).2.1); (case side5 => repeat (first | exact (Kd.R_reads' HO_334001.out).2.2 | (with_reducible refine Kd.C_alloc ?_ _) | (with_reducible refine Kd.C_drewN ?_ _) | (with_reducible refine Kd.C_drew ?_))); (case side6 => exact (Kd.R_reads' HO_334001.out).2.1); (case side7 => repeat (first | exact (Kd.R_reads' HO_334002.out).2.2 | (with_reducible refine Kd.C_alloc ?_ _) | (with_reducible refine Kd.C_drewN ?_ _) | (with_reducible refine Kd.C_drew ?_))); (case side8 => exact (Kd.R_reads' HO_334002.out).2.1); rintro e w24 ⟨rfl, hb⟩; refine ⟨_, rfl, ?_⟩; have t_ := fc6 (Kd.R_below (ra HO_3.out) hb) (Kd.R_below (ra HO_334000.out) hb) (Kd.R_below (ra HO_334001.out) hb) (Kd.R_below (ra HO_334002.out) hb) (bw BK333 hb) (below_step bb hb); clear HO_3 HO_334000 HO_334001 HO_334002 BK333 HB; obtain ⟨HO_3, HO_334000, HO_334001, HO_334002, BK333, HB⟩ := t_; (try clear hb); (try clear hb2); (try clear hk); (try clear hi); obtain ⟨hcz25_0, hcz25_1, hcz25_2, hfz25_0, hfz25_1, hfz25_2⟩ := bx3 BK333.out) | ((with_reducible refine gate_callee (f := 23) rfl ?_); refine goesL_ (some 38) rfl rfl Try.func23 (by kernel_rfl) rfl #[.slice Ao7 t320.length co7, .agg #[.slice Ao10 t323.length co10, .slice Ao12 t326.length co12, .slice Ao13 t329.length co13], .int .i64 x6_1] rfl ms ?_; (with_reducible refine (impl_DownToId.calls k1 _ _ t320 _ _ t323 _ _ t326 _ _ t329 x6_1 t337 _ ?side1 ?side2 ?side3 ?side4 ?side5 ?side6 ?side7 ?side8 A16.out).mono ?_); (case side1 => repeat (first | exact (Kd.R_reads' HO_3.out).2.2 | (with_reducible refine Kd.C_alloc ?_ _) | (with_reducible refine Kd.C_drewN ?_ _) | (with_reducible refine Kd.C_drew ?_))); (case side2 => exact (Kd.R_reads' HO_3.out).2.1); (case side3 => repeat (first | exact (Kd.R_reads' HO_334000.out).2.2 | (with_reducible refine Kd.C_alloc ?_ _) | (with_reducible refine Kd.C_drewN ?_ _) | (with_reducible refine Kd.C_drew ?_))); (case side4 => exact (Kd.R_reads' HO_334000.out).2.1); (case side5 => repeat (first | exact (Kd.R_reads' HO_334001.out).2.2 | (with_reducible refine Kd.C_alloc ?_ _) | (with_reducible refine Kd.C_drewN ?_ _) | (with_reducible refine Kd.C_drew ?_))); (case side6 => exact (Kd.R_reads' HO_334001.out).2.1); (case side7 => repeat (first | exact (Kd.R_reads' HO_334002.out).2.2 | (with_reducible refine Kd.C_alloc ?_ _) | (with_reducible refine Kd.C_drewN ?_ _) | (with_reducible refine Kd.C_drew ?_))); (case side8 => exact (Kd.R_reads' HO_334002.out).2.1); rintro e w26 ⟨v338, rfl, ho0, hb⟩; refine ⟨_, rfl, ?_⟩; have t_ := fc7 (Kd.R_below (ra HO_3.out) hb) (Kd.R_elder' (ra HO_334000.out) (Kd.R_base ho0) hb) (Kd.R_elder' (ra HO_334001.out) (Kd.R_base ho0) hb) (Kd.R_elder' (ra HO_334002.out) (Kd.R_base ho0) hb) (Kd.R_lower (Kd.R_new' (Kd.R_new' (Kd.R_new' ho0 (Kd.R_lt (ra HO_334000.out))) (Kd.R_lt (ra HO_334001.out))) (Kd.R_lt (ra HO_334002.out))) (below_size bb)) (bw BK333 hb) (below_step bb hb); clear HO_3 HO_334000 HO_334001 HO_334002 BK333 HB; obtain ⟨HO_3, HO_334000, HO_334001, HO_334002, HO339, BK333, HB⟩ := t_; (try clear hb); (try clear hb2); (try clear hk); (try clear hi); (try clear ho0); obtain ⟨Ao27, co27, eo27⟩ := Kd.R_slice HO339.out; subst eo27))
      go_roundg k1
      case measure => have := HK1.out; omega
      case rel => exact ⟨(wrap64 ((wrap64 (x6_1 + 1)) + (Int.tmod x6_1 3))), (by first | rfl | (simp; done) | (simp [*]; done)), H', ⟨by have := HK1.out; omega⟩, ⟨by (with_reducible repeat (first | apply Kd.R_alloc | apply Kd.R_drewN | apply Kd.R_drew)); exact HO_3.out⟩, ⟨by (with_reducible repeat (first | apply Kd.R_alloc | apply Kd.R_drewN | apply Kd.R_drew)); exact Kd.R_mono HO_334000.out (fun _ hk => (And.intro (hk.1.1) (hk.1.2)))⟩, ⟨by (with_reducible repeat (first | apply Kd.R_alloc | apply Kd.R_drewN | apply Kd.R_drew)); exact Kd.R_mono HO_334001.out (fun _ hk => (And.intro (hk.1.1) (hk.1.2)))⟩, ⟨by (with_reducible repeat (first | apply Kd.R_alloc | apply Kd.R_drewN | apply Kd.R_drew)); exact Kd.R_mono HO_334002.out (fun _ hk => (And.intro (hk.1.1) (hk.1.2)))⟩, ⟨by exact bk⟩, ⟨bb⟩⟩
    ·rw [if_neg c14] at H
     have c14b0 : decide (x6_1 < 256) = false := decide_eq_false c14
     clear c14
     obtain rfl := Option.some.inj H
     go_wp2
     go_ret
     exact ⟨er, bb⟩

/-- THE ONE PURE STATEMENT of laws_FnNobody: yours. -/
def laws_FnNobody.Pure : Prop := ∀ (l0 : List Int), l0.length ≤ maxLen → l0.length * 1 ≤ 140737488351232 → (∀ x ∈ l0, (Lit.int .u8 x).wf = true) → ∃ k, laws_FnNobody.f k l0 = some true
theorem laws_FnNobody.walk (P : laws_FnNobody.Pure) (a0 : Option Addr) (len0 cap0 : Nat) (z0 : List Int) (w : World) (w0 : (a0 = none ∧ len0 = 0 ∧ cap0 = 0 ∧ z0 = []) ∨ ∃ x, a0 = some x ∧ len0 ≤ cap0 ∧ cap0 ≤ maxLen ∧ z0.length = cap0 ∧ (∀ i, i < z0.length → w.cell? (x.add i) = some (.int .u8 (z0.getD i 0))) ∧ ∀ n ∈ z0, (Lit.int .u8 n).wf = true) (y0 : len0 * 1 ≤ 140737488351232) :
  Calls Try.prog 11 #[.slice a0 len0 cap0] w fun e w' => e = .returned (.bool true) ∧ Below w.heap.size w w' := by
 obtain ⟨l0, rfl, hr0, hm0, hw0, hc0⟩ := ReadsInt.ofRowC w0
 obtain ⟨k, h⟩ := P l0 hm0 y0 hw0
 refine (laws_FnNobody.calls k _ _ l0 true w (Kd.C_of_reads (d := (0 : Int)) (h1 := fun _ => rfl) hr0) hc0 h).mono ?_
 rintro e w' ⟨rfl, hd⟩
 exact ⟨rfl, hd⟩

end Go.Proofs.Ytbbppknnkghkjaa.PFnNobody
