/- Printed: each Go function as a Lean function, with the proof that Go comes to just its answer (squeezed) -/
import Derived.Test.YtbbppknnkghkjaaPFnExactAllocatex0
import Derived.Test.YtbbppknnkghkjaaSteps
import Derived.Test.YtbbppknnkghkjaaPFnExactAllocatex7
import Derived.Test.YtbbppknnkghkjaaPFnExactAllocatex8
namespace Go.Proofs.Ytbbppknnkghkjaa.PFnExactAllocate
open Go.RowKit Go.Proofs.YtbbppknnkghkjaaW.PrintWords Go.Proofs.YtbbppknnkghkjaaW.PrintLast Go.Proofs.YtbbppknnkghkjaaW.PrintMore Go.Proofs.Ytbbppknnkghkjaa.Kit Go.Proofs.Ytbbppknnkghkjaa.Steps Go.Proofs.Ytbbppknnkghkjaa.Kit2 Go.Proofs.Ytbbppknnkghkjaa.Kit3
open Go.Proofs.YtbbppknnkghkjaaW.PrintWords.Kd (R_below R_mono R_far R_types R_elder' R_base R_lower R_new' R_newB R_lt R_after R_slice R_drew R_drewN R_alloc R_reads' R_bound R_append R_ne R_step C_below C_alloc C_drew C_drewN)
attribute [local go_sem] max2_int min2_int max_two min_two max_three min_three max_four min_four   -- for this text's walks alone
set_option linter.unusedVariables false
set_option linter.unusedSimpArgs false

/-! ### impl_windowSize: function 105 -/
mutual
def impl_windowSize.l0 : Nat → List (S50) → List Int → Int → List Int → Int → Int → Option (Int)
 | 0, _, _, _, _, _, _ => none
 | k + 1, x0, x1, x7, x21, x22, x23 => if x23 < x22 then (if 0 ≤ x23 then (if x23 < (x21.length : Int) then ((impl_windowSize.f k x0 x1 (rd x21 x23)).bind fun t234 => (impl_windowSize.l0 k x0 x1 (wrap64 (x7 + t234)) x21 x22 (wrap64 (x23 + 1)))) else (none)) else (none)) else (if x7 = 0 then (some 0) else (impl_windowSize.l1 k x7 1))
def impl_windowSize.l1 : Nat → Int → Int → Option (Int)
 | 0, _, _ => none
 | k + 1, x7, x10 => if x10 < x7 then (impl_windowSize.l1 k x7 (wrap64 (x10 * 2))) else (some x10)
def impl_windowSize.f : Nat → List (S50) → List Int → Int → Option (Int)
 | 0, _, _, _ => none
 | k + 1, l0, l1, a2 => (impl_isBridge.f l0 a2).bind fun t228 => (if t228 = true then ((impl_ChildrenOf.f k l0 a2).bind fun t230 => (impl_windowSize.l0 k l0 l1 0 t230 (t230.length : Int) 0)) else (if 0 ≤ a2 then (if a2 < (l1.length : Int) then (some (rd l1 a2)) else (none)) else (none)))
end
set_option maxHeartbeats 8000000 in
set_option maxRecDepth 100000 in
theorem impl_windowSize.calls (k : Nat) : ∀ (A0 : Option Addr) (c0 : Nat) (l0 : List (S50)) (A1 : Option Addr) (c1 : Nat) (l1 : List Int) (a2 : Int) (r : Int) (w : World) (hr0 : Kd.C k50 w A0 l0.length l0) (hc0 : l0.length ≤ c0) (hr1 : Kd.C (Kd.int .i64) w A1 l1.length l1) (hc1 : l1.length ≤ c1) (h : impl_windowSize.f k l0 l1 a2 = some r),
  Calls Try.prog 105 #[.slice A0 l0.length c0, .slice A1 l1.length c1, .int .i64 a2] w fun e w' => e = .returned (.int .i64 r) ∧ Below w.heap.size w w' := by
 induction k using Nat.strongRecOn with
 | _ k ih =>
 intro A0 c0 l0 A1 c1 l1 a2 r w hr0 hc0 hr1 hc1 h
 cases k with
 | zero => exact absurd h (by simp [impl_windowSize.f])
 | succ k =>
 simp only [impl_windowSize.f] at h; have HR0 := Aside0.mk hr0; have HC0 := Aside0.mk hc0; clear hr0 hc0; have HR1 := Aside0.mk hr1; have HC1 := Aside0.mk hc1; clear hr1 hc1; have HB := Aside0.mk (Below.refl w.heap.size w); have H : ((impl_isBridge.f l0 a2).bind fun t228 => (if t228 = true then ((impl_ChildrenOf.f k l0 a2).bind fun t230 => (impl_windowSize.l0 k l0 l1 0 t230 (t230.length : Int) 0)) else (if 0 ≤ a2 then (if a2 < (l1.length : Int) then (some (rd l1 a2)) else (none)) else (none)))) = some r := h; clear h; replace H := Option.bind_eq_some_iff.mp H; obtain ⟨t228, A40, H⟩ := H; replace H : (if t228 = true then ((impl_ChildrenOf.f k l0 a2).bind fun t230 => (impl_windowSize.l0 k l0 l1 0 t230 (t230.length : Int) 0)) else (if 0 ≤ a2 then (if a2 < (l1.length : Int) then (some (rd l1 a2)) else (none)) else (none))) = some r := H; have A4 := Aside0.mk A40; clear A40
 by_cases c5 : t228 = true
 ·subst c5
  (have H1 : ((impl_ChildrenOf.f k l0 a2).bind fun t230 => (impl_windowSize.l0 k l0 l1 0 t230 (t230.length : Int) 0)) = some r := by rw [if_pos rfl] at H; exact H); clear H; have H := H1; clear H1; replace H := Option.bind_eq_some_iff.mp H; obtain ⟨t230, A60, H⟩ := H; replace H : (impl_windowSize.l0 k l0 l1 0 t230 (t230.length : Int) 0) = some r := H; have A6 := Aside0.mk A60; clear A60; have H' := Aside0.mk H; clear H; go_enter Try.func105, Try.ntmps105; go_wp2_with (first | ((with_reducible refine gate_callee (f := 81) rfl ?_); refine goesL_ (some 13) rfl rfl Try.func81 (by kernel_rfl) rfl #[.slice A0 l0.length c0, .int .i64 a2] rfl ms ?_; (with_reducible refine (impl_isBridge.calls _ _ l0 a2 true _ ?side1 ?side2 A4.out).mono ?_); (case side1 => repeat (first | exact HR0.out | (with_reducible refine C_alloc ?_ _) | (with_reducible refine C_drewN ?_ _) | (with_reducible refine C_drew ?_))); (case side2 => exact HC0.out); rintro e w' ⟨rfl, ⟨nd, rfl⟩⟩; refine ⟨_, rfl, ?_⟩) | ((with_reducible refine gate_callee (f := 39) rfl ?_); refine goesL_ (some 21) rfl rfl Try.func39 (by kernel_rfl) rfl #[.slice A0 l0.length c0, .int .i64 a2] rfl ms ?_; (with_reducible refine (impl_ChildrenOf.calls k _ _ l0 a2 t230 _ ?side1 ?side2 A6.out).mono ?_); (case side1 => repeat (first | exact HR0.out | (with_reducible refine C_alloc ?_ _) | (with_reducible refine C_drewN ?_ _) | (with_reducible refine C_drew ?_))); (case side2 => exact HC0.out); rintro e w7 ⟨v231, rfl, ho0, hb⟩; refine ⟨_, rfl, ?_⟩; have t_ := fc2 (R_lower ho0 (below_size bb)) (below_step bb hb); clear HB; obtain ⟨HO232, HB⟩ := t_; (try clear hb); (try clear ho0); obtain ⟨Ao8, co8, eo8⟩ := R_slice HO232.out; subst eo8))
  go_loopg [7, 23] k (fun kq v7 v23 w' => ∃ (x7_1 : Int) (x23_1 : Int), v7 = .int .i64 x7_1 ∧ v23 = .int .i64 x23_1 ∧ Aside0 (impl_windowSize.l0 kq l0 l1 x7_1 t230 (t230.length : Int) x23_1 = some r) ∧ Aside0 (kq ≤ k) ∧ Aside0 (Kd.R (Kd.int .i64) 3 w' w.heap.size (fun _ => True) (.slice Ao8 t230.length co8) t230) ∧ Aside0 (Below w.heap.size w w'))
  case atStart => exact ⟨(0), (0), sd_, sd_, H', ⟨Nat.le_refl _⟩, ⟨(ra HO232.out)⟩, ⟨bb⟩⟩
  case round =>
   clear H'; (try clear c1); (try clear p2); (try clear c3); (try clear c5); (try clear c8); obtain ⟨x7_1, x23_1, rfl, rfl, HA, HK1, HO_21, HB⟩ := hrel
   cases gk with
   | zero => exact absurd HA.out (by simp [impl_windowSize.l0])
   | succ k1 =>
    have H := HA.out; clear HA; simp only [impl_windowSize.l0] at H
    by_cases c9 : x23_1 < (t230.length : Int)
    ·rw [if_pos c9] at H
     have c9b0 : decide (x23_1 < (t230.length : Int)) = true := decide_eq_true c9; clear c9
     by_cases c10 : 0 ≤ x23_1
     ·rw [if_pos c10] at H
      have c10b0 : decide (0 ≤ x23_1) = true := decide_eq_true c10; clear c10
      by_cases c11 : x23_1 < (t230.length : Int)
      ·rw [if_pos c11] at H
       have c11b0 : decide (x23_1 < (t230.length : Int)) = true := decide_eq_true c11; clear c11; replace H := Option.bind_eq_some_iff.mp H; obtain ⟨t234, A120, H⟩ := H; replace H : (impl_windowSize.l0 k1 l0 l1 (wrap64 (x7_1 + t234)) t230 (t230.length : Int) (wrap64 (x23_1 + 1))) = some r := H; have A12 := Aside0.mk A120; clear A120; have H' := Aside0.mk H; clear H; have p233 : 0 ≤ (x23_1 : Int) := of_decide_eq_true as_; have q233 : x23_1 < (t230.length : Int) := of_decide_eq_true as_; obtain ⟨ad233, e233, hx233_0⟩ := Kd.at_int (R_reads' HO_21.out).2.2 x23_1 p233 q233; cases e233; replace p233 := eq_true p233; replace q233 := eq_true q233; go_wp2_with (first | ((with_reducible refine gate_callee (f := 105) rfl ?_); refine goesL_ (some 31) rfl rfl Try.func105 (by kernel_rfl) rfl #[.slice A0 l0.length c0, .slice A1 l1.length c1, .int .i64 (rd t230 x23_1)] rfl ms ?_; (with_reducible refine (ih k1 (by have := HK1.out; omega) _ _ l0 _ _ l1 (rd t230 x23_1) t234 _ ?side1 ?side2 ?side3 ?side4 A12.out).mono ?_); (case side1 => exact kc); (case side2 => exact HC0.out); (case side3 => exact kc); (case side4 => exact HC1.out); rintro e w13 ⟨rfl, hb⟩; refine ⟨_, rfl, ?_⟩; have t_ := fc2 (R_below (ra HO_21.out) hb) (below_step bb hb); clear HO_21 HB; obtain ⟨HO_21, HB⟩ := t_; (try clear hb)))
       go_roundg k1
       case measure => have := HK1.out; omega
       case rel => exact ⟨(wrap64 (x7_1 + t234)), (wrap64 (x23_1 + 1)), sd_, sd_, H', ⟨by have := HK1.out; omega⟩, ⟨(ra HO_21.out)⟩, ⟨bb⟩⟩
      ·rw [if_neg c11] at H
       exact absurd H (by simp)
     ·rw [if_neg c10] at H
      exact absurd H (by simp)
    ·rw [if_neg c9] at H
     have c9b0 : decide (x23_1 < (t230.length : Int)) = false := decide_eq_false c9; clear c9
     by_cases c14 : x7_1 = 0
     ·rw [if_pos c14] at H
      have c14b0 : (x7_1 == 0) = true := beq_iff_eq.mpr c14; have c14b1 : (x7_1 != 0) = false := bne_eq_false_iff_eq.mpr c14; clear c14; obtain rfl := Option.some.inj H; go_wp2; go_ret; exact ⟨er, bb⟩
     ·rw [if_neg c14] at H
      have c14b0 : (x7_1 == 0) = false := beq_eq_false_iff_ne.mpr c14; have c14b1 : (x7_1 != 0) = true := bne_iff_ne.mpr c14; have H' := Aside0.mk H; clear H; go_wp2
      go_loopg [10] k1 (fun kq v10 w' => ∃ (x10_2 : Int), v10 = .int .i64 x10_2 ∧ Aside0 (impl_windowSize.l1 kq x7_1 x10_2 = some r) ∧ Aside0 (kq ≤ k1) ∧ Aside0 (Below w.heap.size w w'))
      case atStart => exact ⟨(1), sd_, H', ⟨Nat.le_refl _⟩, ⟨bb⟩⟩
      case round =>
       clear H'; (try clear c1); (try clear p2); (try clear q2); (try clear hx2); (try clear c3); (try clear c5); (try clear p6); (try clear c8); (try clear c9); (try clear c9b0); (try clear c10); (try clear c10b0); (try clear c11); (try clear c11b0); (try clear c14); (try clear c14b0); (try clear c14b1); (try clear hx233_0); (try clear p2); (try clear p233); (try clear q233); obtain ⟨x10_2, rfl, HA, HK2, HB⟩ := hrel
       cases gk with
       | zero => exact absurd HA.out (by simp [impl_windowSize.l1])
       | succ k2 =>
        have H := HA.out; clear HA; simp only [impl_windowSize.l1] at H
        by_cases c15 : x10_2 < x7_1
        ·rw [if_pos c15] at H
         have c15b0 : decide (x10_2 < x7_1) = true := decide_eq_true c15; clear c15; have H' := Aside0.mk H; clear H; go_wp2
         go_roundg k2
         case measure => have := HK1.out; have := HK2.out; omega
         case rel => exact ⟨(wrap64 (x10_2 * 2)), sd_, H', ⟨by have := HK1.out; have := HK2.out; omega⟩, ⟨bb⟩⟩
        ·rw [if_neg c15] at H
         have c15b0 : decide (x10_2 < x7_1) = false := decide_eq_false c15; clear c15; obtain rfl := Option.some.inj H; go_wp2; go_ret; exact ⟨er, bb⟩
 ·replace c5 := Bool.eq_false_iff.mpr c5
  subst c5; (have H1 : (if 0 ≤ a2 then (if a2 < (l1.length : Int) then (some (rd l1 a2)) else (none)) else (none)) = some r := by rw [if_neg (show ¬ (false = true) by decide)] at H; exact H); clear H; have H := H1; clear H1
  by_cases c16 : 0 ≤ a2
  ·rw [if_pos c16] at H
   have c16b0 : decide (0 ≤ a2) = true := decide_eq_true c16; clear c16
   by_cases c17 : a2 < (l1.length : Int)
   ·rw [if_pos c17] at H
    have c17b0 : decide (a2 < (l1.length : Int)) = true := decide_eq_true c17; clear c17; obtain rfl := Option.some.inj H; go_enter Try.func105, Try.ntmps105; go_wp2_with (first | ((with_reducible refine gate_callee (f := 81) rfl ?_); refine goesL_ (some 13) rfl rfl Try.func81 (by kernel_rfl) rfl #[.slice A0 l0.length c0, .int .i64 a2] rfl ms ?_; (with_reducible refine (impl_isBridge.calls _ _ l0 a2 false _ ?side1 ?side2 A4.out).mono ?_); (case side1 => repeat (first | exact HR0.out | (with_reducible refine C_alloc ?_ _) | (with_reducible refine C_drewN ?_ _) | (with_reducible refine C_drew ?_))); (case side2 => exact HC0.out); rintro e w' ⟨rfl, ⟨nd, rfl⟩⟩; refine ⟨_, rfl, ?_⟩; have p229 : 0 ≤ (a2 : Int) := of_decide_eq_true as_; have q229 : a2 < (l1.length : Int) := of_decide_eq_true as_; obtain ⟨ad229, e229, hx229_0⟩ := Kd.at_int HR1.out a2 p229 q229; cases e229; replace p229 := eq_true p229; replace q229 := eq_true q229)); go_ret; exact ⟨er, bb⟩
   ·rw [if_neg c17] at H
    exact absurd H (by simp)
  ·rw [if_neg c16] at H
   exact absurd H (by simp)

/-! ### cmp_Or_int: function 132 -/
def cmp_Or_int.l0 : Nat → Int → List Int → Int → Int → Option (Int)
 | 0, _, _, _, _ => none
 | k + 1, x3, x6, x7, x8 => if x8 < x7 then (if 0 ≤ x8 then (if x8 < (x6.length : Int) then (if (rd x6 x8) = x3 then (cmp_Or_int.l0 k x3 x6 x7 (wrap64 (x8 + 1))) else (some (rd x6 x8))) else (none)) else (none)) else (some x3)
def cmp_Or_int.f (k : Nat) (l0 : List Int) : Option (Int) := cmp_Or_int.l0 k 0 l0 (l0.length : Int) 0
set_option maxHeartbeats 8000000 in
set_option maxRecDepth 100000 in
theorem cmp_Or_int.calls (k : Nat) (A0 : Option Addr) (c0 : Nat) (l0 : List Int) (r : Int) (w : World) (hr0 : Kd.C (Kd.int .i64) w A0 l0.length l0) (hc0 : l0.length ≤ c0) (h : cmp_Or_int.f k l0 = some r) :
  Calls Try.prog 132 #[.slice A0 l0.length c0] w fun e w' => e = .returned (.int .i64 r) ∧ Drawn0 w w' := by
 have HR0 := Aside0.mk hr0; have HC0 := Aside0.mk hc0; clear hr0 hc0; have H : (cmp_Or_int.l0 k 0 l0 (l0.length : Int) 0) = some r := h; clear h; have H' := Aside0.mk H; clear H; go_enter Try.func132, Try.ntmps132; go_wp2
 go_loopg [8] k (fun kq v8 w' => ∃ (x8_1 : Int), v8 = .int .i64 x8_1 ∧ Aside0 (cmp_Or_int.l0 kq 0 l0 (l0.length : Int) x8_1 = some r) ∧ Aside0 (kq ≤ k) ∧ Drawn0 w w')
 case atStart => exact ⟨(0), sd_, H', ⟨Nat.le_refl _⟩, by repeat (first | exact Drawn0.refl _ | apply Drawn0.step)⟩
 case round =>
  clear H'; (try clear c1); obtain ⟨x8_1, rfl, HA, HK1, ⟨m1, rfl⟩⟩ := hrel
  cases gk with
  | zero => exact absurd HA.out (by simp [cmp_Or_int.l0])
  | succ k1 =>
   have H := HA.out; clear HA; simp only [cmp_Or_int.l0] at H
   by_cases c2 : x8_1 < (l0.length : Int)
   ·rw [if_pos c2] at H
    have c2b0 : decide (x8_1 < (l0.length : Int)) = true := decide_eq_true c2; clear c2
    by_cases c3 : 0 ≤ x8_1
    ·rw [if_pos c3] at H
     have c3b0 : decide (0 ≤ x8_1) = true := decide_eq_true c3; clear c3
     by_cases c4 : x8_1 < (l0.length : Int)
     ·rw [if_pos c4] at H
      have c4b0 : decide (x8_1 < (l0.length : Int)) = true := decide_eq_true c4; clear c4
      by_cases c5 : (rd l0 x8_1) = 0
      ·rw [if_pos c5] at H
       have c5b0 : ((rd l0 x8_1) == 0) = true := beq_iff_eq.mpr c5; have c5b1 : ((rd l0 x8_1) != 0) = false := bne_eq_false_iff_eq.mpr c5; clear c5; have H' := Aside0.mk H; clear H; have p235 : 0 ≤ (x8_1 : Int) := of_decide_eq_true as_; have q235 : x8_1 < (l0.length : Int) := of_decide_eq_true as_; obtain ⟨ad235, e235, hx235_0⟩ := Kd.at_int HR0.out x8_1 p235 q235; cases e235; replace p235 := eq_true p235; replace q235 := eq_true q235; go_wp2
       go_roundg k1
       case measure => have := HK1.out; omega
       case rel => exact ⟨(wrap64 (x8_1 + 1)), sd_, H', ⟨by have := HK1.out; omega⟩, by repeat (first | exact Drawn0.refl _ | apply Drawn0.step)⟩
      ·rw [if_neg c5] at H
       have c5b0 : ((rd l0 x8_1) == 0) = false := beq_eq_false_iff_ne.mpr c5; have c5b1 : ((rd l0 x8_1) != 0) = true := bne_iff_ne.mpr c5; obtain rfl := Option.some.inj H; have p235 : 0 ≤ (x8_1 : Int) := of_decide_eq_true as_; have q235 : x8_1 < (l0.length : Int) := of_decide_eq_true as_; obtain ⟨ad235, e235, hx235_0⟩ := Kd.at_int HR0.out x8_1 p235 q235; cases e235; replace p235 := eq_true p235; replace q235 := eq_true q235; go_wp2; go_ret; exact ⟨sd_, ds_⟩
     ·rw [if_neg c4] at H
      exact absurd H (by simp)
    ·rw [if_neg c3] at H
     exact absurd H (by simp)
   ·rw [if_neg c2] at H
    have c2b0 : decide (x8_1 < (l0.length : Int)) = false := decide_eq_false c2; clear c2; obtain rfl := Option.some.inj H; go_wp2; go_ret; exact ⟨sd_, ds_⟩

/-! ### impl_allocate_1: function 131 -/
def impl_allocate_1.f (k : Nat) (a0 : Int) (a1 : Int) (l2_0 : List (S73)) : Option (Int) := if 0 ≤ a1 then (if a1 < (l2_0.length : Int) then (if 0 ≤ a0 then (if a0 < (l2_0.length : Int) then ((cmp_Compare_int.f ((rd_T73 l2_0 a1).f0) ((rd_T73 l2_0 a0).f0)).bind fun t238 => ((cmp_Compare_int.f a0 a1).bind fun t239 => ((cmp_Or_int.f k (([t238, t239] : List Int))).bind fun t243 => (some t243)))) else (none)) else (none)) else (none)) else (none)
def impl_allocate_1.T1 : Bool × List (List Nat × List Nat) := (true, [([], []), ([], []), ([0, 1], [0, 1]), ([2], [2]), ([3], [3]), ([], []), ([], []), ([5, 6], [5, 6]), ([7], [7]), ([8], [8]), ([4, 9], [4, 9]), ([], []), ([], []), ([11, 12, 10], [11, 12]), ([10, 13], [10, 13]), ([14, 13], [14]), ([15, 15, 0, 1, 2, 3, 4, 5, 6, 7, 8, 9, 10, 11, 12, 13, 14, 15], [15])])
def impl_allocate_1.B1 : List Nat := [0, 0, 3, 7, 15, 0, 0, 96, 224, 480, 1023, 0, 0, 8191, 16383, 32767, 65535]
theorem impl_allocate_1.tab1 : rtab .any (opsOf Try.f131 1) = impl_allocate_1.T1 := by kernel_rfl
theorem impl_allocate_1.bits1 : waitsOk impl_allocate_1.T1.2 impl_allocate_1.B1 = true := by kernel_rfl
set_option maxHeartbeats 8000000 in
set_option maxRecDepth 100000 in
theorem impl_allocate_1.calls (k : Nat) (a0 : Int) (a1 : Int) (gc2 : Nat) (A2_0 : Option Addr) (c2_0 : Nat) (l2_0 : List (S73)) (r : Int) (w : World) (hr2_0 : Kd.C k73 w A2_0 l2_0.length l2_0) (hc2_0 : l2_0.length ≤ c2_0) (hbx2 : w.heap[gc2]? = some (.cells #[.slice A2_0 l2_0.length c2_0] 67 (0, 0))) (h : impl_allocate_1.f k a0 a1 l2_0 = some r) :
  Calls Try.prog 131 #[.int .i64 a0, .int .i64 a1, .pointer (some ⟨gc2, 0, none⟩)] w fun e w' => e = .returned (.int .i64 r) ∧ Below w.heap.size w w' := by
 have HR2_0 := Aside0.mk hr2_0; have HC2_0 := Aside0.mk hc2_0; clear hr2_0 hc2_0; have BK2 := Aside0.mk hbx2; clear hbx2; have HB := Aside0.mk (Below.refl w.heap.size w); have H : (if 0 ≤ a1 then (if a1 < (l2_0.length : Int) then (if 0 ≤ a0 then (if a0 < (l2_0.length : Int) then ((cmp_Compare_int.f ((rd_T73 l2_0 a1).f0) ((rd_T73 l2_0 a0).f0)).bind fun t238 => ((cmp_Compare_int.f a0 a1).bind fun t239 => ((cmp_Or_int.f k (([t238, t239] : List Int))).bind fun t243 => (some t243)))) else (none)) else (none)) else (none)) else (none)) = some r := h; clear h
 by_cases c4 : 0 ≤ a1
 ·rw [if_pos c4] at H
  have c4b0 : decide (0 ≤ a1) = true := decide_eq_true c4; clear c4
  by_cases c5 : a1 < (l2_0.length : Int)
  ·rw [if_pos c5] at H
   have c5b0 : decide (a1 < (l2_0.length : Int)) = true := decide_eq_true c5; clear c5
   by_cases c6 : 0 ≤ a0
   ·rw [if_pos c6] at H
    have c6b0 : decide (0 ≤ a0) = true := decide_eq_true c6; clear c6
    by_cases c7 : a0 < (l2_0.length : Int)
    ·rw [if_pos c7] at H
     have c7b0 : decide (a0 < (l2_0.length : Int)) = true := decide_eq_true c7; clear c7; replace H := Option.bind_eq_some_iff.mp H; obtain ⟨t238, A80, H⟩ := H; replace H : ((cmp_Compare_int.f a0 a1).bind fun t239 => ((cmp_Or_int.f k (([t238, t239] : List Int))).bind fun t243 => (some t243))) = some r := H; have A8 := Aside0.mk A80; clear A80; replace H := Option.bind_eq_some_iff.mp H; obtain ⟨t239, A90, H⟩ := H; replace H : ((cmp_Or_int.f k (([t238, t239] : List Int))).bind fun t243 => (some t243)) = some r := H; have A9 := Aside0.mk A90; clear A90
     obtain ⟨y240, hy240⟩ : ∃ y_ : List Int, y_ = (([t238, t239] : List Int)) := ⟨_, rfl⟩
     (replace H : ((cmp_Or_int.f k y240).bind fun t243 => (some t243)) = some r := by first | (rw [hy240]; with_reducible exact H) | (have H2_ := bs_ H; rw [hy240]; with_reducible exact H2_) | (have H2_ := bs_ H; with_reducible exact H2_) | with_reducible exact H | (rw [hy240]; exact H) | exact H); have Ny240 := Aside0.mk hy240; clear hy240; replace H := Option.bind_eq_some_iff.mp H; obtain ⟨t243, A100, H⟩ := H; replace H : (some t243) = some r := H; have A10 := Aside0.mk A100; clear A100; obtain rfl := Option.some.inj H; go_enter Try.func131, Try.ntmps131; (try go_wp2); have t_ := fc2 (blk_drew BK2.out) (below_drew1 HB.out); clear BK2 HB; obtain ⟨BK2, HB⟩ := t_; have p236 : 0 ≤ (a1 : Int) := of_decide_eq_true as_; have q236 : a1 < (l2_0.length : Int) := of_decide_eq_true as_; obtain ⟨ad236, e236, hx236_0, hx236_1⟩ := at_T73 HR2_0.out a1 p236 q236; have hw236_1 := hx236_1; have hw236_0 := hx236_0; cases e236; replace hx236_0 := pw_cell_below HB.out hx236_0; replace hx236_1 := pw_cell_below HB.out hx236_1; replace p236 := eq_true p236; replace q236 := eq_true q236; have p237 : 0 ≤ (a0 : Int) := of_decide_eq_true as_; have q237 : a0 < (l2_0.length : Int) := of_decide_eq_true as_; obtain ⟨ad237, e237, hx237_0, hx237_1⟩ := at_T73 HR2_0.out a0 p237 q237; have hw237_1 := hx237_1; have hw237_0 := hx237_0
     obtain rfl : ad236 = ad237 := (by injection e237)
     replace hx237_0 := pw_cell_below HB.out hx237_0; replace hx237_1 := pw_cell_below HB.out hx237_1; replace p237 := eq_true p237; replace q237 := eq_true q237; refine start_ (n := 17) (S := fun w' => w'.cell? ⟨gc2, 0, none⟩ = some (.slice (some ad236) l2_0.length c2_0) ∧ w'.cell? (ad236.add ((a1).toNat * 2)) = some (.int .i64 ((rd_T73 l2_0 a1).f0)) ∧ w'.cell? ⟨(ad236.add ((a1).toNat * 2)).block, (ad236.add ((a1).toNat * 2)).off + 1, none⟩ = some (.int .i64 ((rd_T73 l2_0 a1).f1)) ∧ w'.cell? (ad236.add ((a0).toNat * 2)) = some (.int .i64 ((rd_T73 l2_0 a0).f0)) ∧ w'.cell? ⟨(ad236.add ((a0).toNat * 2)).block, (ad236.add ((a0).toNat * 2)).off + 1, none⟩ = some (.int .i64 ((rd_T73 l2_0 a0).f1))) (ds := []) (bz 17 0) (by kernel_rfl) rfl (by kernel_rfl) ⟨(blk_cell BK2.out 0).trans rfl, ((HB.out.cell (World.block_lt_of_cell? w _ hw236_0)).trans hw236_0), ((HB.out.cell (World.block_lt_of_cell? w _ hw236_1)).trans hw236_1), ((HB.out.cell (World.block_lt_of_cell? w _ hw237_0)).trans hw237_0), ((HB.out.cell (World.block_lt_of_cell? w _ hw237_1)).trans hw237_1)⟩ (fun hHeld => ?_); refine with_tabW impl_allocate_1.tab1 impl_allocate_1.bits1 (fun HT_ HW_ => ?_); generalize w.drew = w11 at BK2 HB hx236_0 hx236_1 hx237_0 hx237_1 hHeld ⊢; refine pv 1 7 (bz 17 2) HT_ (h := ?_); refine pv 6 12 (bz 17 66) HT_ (h := ?_); refine pv 11 17 (bz 17 2114) HT_ (h := ?_); refine pv 12 18 (bz 17 6210) HT_ (h := ?_); refine tv5 0 6 (bz 17 6211) HT_ HW_ hHeld (h := ?_); refine pv 2 8 (bz 17 6215) HT_ (h := ?_); refine pv 3 9 (bz 17 6223) HT_ (h := ?_); refine tv5 4 10 (bz 17 6239) HT_ HW_ hHeld (h := ?_); refine tv5 5 11 (bz 17 6271) HT_ HW_ hHeld (h := ?_); refine pv 7 13 (bz 17 6399) HT_ (h := ?_); refine pv 8 14 (bz 17 6655) HT_ (h := ?_); refine tv5 9 15 (bz 17 7167) HT_ HW_ hHeld (h := ?_); refine one_ (i := 10) (N := some 16) (bz 17 8191) rfl rfl (one_of HT_.out (by kernel_rfl)) (by decide) (fun K hK => ?_); refine goes_ Try.func93 (by kernel_rfl) rfl #[.int .i64 ((rd_T73 l2_0 a1).f0), .int .i64 ((rd_T73 l2_0 a0).f0)] (by rfl) rfl rfl ms ?_; (with_reducible refine (cmp_Compare_int.calls ((rd_T73 l2_0 a1).f0) ((rd_T73 l2_0 a0).f0) t238 _ A8.out).mono ?_); rintro e w' ⟨rfl, ⟨nd, rfl⟩⟩; refine ⟨_, rfl, ?_⟩; refine hK.out _ _ ⟨(blk_cell BK2.out 0).trans rfl, ((HB.out.cell (World.block_lt_of_cell? w _ hw236_0)).trans hw236_0), ((HB.out.cell (World.block_lt_of_cell? w _ hw236_1)).trans hw236_1), ((HB.out.cell (World.block_lt_of_cell? w _ hw237_0)).trans hw237_0), ((HB.out.cell (World.block_lt_of_cell? w _ hw237_1)).trans hw237_1)⟩ (fun hHeld => ?_); clear hK K; refine norm_ (a' := ?_) ?_ ?_; rotate_left
     ·show Act.put _ (some 16) _ = _
      simp only [Act.put, List.setIfInBounds_toArray, List.set_cons_zero, List.set_cons_succ, i64_w, i32_w]; rfl
     refine one_ (i := 13) (N := some 19) (bz 17 16383) rfl rfl (one_of HT_.out (by kernel_rfl)) (by decide) (fun K hK => ?_); refine goes_ Try.func93 (by kernel_rfl) rfl #[.int .i64 a0, .int .i64 a1] (by rfl) rfl rfl ms ?_; (with_reducible refine (cmp_Compare_int.calls a0 a1 t239 _ A9.out).mono ?_); rintro e w' ⟨rfl, ⟨nd, rfl⟩⟩; refine ⟨_, rfl, ?_⟩; refine hK.out _ _ ⟨(blk_cell BK2.out 0).trans rfl, ((HB.out.cell (World.block_lt_of_cell? w _ hw236_0)).trans hw236_0), ((HB.out.cell (World.block_lt_of_cell? w _ hw236_1)).trans hw236_1), ((HB.out.cell (World.block_lt_of_cell? w _ hw237_0)).trans hw237_0), ((HB.out.cell (World.block_lt_of_cell? w _ hw237_1)).trans hw237_1)⟩ (fun hHeld => ?_); clear hK K; refine norm_ (a' := ?_) ?_ ?_; rotate_left
     ·show Act.put _ (some 19) _ = _
      simp only [Act.put, List.setIfInBounds_toArray, List.set_cons_zero, List.set_cons_succ, i64_w, i32_w]; rfl
     refine one_ (i := 14) (N := some 20) (bz 17 32767) rfl rfl (one_of HT_.out (by kernel_rfl)) (by decide) (fun K hK => ?_); refine Kd.R_lit_step (Kd.int .i64) _ 3 ?hg (N := 20) ?hd (xs := ([t238, t239] : List Int)) (inner := [.int .i64 t238, .int .i64 t239]) (ok := fun _ => True) (okp := fun _ => True) ?hr ?hp (fun _ hk => hk) trivial (Below.refl _ _) (Nat.le_refl _) (by simp) ?_; (case hd => rfl); (case hg => rfl); (case hr => exact hr_); (case hp => exact (Reps.one (show Kd.M (Kd.int .i64) _ _ _ t238 [.int .i64 t238] from rfl) (Reps.one (show Kd.M (Kd.int .i64) _ _ _ t239 [.int .i64 t239] from rfl) (Reps.none _ _)))); intro v241 w12 ho13 hb hg_ hnew_; clear hg_ hnew_; (first | rw [← Ny240.out] at ho13 | (simp only [Int.reduceToNat] at ho13; rw [← Ny240.out] at ho13)); have t_ := fc3 (R_lower ho13 (below_size bb)) (bw BK2 hb) (below_step bb hb); clear BK2 HB; obtain ⟨HO242, BK2, HB⟩ := t_; clear hb ho13; obtain ⟨Ao14, co14, eo14⟩ := R_slice HO242.out; (first | subst eo14 | (injection eo14 with f1_ f2_ f3_; have f4_ := f1_.symm; have f5_ := f3_.symm; clear f1_ f2_ f3_; subst f4_; subst f5_)); refine hK.out _ _ ⟨(blk_cell BK2.out 0).trans rfl, ((HB.out.cell (World.block_lt_of_cell? w _ hw236_0)).trans hw236_0), ((HB.out.cell (World.block_lt_of_cell? w _ hw236_1)).trans hw236_1), ((HB.out.cell (World.block_lt_of_cell? w _ hw237_0)).trans hw237_0), ((HB.out.cell (World.block_lt_of_cell? w _ hw237_1)).trans hw237_1)⟩ (fun hHeld => ?_); clear hK K; refine norm_ (a' := ?_) ?_ ?_; rotate_left
     ·show Act.put _ (some 20) _ = _
      simp only [Act.put, List.setIfInBounds_toArray, List.set_cons_zero, List.set_cons_succ, i64_w, i32_w]; rfl
     refine one_ (i := 15) (N := some 21) (bz 17 65535) rfl rfl (one_of HT_.out (by kernel_rfl)) (by decide) (fun K hK => ?_); refine goes_ Try.func132 (by kernel_rfl) rfl #[.slice Ao14 y240.length co14] (by rfl) rfl rfl ms ?_; (with_reducible refine (cmp_Or_int.calls k _ _ y240 t243 _ ?side1 ?side2 A10.out).mono ?_)
     (case side1 => exact rc HO242)
     (case side2 => exact (R_reads' HO242.out).2.1)
     rintro e w' ⟨rfl, ⟨nd, rfl⟩⟩; refine ⟨_, rfl, ?_⟩; refine hK.out _ _ ⟨(blk_cell BK2.out 0).trans rfl, ((HB.out.cell (World.block_lt_of_cell? w _ hw236_0)).trans hw236_0), ((HB.out.cell (World.block_lt_of_cell? w _ hw236_1)).trans hw236_1), ((HB.out.cell (World.block_lt_of_cell? w _ hw237_0)).trans hw237_0), ((HB.out.cell (World.block_lt_of_cell? w _ hw237_1)).trans hw237_1)⟩ (fun hHeld => ?_); clear hK K; refine norm_ (a' := ?_) ?_ ?_; rotate_left
     ·show Act.put _ (some 21) _ = _
      simp only [Act.put, List.setIfInBounds_toArray, List.set_cons_zero, List.set_cons_succ, i64_w, i32_w]; rfl
     refine pv 16 5 (bz 17 131071) HT_ (h := ?_); refine done_ (done_of HT_.out (by kernel_rfl)) ?_; (try go_wp2); go_ret; exact ⟨er, bb⟩
    ·rw [if_neg c7] at H
     exact absurd H (by simp)
   ·rw [if_neg c6] at H
    exact absurd H (by simp)
  ·rw [if_neg c5] at H
   exact absurd H (by simp)
 ·rw [if_neg c4] at H
  exact absurd H (by simp)

/-! ### slices_SortFunc_int_int_impl_allocate_1: function 91, handed function 131 -/
def slices_SortFunc_int_int_impl_allocate_1.sz (lo : List S73) (x : Int) : Int := (rd_T73 lo x).f0
def slices_SortFunc_int_int_impl_allocate_1.cf (lo : List S73) (x y : Int) : Int := if slices_SortFunc_int_int_impl_allocate_1.sz lo y < slices_SortFunc_int_int_impl_allocate_1.sz lo x then -1 else if slices_SortFunc_int_int_impl_allocate_1.sz lo y > slices_SortFunc_int_int_impl_allocate_1.sz lo x then 1 else if x < y then -1 else if x > y then 1 else 0
def slices_SortFunc_int_int_impl_allocate_1.le (lo : List S73) (x y : Int) : Bool := decide (¬ slices_SortFunc_int_int_impl_allocate_1.cf lo y x < 0)
def slices_SortFunc_int_int_impl_allocate_1.f (l0 : List Int) (lo : List S73) : Option (List Int) := if (decide (l0.length ≤ 12) && l0.all (fun x => decide (0 ≤ x ∧ x < (lo.length : Int)))) = true then some (l0.mergeSort (slices_SortFunc_int_int_impl_allocate_1.le lo)) else none
theorem slices_SortFunc_int_int_impl_allocate_1.cmp_ (a b : Int) : cmp_Compare_int.f a b = some (if a < b then -1 else if a > b then 1 else 0) := by
 unfold cmp_Compare_int.f cmp_isNaN_int.f
 simp only [bne_self_eq_false, Option.bind_some, Bool.false_eq_true, if_false]
 by_cases h1 : a < b
 ·simp [h1]
 ·by_cases h2 : a > b
  ·simp [h1, h2]
  ·simp [h1, h2]
theorem slices_SortFunc_int_int_impl_allocate_1.or_ (a b : Int) : cmp_Or_int.f 20 [a, b] = some (if a = 0 then b else a) := by
 unfold cmp_Or_int.f
 simp only [cmp_Or_int.l0, List.length_cons, List.length_nil]
 by_cases h1 : a = 0
 ·by_cases h2 : b = 0
  ·subst h1 h2; simp [rd, wrap64]
  ·subst h1; simp [rd, wrap64, h2]
 ·simp [rd, wrap64, h1]
theorem slices_SortFunc_int_int_impl_allocate_1.calls (P0_ : Nat → Prop) (u9000_ : Value) (l0 : List Int) (gt : Nat) (At : Option Addr) (ct : Nat) (lt : List S73) (r : List Int) (w0 w : World) (hB : Below w0.heap.size w0 w) (ho0 : Kd.R (Kd.int .i64) 3 w w0.heap.size P0_ u9000_ l0)
  (hrt : ∀ W_, Kept w W_ (fun k_ => P0_ k_) → Kd.C k73 W_ At lt.length lt) (hct : lt.length ≤ ct) (hbt : w.heap[gt]? = some (.cells #[.slice At lt.length ct] 67 (0, 0))) (hnb : ¬ P0_ gt) (h : slices_SortFunc_int_int_impl_allocate_1.f l0 lt = some r) :
  Calls Try.prog 91 #[u9000_, .func (.func 131) #[] #[.pointer (some ⟨gt, 0, none⟩)]] w fun e w' => e = .returned (.tuple #[]) ∧ Kd.R (Kd.int .i64) 3 w' w0.heap.size (fun k_ => (P0_ k_ ∨ w.heap.size ≤ k_)) u9000_ r ∧ Below w0.heap.size w0 w' ∧ Kept w w' (fun k_ => P0_ k_) := by
 unfold slices_SortFunc_int_int_impl_allocate_1.f at h
 split at h
 next hs =>
  injection h with h; subst h; simp only [Bool.and_eq_true, decide_eq_true_eq, List.all_eq_true] at hs; obtain ⟨h12, hin⟩ := hs
  have hcf : ∀ x y, (0 ≤ x ∧ x < (lt.length : Int)) → (0 ≤ y ∧ y < (lt.length : Int)) → impl_allocate_1.f 20 x y lt = some (slices_SortFunc_int_int_impl_allocate_1.cf lt x y) := by
   intro x y hx hy
   unfold impl_allocate_1.f
   rw [if_pos hy.1, if_pos hy.2, if_pos hx.1, if_pos hx.2, slices_SortFunc_int_int_impl_allocate_1.cmp_, Option.bind_some, slices_SortFunc_int_int_impl_allocate_1.cmp_, Option.bind_some, slices_SortFunc_int_int_impl_allocate_1.or_, Option.bind_some]
   unfold slices_SortFunc_int_int_impl_allocate_1.cf slices_SortFunc_int_int_impl_allocate_1.sz
   generalize (rd_T73 lt x).f0 = a; generalize (rd_T73 lt y).f0 = b
   congr 1
   by_cases h1 : b < a
   ·simp [h1]
   ·by_cases h2 : b > a
    ·simp [h1, h2]
    ·simp [h1, h2]
  have asym : ∀ x y, slices_SortFunc_int_int_impl_allocate_1.cf lt x y < 0 → ¬ slices_SortFunc_int_int_impl_allocate_1.cf lt y x < 0 := by
   intro x y; unfold slices_SortFunc_int_int_impl_allocate_1.cf; intro h1; split at h1 <;> (split <;> (try split at h1) <;> (try split) <;> omega)
  have trans : ∀ x y z, ¬ slices_SortFunc_int_int_impl_allocate_1.cf lt y x < 0 → ¬ slices_SortFunc_int_int_impl_allocate_1.cf lt z y < 0 → ¬ slices_SortFunc_int_int_impl_allocate_1.cf lt z x < 0 := by
   have key : ∀ x y, (slices_SortFunc_int_int_impl_allocate_1.cf lt x y < 0 ↔ (slices_SortFunc_int_int_impl_allocate_1.sz lt y < slices_SortFunc_int_int_impl_allocate_1.sz lt x ∨ (slices_SortFunc_int_int_impl_allocate_1.sz lt y = slices_SortFunc_int_int_impl_allocate_1.sz lt x ∧ x < y))) := by
    intro x y; unfold slices_SortFunc_int_int_impl_allocate_1.cf; split
    ·omega
    ·split
     ·omega
     ·split
      ·omega
      ·split <;> omega
   intro x y z; rw [key, key, key]; omega
  have anti : ∀ x y, ¬ slices_SortFunc_int_int_impl_allocate_1.cf lt x y < 0 → ¬ slices_SortFunc_int_int_impl_allocate_1.cf lt y x < 0 → x = y := by
   have key : ∀ x y, (slices_SortFunc_int_int_impl_allocate_1.cf lt x y < 0 ↔ (slices_SortFunc_int_int_impl_allocate_1.sz lt y < slices_SortFunc_int_int_impl_allocate_1.sz lt x ∨ (slices_SortFunc_int_int_impl_allocate_1.sz lt y = slices_SortFunc_int_int_impl_allocate_1.sz lt x ∧ x < y))) := by
    intro x y; unfold slices_SortFunc_int_int_impl_allocate_1.cf; split
    ·omega
    ·split
     ·omega
     ·split
      ·omega
      ·split <;> omega
   intro x y; rw [key, key]; omega
  have hc := Fns.sort_lay (fun x => 0 ≤ x ∧ x < (lt.length : Int)) (slices_SortFunc_int_int_impl_allocate_1.cf lt) asym trans 131 #[.pointer (some ⟨gt, 0, none⟩)] P0_ u9000_ l0 w0 w hB ho0 h12 (fun x hx => hin x hx) (enters_of Try.func131 (by kernel_rfl) rfl)
   (fun W hW x y hx hy => by
    refine (impl_allocate_1.calls 20 x y gt At ct lt _ W (hrt W hW) hct (blk_kept hbt hW hnb) (hcf x y hx hy)).mono ?_; rintro e w' ⟨rfl, hb⟩; exact ⟨rfl, hb⟩)
  refine hc.mono ?_; rintro e w' ⟨rfl, l', hp, hsd, hR, hBl, hK⟩
  have hm : l' = l0.mergeSort (slices_SortFunc_int_int_impl_allocate_1.le lt) := by
   refine Fns.uniq_le (slices_SortFunc_int_int_impl_allocate_1.cf lt) anti _ _ (hp.trans (List.mergeSort_perm l0 _).symm) hsd ?_
   have hpw := List.pairwise_mergeSort (le := slices_SortFunc_int_int_impl_allocate_1.le lt) (fun a b c h1 h2 => by
    unfold slices_SortFunc_int_int_impl_allocate_1.le at h1 h2 ⊢; rw [decide_eq_true_eq] at h1 h2 ⊢; exact trans a b c h1 h2) (fun a b => by
    unfold slices_SortFunc_int_int_impl_allocate_1.le
    by_cases h1 : slices_SortFunc_int_int_impl_allocate_1.cf lt b a < 0
    ·have := asym _ _ h1; simp [this]
    ·simp [h1]) l0
   rw [List.pairwise_iff_getElem] at hpw; intro i j hij hj; have := hpw i j (by omega) hj hij
   unfold Fns.le_
   unfold slices_SortFunc_int_int_impl_allocate_1.le at this
   rw [decide_eq_true_eq] at this; rw [List.getD_eq_getElem?_getD, List.getD_eq_getElem?_getD, List.getElem?_eq_getElem hj, List.getElem?_eq_getElem (show i < _ by omega)]; exact this
  rw [hm] at hR; exact ⟨rfl, R_mono hR (fun k hk => .inl hk), hBl, hK⟩
 next => cases h

end Go.Proofs.Ytbbppknnkghkjaa.PFnExactAllocate
