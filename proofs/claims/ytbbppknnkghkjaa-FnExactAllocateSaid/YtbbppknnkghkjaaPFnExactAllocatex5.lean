/- Printed: each Go function as a Lean function, with the proof that Go comes to just its answer (squeezed) -/
import Derived.Test.YtbbppknnkghkjaaPFnExactAllocatex0
import Derived.Test.YtbbppknnkghkjaaPFnExactAllocatex3
import Derived.Test.YtbbppknnkghkjaaPFnExactAllocatex4
namespace Go.Proofs.Ytbbppknnkghkjaa.PFnExactAllocate
open Go.RowKit Go.Proofs.YtbbppknnkghkjaaW.PrintWords Go.Proofs.YtbbppknnkghkjaaW.PrintLast Go.Proofs.YtbbppknnkghkjaaW.PrintMore Go.Proofs.Ytbbppknnkghkjaa.Kit Go.Proofs.Ytbbppknnkghkjaa.Kit2 Go.Proofs.Ytbbppknnkghkjaa.Kit3
open Go.Proofs.YtbbppknnkghkjaaW.PrintWords.Kd (R_below R_mono R_far R_types R_elder' R_base R_lower R_new' R_newB R_lt R_after R_slice R_drew R_drewN R_alloc R_reads' R_bound R_append R_ne R_step C_below C_alloc C_drew C_drewN)
attribute [local go_sem] max2_int min2_int max_two min_two max_three min_three max_four min_four   -- for this text's walks alone
set_option linter.unusedVariables false
set_option linter.unusedSimpArgs false

/-! ### spec_SizesOk: function 102 -/
mutual
def spec_SizesOk.j0 : Nat → List (S50) → List Int → Bool → Option (Bool)
 | 0, _, _, _ => none
 | k + 1, x0, x1, x15 => if x15 = true then (some false) else (spec_SizesOk.l0 k x0 x1 0)
def spec_SizesOk.l0 : Nat → List (S50) → List Int → Int → Option (Bool)
 | 0, _, _, _ => none
 | k + 1, x0, x1, x5 => if x5 < (x0.length : Int) then (if 0 ≤ x5 then (if x5 < (x1.length : Int) then (if (rd x1 x5) = 0 then (spec_SizesOk.l0 k x0 x1 (wrap64 (x5 + 1))) else (if ((rd_T50 x0 x5).f2) = 0 then (some false) else ((spec_IsPower.f k (rd x1 x5)).bind fun t142 => (if t142 = true then ((spec_l01In.f (rd x1 x5) 16 4096).bind fun t144 => (if t144 = true then (spec_SizesOk.l0 k x0 x1 (wrap64 (x5 + 1))) else (some false))) else (some false))))) else (none)) else (none)) else (some true)
end
def spec_SizesOk.f (k : Nat) (l0 : List (S50)) (l1 : List Int) : Option (Bool) := (spec_TreeOk.f k l0).bind fun t138 => (if t138 = true then (spec_SizesOk.j0 k l0 l1 ((l1.length : Int) != (l0.length : Int))) else (spec_SizesOk.j0 k l0 l1 true))
set_option maxHeartbeats 8000000 in
set_option maxRecDepth 100000 in
theorem spec_SizesOk.calls (k : Nat) (A0 : Option Addr) (c0 : Nat) (l0 : List (S50)) (A1 : Option Addr) (c1 : Nat) (l1 : List Int) (r : Bool) (w : World) (hr0 : Kd.C k50 w A0 l0.length l0) (hc0 : l0.length ≤ c0) (hr1 : Kd.C (Kd.int .i64) w A1 l1.length l1) (hc1 : l1.length ≤ c1) (h : spec_SizesOk.f k l0 l1 = some r) :
  Calls Try.prog 102 #[.slice A0 l0.length c0, .slice A1 l1.length c1] w fun e w' => e = .returned (.bool r) ∧ Below w.heap.size w w' := by
 have HR0 := Aside0.mk hr0; have HC0 := Aside0.mk hc0; clear hr0 hc0; have HR1 := Aside0.mk hr1; have HC1 := Aside0.mk hc1; clear hr1 hc1; have HB := Aside0.mk (Below.refl w.heap.size w); have H : ((spec_TreeOk.f k l0).bind fun t138 => (if t138 = true then (spec_SizesOk.j0 k l0 l1 ((l1.length : Int) != (l0.length : Int))) else (spec_SizesOk.j0 k l0 l1 true))) = some r := h; clear h; have HC3 := Aside0.mk H; clear H; go_enter Try.func102, Try.ntmps102
 go_upto_region 1 with (fail)
 go_cut [15] (fun v15 wc => ∃ (kq : Nat) (x15_2 : Bool), v15 = .bool x15_2 ∧ Aside0 (spec_SizesOk.j0 kq l0 l1 x15_2 = some r) ∧ Aside0 (kq ≤ k) ∧ Aside0 (Below w.heap.size w wc))
 case first =>
  have H := HC3.out; clear HC3; replace H := Option.bind_eq_some_iff.mp H; obtain ⟨t138, A40, H⟩ := H; replace H : (if t138 = true then (spec_SizesOk.j0 k l0 l1 ((l1.length : Int) != (l0.length : Int))) else (spec_SizesOk.j0 k l0 l1 true)) = some r := H; have A4 := Aside0.mk A40; clear A40
  by_cases c5 : t138 = true
  ·subst c5
   (have H1 : (spec_SizesOk.j0 k l0 l1 ((l1.length : Int) != (l0.length : Int))) = some r := by rw [if_pos rfl] at H; exact H); clear H; have H := H1; clear H1; have H' := Aside0.mk H; clear H; go_wp2_with (first | ((with_reducible refine gate_callee (f := 106) rfl ?_); refine goesL_ (some 7) rfl rfl Try.func106 (by kernel_rfl) rfl #[.slice A0 l0.length c0] rfl ms ?_; (with_reducible refine (spec_TreeOk.calls k _ _ l0 true _ ?side1 ?side2 A4.out).mono ?_); (case side1 => exact kc); (case side2 => exact HC0.out); rintro e w6 ⟨rfl, hb⟩; refine ⟨_, rfl, ?_⟩; replace HB := Aside0.mk (below_step bb hb); (try clear hb)))
   go_meet
   case rel => exact ⟨_, (((l1.length : Int) != (l0.length : Int))), sd_, H', ⟨by first | omega | exact Nat.le_refl _⟩, ⟨bb⟩⟩
  ·replace c5 := Bool.eq_false_iff.mpr c5
   subst c5; (have H1 : (spec_SizesOk.j0 k l0 l1 true) = some r := by rw [if_neg (show ¬ (false = true) by decide)] at H; exact H); clear H; have H := H1; clear H1; have H' := Aside0.mk H; clear H; go_wp2_with (first | ((with_reducible refine gate_callee (f := 106) rfl ?_); refine goesL_ (some 7) rfl rfl Try.func106 (by kernel_rfl) rfl #[.slice A0 l0.length c0] rfl ms ?_; (with_reducible refine (spec_TreeOk.calls k _ _ l0 false _ ?side1 ?side2 A4.out).mono ?_); (case side1 => exact kc); (case side2 => exact HC0.out); rintro e w7 ⟨rfl, hb⟩; refine ⟨_, rfl, ?_⟩; replace HB := Aside0.mk (below_step bb hb); (try clear hb)))
   go_meet
   case rel => exact ⟨_, (true), sd_, H', ⟨by first | omega | exact Nat.le_refl _⟩, ⟨bb⟩⟩
 case rest =>
  clear HC3; (try clear c1); (try clear p2); (try clear c5); obtain ⟨kq, x15_2, rfl, HA, HJ2, HB⟩ := hcut
  cases kq with
  | zero => exact absurd HA.out (by simp [spec_SizesOk.j0])
  | succ kj2 =>
   have H := HA.out; clear HA; simp only [spec_SizesOk.j0] at H
   by_cases c8 : x15_2 = true
   ·subst c8
    (have H1 : (some false) = some r := by rw [if_pos rfl] at H; exact H); clear H; have H := H1; clear H1; obtain rfl := Option.some.inj H; go_wp2; go_ret; exact ⟨er, bb⟩
   ·replace c8 := Bool.eq_false_iff.mpr c8
    subst c8; (have H1 : (spec_SizesOk.l0 kj2 l0 l1 0) = some r := by rw [if_neg (show ¬ (false = true) by decide)] at H; exact H); clear H; have H := H1; clear H1; have H' := Aside0.mk H; clear H; go_wp2
    go_loopg [5] kj2 (fun kq v5 w' => ∃ (x5_2 : Int), v5 = .int .i64 x5_2 ∧ Aside0 (spec_SizesOk.l0 kq l0 l1 x5_2 = some r) ∧ Aside0 (kq ≤ kj2) ∧ Aside0 (Below w.heap.size w w'))
    case atStart => exact ⟨(0), sd_, H', ⟨Nat.le_refl _⟩, ⟨bb⟩⟩
    case round =>
     clear H'; (try clear c1); (try clear p2); (try clear c5); (try clear c8); (try clear p2); obtain ⟨x5_2, rfl, HA, HK2, HB⟩ := hrel
     cases gk with
     | zero => exact absurd HA.out (by simp [spec_SizesOk.l0])
     | succ k2 =>
      have H := HA.out; clear HA; simp only [spec_SizesOk.l0] at H
      by_cases c9 : x5_2 < (l0.length : Int)
      ·rw [if_pos c9] at H
       have c9b0 : decide (x5_2 < (l0.length : Int)) = true := decide_eq_true c9; clear c9
       by_cases c10 : 0 ≤ x5_2
       ·rw [if_pos c10] at H
        have c10b0 : decide (0 ≤ x5_2) = true := decide_eq_true c10; clear c10
        by_cases c11 : x5_2 < (l1.length : Int)
        ·rw [if_pos c11] at H
         have c11b0 : decide (x5_2 < (l1.length : Int)) = true := decide_eq_true c11; clear c11
         by_cases c12 : (rd l1 x5_2) = 0
         ·rw [if_pos c12] at H
          have c12b0 : ((rd l1 x5_2) == 0) = true := beq_iff_eq.mpr c12; have c12b1 : ((rd l1 x5_2) != 0) = false := bne_eq_false_iff_eq.mpr c12; clear c12; have H' := Aside0.mk H; clear H; have p139 : 0 ≤ (x5_2 : Int) := of_decide_eq_true as_; have q139 : x5_2 < (l1.length : Int) := of_decide_eq_true as_; obtain ⟨ad139, e139, hx139_0⟩ := Kd.at_int HR1.out x5_2 p139 q139; cases e139; replace hx139_0 := pw_cell_below HB.out hx139_0; replace p139 := eq_true p139; replace q139 := eq_true q139; go_wp2
          go_roundg k2
          case measure => have := HJ2.out; have := HK2.out; omega
          case rel => exact ⟨(wrap64 (x5_2 + 1)), sd_, H', ⟨by have := HJ2.out; have := HK2.out; omega⟩, ⟨bb⟩⟩
         ·rw [if_neg c12] at H
          have c12b0 : ((rd l1 x5_2) == 0) = false := beq_eq_false_iff_ne.mpr c12; have c12b1 : ((rd l1 x5_2) != 0) = true := bne_iff_ne.mpr c12
          by_cases c13 : ((rd_T50 l0 x5_2).f2) = 0
          ·rw [if_pos c13] at H
           have c13b0 : (((rd_T50 l0 x5_2).f2) == 0) = true := beq_iff_eq.mpr c13; have c13b1 : (((rd_T50 l0 x5_2).f2) != 0) = false := bne_eq_false_iff_eq.mpr c13; clear c13; obtain rfl := Option.some.inj H; have p139 : 0 ≤ (x5_2 : Int) := of_decide_eq_true as_; have q139 : x5_2 < (l1.length : Int) := of_decide_eq_true as_; obtain ⟨ad139, e139, hx139_0⟩ := Kd.at_int HR1.out x5_2 p139 q139; cases e139; replace hx139_0 := pw_cell_below HB.out hx139_0; replace p139 := eq_true p139; replace q139 := eq_true q139; have p140 : 0 ≤ (x5_2 : Int) := of_decide_eq_true as_; have q140 : x5_2 < (l0.length : Int) := of_decide_eq_true as_; obtain ⟨ad140, e140, hx140_0, hx140_1, hx140_2⟩ := at_T50 HR0.out x5_2 p140 q140; cases e140; replace hx140_0 := pw_cell_below HB.out hx140_0; replace hx140_1 := pw_cell_below HB.out hx140_1; replace hx140_2 := pw_cell_below HB.out hx140_2; replace p140 := eq_true p140; replace q140 := eq_true q140; go_wp2; go_ret; exact ⟨er, bb⟩
          ·rw [if_neg c13] at H
           have c13b0 : (((rd_T50 l0 x5_2).f2) == 0) = false := beq_eq_false_iff_ne.mpr c13; have c13b1 : (((rd_T50 l0 x5_2).f2) != 0) = true := bne_iff_ne.mpr c13; replace H := Option.bind_eq_some_iff.mp H; obtain ⟨t142, A140, H⟩ := H; replace H : (if t142 = true then ((spec_l01In.f (rd l1 x5_2) 16 4096).bind fun t144 => (if t144 = true then (spec_SizesOk.l0 k2 l0 l1 (wrap64 (x5_2 + 1))) else (some false))) else (some false)) = some r := H; have A14 := Aside0.mk A140; clear A140
           by_cases c15 : t142 = true
           ·subst c15
            (have H1 : ((spec_l01In.f (rd l1 x5_2) 16 4096).bind fun t144 => (if t144 = true then (spec_SizesOk.l0 k2 l0 l1 (wrap64 (x5_2 + 1))) else (some false))) = some r := by rw [if_pos rfl] at H; exact H); clear H; have H := H1; clear H1; replace H := Option.bind_eq_some_iff.mp H; obtain ⟨t144, A160, H⟩ := H; replace H : (if t144 = true then (spec_SizesOk.l0 k2 l0 l1 (wrap64 (x5_2 + 1))) else (some false)) = some r := H; have A16 := Aside0.mk A160; clear A160
            by_cases c17 : t144 = true
            ·subst c17
             (have H1 : (spec_SizesOk.l0 k2 l0 l1 (wrap64 (x5_2 + 1))) = some r := by rw [if_pos rfl] at H; exact H); clear H; have H := H1; clear H1; have H' := Aside0.mk H; clear H; have p139 : 0 ≤ (x5_2 : Int) := of_decide_eq_true as_; have q139 : x5_2 < (l1.length : Int) := of_decide_eq_true as_; obtain ⟨ad139, e139, hx139_0⟩ := Kd.at_int HR1.out x5_2 p139 q139; cases e139; replace hx139_0 := pw_cell_below HB.out hx139_0; replace p139 := eq_true p139; replace q139 := eq_true q139; have p140 : 0 ≤ (x5_2 : Int) := of_decide_eq_true as_; have q140 : x5_2 < (l0.length : Int) := of_decide_eq_true as_; obtain ⟨ad140, e140, hx140_0, hx140_1, hx140_2⟩ := at_T50 HR0.out x5_2 p140 q140; cases e140; replace hx140_0 := pw_cell_below HB.out hx140_0; replace hx140_1 := pw_cell_below HB.out hx140_1; replace hx140_2 := pw_cell_below HB.out hx140_2; replace p140 := eq_true p140; replace q140 := eq_true q140; have p141 : 0 ≤ (x5_2 : Int) := of_decide_eq_true as_; have q141 : x5_2 < (l1.length : Int) := of_decide_eq_true as_; obtain ⟨ad141, e141, hx141_0⟩ := Kd.at_int HR1.out x5_2 p141 q141
             obtain rfl : ad139 = ad141 := (by injection e141)
             replace hx141_0 := pw_cell_below HB.out hx141_0; replace p141 := eq_true p141; replace q141 := eq_true q141; go_wp2_with (first | (go_at_call 130; (with_reducible refine (spec_IsPower.calls k2 (rd l1 x5_2) true _ A14.out).mono ?_); rintro e w' ⟨rfl, ⟨nd, rfl⟩⟩; have p143 : 0 ≤ (x5_2 : Int) := of_decide_eq_true as_; have q143 : x5_2 < (l1.length : Int) := of_decide_eq_true as_; obtain ⟨ad143, e143, hx143_0⟩ := Kd.at_int HR1.out x5_2 p143 q143; obtain rfl : ad139 = ad143 := (by injection e143); replace hx143_0 := pw_cell_below HB.out hx143_0; replace p143 := eq_true p143; replace q143 := eq_true q143) | (go_at_call 103; (with_reducible refine (spec_l01In.calls (rd l1 x5_2) 16 4096 true _ A16.out).mono ?_); rintro e w' ⟨rfl, ⟨nd, rfl⟩⟩))
             go_roundg k2
             case measure => have := HJ2.out; have := HK2.out; omega
             case rel => exact ⟨(wrap64 (x5_2 + 1)), sd_, H', ⟨by have := HJ2.out; have := HK2.out; omega⟩, ⟨bb⟩⟩
            ·replace c17 := Bool.eq_false_iff.mpr c17
             subst c17; (have H1 : (some false) = some r := by rw [if_neg (show ¬ (false = true) by decide)] at H; exact H); clear H; have H := H1; clear H1; obtain rfl := Option.some.inj H; have p139 : 0 ≤ (x5_2 : Int) := of_decide_eq_true as_; have q139 : x5_2 < (l1.length : Int) := of_decide_eq_true as_; obtain ⟨ad139, e139, hx139_0⟩ := Kd.at_int HR1.out x5_2 p139 q139; cases e139; replace hx139_0 := pw_cell_below HB.out hx139_0; replace p139 := eq_true p139; replace q139 := eq_true q139; have p140 : 0 ≤ (x5_2 : Int) := of_decide_eq_true as_; have q140 : x5_2 < (l0.length : Int) := of_decide_eq_true as_; obtain ⟨ad140, e140, hx140_0, hx140_1, hx140_2⟩ := at_T50 HR0.out x5_2 p140 q140; cases e140; replace hx140_0 := pw_cell_below HB.out hx140_0; replace hx140_1 := pw_cell_below HB.out hx140_1; replace hx140_2 := pw_cell_below HB.out hx140_2; replace p140 := eq_true p140; replace q140 := eq_true q140; have p141 : 0 ≤ (x5_2 : Int) := of_decide_eq_true as_; have q141 : x5_2 < (l1.length : Int) := of_decide_eq_true as_; obtain ⟨ad141, e141, hx141_0⟩ := Kd.at_int HR1.out x5_2 p141 q141
             obtain rfl : ad139 = ad141 := (by injection e141)
             replace hx141_0 := pw_cell_below HB.out hx141_0; replace p141 := eq_true p141; replace q141 := eq_true q141; go_wp2_with (first | (go_at_call 130; (with_reducible refine (spec_IsPower.calls k2 (rd l1 x5_2) true _ A14.out).mono ?_); rintro e w' ⟨rfl, ⟨nd, rfl⟩⟩; have p143 : 0 ≤ (x5_2 : Int) := of_decide_eq_true as_; have q143 : x5_2 < (l1.length : Int) := of_decide_eq_true as_; obtain ⟨ad143, e143, hx143_0⟩ := Kd.at_int HR1.out x5_2 p143 q143; obtain rfl : ad139 = ad143 := (by injection e143); replace hx143_0 := pw_cell_below HB.out hx143_0; replace p143 := eq_true p143; replace q143 := eq_true q143) | (go_at_call 103; (with_reducible refine (spec_l01In.calls (rd l1 x5_2) 16 4096 false _ A16.out).mono ?_); rintro e w' ⟨rfl, ⟨nd, rfl⟩⟩)); go_ret; exact ⟨er, bb⟩
           ·replace c15 := Bool.eq_false_iff.mpr c15
            subst c15; (have H1 : (some false) = some r := by rw [if_neg (show ¬ (false = true) by decide)] at H; exact H); clear H; have H := H1; clear H1; obtain rfl := Option.some.inj H; have p139 : 0 ≤ (x5_2 : Int) := of_decide_eq_true as_; have q139 : x5_2 < (l1.length : Int) := of_decide_eq_true as_; obtain ⟨ad139, e139, hx139_0⟩ := Kd.at_int HR1.out x5_2 p139 q139; cases e139; replace hx139_0 := pw_cell_below HB.out hx139_0; replace p139 := eq_true p139; replace q139 := eq_true q139; have p140 : 0 ≤ (x5_2 : Int) := of_decide_eq_true as_; have q140 : x5_2 < (l0.length : Int) := of_decide_eq_true as_; obtain ⟨ad140, e140, hx140_0, hx140_1, hx140_2⟩ := at_T50 HR0.out x5_2 p140 q140; cases e140; replace hx140_0 := pw_cell_below HB.out hx140_0; replace hx140_1 := pw_cell_below HB.out hx140_1; replace hx140_2 := pw_cell_below HB.out hx140_2; replace p140 := eq_true p140; replace q140 := eq_true q140; have p141 : 0 ≤ (x5_2 : Int) := of_decide_eq_true as_; have q141 : x5_2 < (l1.length : Int) := of_decide_eq_true as_; obtain ⟨ad141, e141, hx141_0⟩ := Kd.at_int HR1.out x5_2 p141 q141
            obtain rfl : ad139 = ad141 := (by injection e141)
            replace hx141_0 := pw_cell_below HB.out hx141_0; replace p141 := eq_true p141; replace q141 := eq_true q141; go_wp2_with (first | (go_at_call 130; (with_reducible refine (spec_IsPower.calls k2 (rd l1 x5_2) false _ A14.out).mono ?_); rintro e w' ⟨rfl, ⟨nd, rfl⟩⟩)); go_ret; exact ⟨er, bb⟩
        ·rw [if_neg c11] at H
         exact absurd H (by simp)
       ·rw [if_neg c10] at H
        exact absurd H (by simp)
      ·rw [if_neg c9] at H
       have c9b0 : decide (x5_2 < (l0.length : Int)) = false := decide_eq_false c9; clear c9; obtain rfl := Option.some.inj H; go_wp2; go_ret; exact ⟨er, bb⟩

/-! ### spec_l19Ok: function 97 -/
def spec_l19Ok.f (k : Nat) (l0 : List (S50)) (a1 : Int) : Option (Bool) := (spec_TreeOk.f k l0).bind fun t145 => (if t145 = true then ((spec_l01In.f a1 0 (wrap64 ((l0.length : Int) - 1))).bind fun t146 => (some t146)) else (some false))
set_option maxHeartbeats 8000000 in
set_option maxRecDepth 100000 in
theorem spec_l19Ok.calls (k : Nat) (A0 : Option Addr) (c0 : Nat) (l0 : List (S50)) (a1 : Int) (r : Bool) (w : World) (hr0 : Kd.C k50 w A0 l0.length l0) (hc0 : l0.length ≤ c0) (h : spec_l19Ok.f k l0 a1 = some r) :
  Calls Try.prog 97 #[.slice A0 l0.length c0, .int .i64 a1] w fun e w' => e = .returned (.bool r) ∧ Below w.heap.size w w' := by
 have HR0 := Aside0.mk hr0; have HC0 := Aside0.mk hc0; clear hr0 hc0; have HB := Aside0.mk (Below.refl w.heap.size w); have H : ((spec_TreeOk.f k l0).bind fun t145 => (if t145 = true then ((spec_l01In.f a1 0 (wrap64 ((l0.length : Int) - 1))).bind fun t146 => (some t146)) else (some false))) = some r := h; clear h; replace H := Option.bind_eq_some_iff.mp H; obtain ⟨t145, A30, H⟩ := H; replace H : (if t145 = true then ((spec_l01In.f a1 0 (wrap64 ((l0.length : Int) - 1))).bind fun t146 => (some t146)) else (some false)) = some r := H; have A3 := Aside0.mk A30; clear A30
 by_cases c4 : t145 = true
 ·subst c4
  (have H1 : ((spec_l01In.f a1 0 (wrap64 ((l0.length : Int) - 1))).bind fun t146 => (some t146)) = some r := by rw [if_pos rfl] at H; exact H); clear H; have H := H1; clear H1; replace H := Option.bind_eq_some_iff.mp H; obtain ⟨t146, A50, H⟩ := H; replace H : (some t146) = some r := H; have A5 := Aside0.mk A50; clear A50; obtain rfl := Option.some.inj H; go_enter Try.func97, Try.ntmps97; go_wp2_with (first | ((with_reducible refine gate_callee (f := 106) rfl ?_); refine goesL_ (some 6) rfl rfl Try.func106 (by kernel_rfl) rfl #[.slice A0 l0.length c0] rfl ms ?_; (with_reducible refine (spec_TreeOk.calls k _ _ l0 true _ ?side1 ?side2 A3.out).mono ?_); (case side1 => repeat (first | exact HR0.out | (with_reducible refine C_alloc ?_ _) | (with_reducible refine C_drewN ?_ _) | (with_reducible refine C_drew ?_))); (case side2 => exact HC0.out); rintro e w6 ⟨rfl, hb⟩; refine ⟨_, rfl, ?_⟩; replace HB := Aside0.mk (below_step bb hb); (try clear hb)) | (go_at_call 103; (with_reducible refine (spec_l01In.calls a1 0 (wrap64 ((l0.length : Int) - 1)) t146 _ A5.out).mono ?_); rintro e w' ⟨rfl, ⟨nd, rfl⟩⟩)); go_ret; exact ⟨er, bb⟩
 ·replace c4 := Bool.eq_false_iff.mpr c4
  subst c4; (have H1 : (some false) = some r := by rw [if_neg (show ¬ (false = true) by decide)] at H; exact H); clear H; have H := H1; clear H1; obtain rfl := Option.some.inj H; go_enter Try.func97, Try.ntmps97; go_wp2_with (first | ((with_reducible refine gate_callee (f := 106) rfl ?_); refine goesL_ (some 6) rfl rfl Try.func106 (by kernel_rfl) rfl #[.slice A0 l0.length c0] rfl ms ?_; (with_reducible refine (spec_TreeOk.calls k _ _ l0 false _ ?side1 ?side2 A3.out).mono ?_); (case side1 => repeat (first | exact HR0.out | (with_reducible refine C_alloc ?_ _) | (with_reducible refine C_drewN ?_ _) | (with_reducible refine C_drew ?_))); (case side2 => exact HC0.out); rintro e w7 ⟨rfl, hb⟩; refine ⟨_, rfl, ?_⟩; replace HB := Aside0.mk (below_step bb hb); (try clear hb))); go_ret; exact ⟨er, bb⟩

/-! ### spec_ChildrenOf: function 41 -/
mutual
def spec_ChildrenOf.l0 : Nat → List (S50) → Int → List Int → Int → Option (List Int)
 | 0, _, _, _, _ => none
 | k + 1, x0, x1, x5, x6 => if x6 ≤ 3 then (spec_ChildrenOf.l1 k x0 x1 x5 x6 1) else (some x5)
def spec_ChildrenOf.l1 : Nat → List (S50) → Int → List Int → Int → Int → Option (List Int)
 | 0, _, _, _, _, _ => none
 | k + 1, x0, x1, x5, x6, x7 => if x7 < (x0.length : Int) then (if 0 ≤ x7 then (if ((rd_T50 x0 x7).f0) = x1 then (if ((rd_T50 x0 x7).f1) = x6 then (if x5.length < 17592186044416 then (spec_ChildrenOf.l1 k x0 x1 (x5 ++ [x7]) x6 (wrap64 (x7 + 1))) else (none)) else (spec_ChildrenOf.l1 k x0 x1 x5 x6 (wrap64 (x7 + 1)))) else (spec_ChildrenOf.l1 k x0 x1 x5 x6 (wrap64 (x7 + 1)))) else (none)) else (spec_ChildrenOf.l0 k x0 x1 x5 (wrap64 (x6 + 1)))
end
def spec_ChildrenOf.f (k : Nat) (l0 : List (S50)) (a1 : Int) : Option (List Int) := (some (([] : List Int) : List Int)).bind fun y147 => ((spec_l19Ok.f k l0 a1).bind fun t150 => (if t150 = true then (spec_ChildrenOf.l0 k l0 a1 y147 0) else (some y147)))
set_option maxHeartbeats 8000000 in
set_option maxRecDepth 100000 in
theorem spec_ChildrenOf.calls (k : Nat) (A0 : Option Addr) (c0 : Nat) (l0 : List (S50)) (a1 : Int) (r : List Int) (w : World) (hr0 : Kd.C k50 w A0 l0.length l0) (hc0 : l0.length ≤ c0) (h : spec_ChildrenOf.f k l0 a1 = some r) :
  Calls Try.prog 41 #[.slice A0 l0.length c0, .int .i64 a1] w fun e w' => ∃ v0_ : Value, e = .returned (v0_) ∧ Kd.R (Kd.int .i64) 3 w' w.heap.size (fun _ => True) v0_ r ∧ Below w.heap.size w w' := by
 have HR0 := Aside0.mk hr0; have HC0 := Aside0.mk hc0; clear hr0 hc0; have HB := Aside0.mk (Below.refl w.heap.size w); have H : ((some (([] : List Int) : List Int)).bind fun y147 => ((spec_l19Ok.f k l0 a1).bind fun t150 => (if t150 = true then (spec_ChildrenOf.l0 k l0 a1 y147 0) else (some y147)))) = some r := h; clear h
 obtain ⟨y147, hy147⟩ : ∃ y_ : List Int, y_ = (([] : List Int)) := ⟨_, rfl⟩
 (replace H : ((spec_l19Ok.f k l0 a1).bind fun t150 => (if t150 = true then (spec_ChildrenOf.l0 k l0 a1 y147 0) else (some y147))) = some r := by first | (rw [hy147]; with_reducible exact H) | (have H2_ := bs_ H; rw [hy147]; with_reducible exact H2_) | (have H2_ := bs_ H; with_reducible exact H2_) | with_reducible exact H | (rw [hy147]; exact H) | exact H); have Ny147 := Aside0.mk hy147; clear hy147; replace H := Option.bind_eq_some_iff.mp H; obtain ⟨t150, A30, H⟩ := H; replace H : (if t150 = true then (spec_ChildrenOf.l0 k l0 a1 y147 0) else (some y147)) = some r := H; have A3 := Aside0.mk A30; clear A30
 by_cases c4 : t150 = true
 ·subst c4
  (have H1 : (spec_ChildrenOf.l0 k l0 a1 y147 0) = some r := by rw [if_pos rfl] at H; exact H); clear H; have H := H1; clear H1; have H' := Aside0.mk H; clear H; go_enter Try.func41, Try.ntmps41; go_wp2_with (first | ((with_reducible refine gate_dst (N := 8) rfl ?_); refine Kd.R_lit (Kd.int .i64) _ 3 ?hg (N := 8) ?hd (xs := ([] : List Int)) (inner := []) (ok := fun _ => True) (okp := fun _ => True) ?hr ?hp (fun _ hk => hk) trivial (Below.refl _ _) (Nat.le_refl _) (by simp) ?_; (case hd => rfl); (case hg => rfl); (case hr => exact hr_); (case hp => exact (Reps.none _ _)); intro v148 w5 ho6 hb hg_ hnew_; clear hg_ hnew_; (first | rw [← Ny147.out] at ho6 | (simp only [Int.reduceToNat] at ho6; rw [← Ny147.out] at ho6)); have t_ := fc2 (R_lower ho6 (below_size bb)) (below_step bb hb); clear HB; obtain ⟨HO149, HB⟩ := t_; clear hb ho6) | ((with_reducible refine gate_callee (f := 97) rfl ?_); refine goesL_ (some 11) rfl rfl Try.func97 (by kernel_rfl) rfl #[.slice A0 l0.length c0, .int .i64 a1] rfl ms ?_; (with_reducible refine (spec_l19Ok.calls k _ _ l0 a1 true _ ?side1 ?side2 A3.out).mono ?_); (case side1 => exact kc); (case side2 => exact HC0.out); rintro e w7 ⟨rfl, hb⟩; refine ⟨_, rfl, ?_⟩; have t_ := fc2 (R_below (ra HO149.out) hb) (below_step bb hb); clear HO149 HB; obtain ⟨HO149, HB⟩ := t_; (try clear hb)))
  go_loopg [5, 6] k (fun kq v5 v6 w' => ∃ (x5_1 : List Int) (x6_1 : Int), v6 = .int .i64 x6_1 ∧ Aside0 (spec_ChildrenOf.l0 kq l0 a1 x5_1 x6_1 = some r) ∧ Aside0 (kq ≤ k) ∧ Aside0 (Kd.R (Kd.int .i64) 3 w' w.heap.size (fun _ => True) v5 x5_1) ∧ Aside0 (Below w.heap.size w w'))
  case atStart => exact ⟨(y147), (0), sd_, H', ⟨Nat.le_refl _⟩, ⟨(ra HO149.out)⟩, ⟨bb⟩⟩
  case round =>
   clear H'; (try clear p2); (try clear c4); obtain ⟨x5_1, x6_1, rfl, HA, HK1, HO_5, HB⟩ := hrel
   cases gk with
   | zero => exact absurd HA.out (by simp [spec_ChildrenOf.l0])
   | succ k1 =>
    have H := HA.out; clear HA; simp only [spec_ChildrenOf.l0] at H
    by_cases c8 : x6_1 ≤ 3
    ·rw [if_pos c8] at H
     have c8b0 : decide (x6_1 ≤ 3) = true := decide_eq_true c8; clear c8; have H' := Aside0.mk H; clear H; go_wp2
     go_loopg [5, 7] k1 (fun kq v5 v7 w' => ∃ (x5_2 : List Int) (x7_2 : Int), v7 = .int .i64 x7_2 ∧ Aside0 (spec_ChildrenOf.l1 kq l0 a1 x5_2 x6_1 x7_2 = some r) ∧ Aside0 (kq ≤ k1) ∧ Aside0 (Kd.R (Kd.int .i64) 3 w' w.heap.size (fun _ => True) v5 x5_2) ∧ Aside0 (Below w.heap.size w w'))
     case atStart => exact ⟨(x5_1), (1), sd_, H', ⟨Nat.le_refl _⟩, ⟨(ra HO_5.out)⟩, ⟨bb⟩⟩
     case round =>
      clear H'; (try clear p2); (try clear c4); (try clear c8); (try clear c8b0); (try clear p2); obtain ⟨x5_2, x7_2, rfl, HA, HK2, HO_5, HB⟩ := hrel
      cases gk with
      | zero => exact absurd HA.out (by simp [spec_ChildrenOf.l1])
      | succ k2 =>
       have H := HA.out; clear HA; simp only [spec_ChildrenOf.l1] at H
       by_cases c9 : x7_2 < (l0.length : Int)
       ·rw [if_pos c9] at H
        have c9b0 : decide (x7_2 < (l0.length : Int)) = true := decide_eq_true c9; clear c9
        by_cases c10 : 0 ≤ x7_2
        ·rw [if_pos c10] at H
         have c10b0 : decide (0 ≤ x7_2) = true := decide_eq_true c10; clear c10
         by_cases c11 : ((rd_T50 l0 x7_2).f0) = a1
         ·rw [if_pos c11] at H
          have c11b0 : (((rd_T50 l0 x7_2).f0) == a1) = true := beq_iff_eq.mpr c11; have c11b1 : (((rd_T50 l0 x7_2).f0) != a1) = false := bne_eq_false_iff_eq.mpr c11; clear c11
          by_cases c12 : ((rd_T50 l0 x7_2).f1) = x6_1
          ·rw [if_pos c12] at H
           have c12b0 : (((rd_T50 l0 x7_2).f1) == x6_1) = true := beq_iff_eq.mpr c12; have c12b1 : (((rd_T50 l0 x7_2).f1) != x6_1) = false := bne_eq_false_iff_eq.mpr c12; clear c12
           by_cases c13 : x5_2.length < 17592186044416
           ·rw [if_pos c13] at H
            have LMc13 := Aside0.mk c13; clear c13
            obtain ⟨y153, hy153⟩ : ∃ y_ : List Int, y_ = (x5_2 ++ [x7_2]) := ⟨_, rfl⟩
            (replace H : (spec_ChildrenOf.l1 k2 l0 a1 y153 x6_1 (wrap64 (x7_2 + 1))) = some r := by first | (rw [hy153]; with_reducible exact H) | (have H2_ := bs_ H; rw [hy153]; with_reducible exact H2_) | (have H2_ := bs_ H; with_reducible exact H2_) | with_reducible exact H | (rw [hy153]; exact H) | exact H); have Ny153 := Aside0.mk hy153; clear hy153; have H' := Aside0.mk H; clear H; have p151 : 0 ≤ (x7_2 : Int) := of_decide_eq_true as_; have q151 : x7_2 < (l0.length : Int) := of_decide_eq_true as_; obtain ⟨ad151, e151, hx151_0, hx151_1, hx151_2⟩ := at_T50 HR0.out x7_2 p151 q151; cases e151; replace hx151_0 := pw_cell_below HB.out hx151_0; replace hx151_1 := pw_cell_below HB.out hx151_1; replace hx151_2 := pw_cell_below HB.out hx151_2; replace p151 := eq_true p151; replace q151 := eq_true q151; have p152 : 0 ≤ (x7_2 : Int) := of_decide_eq_true as_; have q152 : x7_2 < (l0.length : Int) := of_decide_eq_true as_; obtain ⟨ad152, e152, hx152_0, hx152_1, hx152_2⟩ := at_T50 HR0.out x7_2 p152 q152
            obtain rfl : ad151 = ad152 := (by injection e152)
            replace hx152_0 := pw_cell_below HB.out hx152_0; replace hx152_1 := pw_cell_below HB.out hx152_1; replace hx152_2 := pw_cell_below HB.out hx152_2; replace p152 := eq_true p152; replace q152 := eq_true q152; go_wp2_with (first | ((with_reducible refine gate_builtin (b := .append) (xs := #[.tmp 40, .tmp 42]) rfl ?_); at_builtin; refine R_append (Kd.int .i64) (w0 := w) w.heap.size rfl (.tmp 40) (.tmp 42) 23 3 (.int .i64 0) 8 rfl Try.underlying23 info3 rfl (by decide) (by omega) u5 x5_2 x7_2 [.int .i64 x7_2] (fun _ => True) (fun _ => False) rfl rfl ?aP (fun _ hk => hk.elim) ?aF ?aO ?aB ?aS ?aL ?_; (case aP => exact rfl); (case aB => exact bb); (case aF => exact (fun _ _ => trivial)); (case aO => exact (ra HO_5.out)); (case aS => exact (below_size bb)); (case aL => have := LMc13.out; omega); intro v154 w14 ho hb hg hat; rw [← Ny153.out] at ho; have t_ := fc2 (hb) (ho); clear HB HO_5; obtain ⟨HB, HO155⟩ := t_; clear ho hb hg hat))
            go_roundg k2
            case measure => have := HK1.out; have := HK2.out; omega
            case rel => exact ⟨(y153), (wrap64 (x7_2 + 1)), sd_, H', ⟨by have := HK1.out; have := HK2.out; omega⟩, ⟨(ra HO155.out)⟩, ⟨bb⟩⟩
           ·rw [if_neg c13] at H
            exact absurd H (by simp)
          ·rw [if_neg c12] at H
           have c12b0 : (((rd_T50 l0 x7_2).f1) == x6_1) = false := beq_eq_false_iff_ne.mpr c12; have c12b1 : (((rd_T50 l0 x7_2).f1) != x6_1) = true := bne_iff_ne.mpr c12; have H' := Aside0.mk H; clear H; have p151 : 0 ≤ (x7_2 : Int) := of_decide_eq_true as_; have q151 : x7_2 < (l0.length : Int) := of_decide_eq_true as_; obtain ⟨ad151, e151, hx151_0, hx151_1, hx151_2⟩ := at_T50 HR0.out x7_2 p151 q151; cases e151; replace hx151_0 := pw_cell_below HB.out hx151_0; replace hx151_1 := pw_cell_below HB.out hx151_1; replace hx151_2 := pw_cell_below HB.out hx151_2; replace p151 := eq_true p151; replace q151 := eq_true q151; have p152 : 0 ≤ (x7_2 : Int) := of_decide_eq_true as_; have q152 : x7_2 < (l0.length : Int) := of_decide_eq_true as_; obtain ⟨ad152, e152, hx152_0, hx152_1, hx152_2⟩ := at_T50 HR0.out x7_2 p152 q152
           obtain rfl : ad151 = ad152 := (by injection e152)
           replace hx152_0 := pw_cell_below HB.out hx152_0; replace hx152_1 := pw_cell_below HB.out hx152_1; replace hx152_2 := pw_cell_below HB.out hx152_2; replace p152 := eq_true p152; replace q152 := eq_true q152; go_wp2
           go_roundg k2
           case measure => have := HK1.out; have := HK2.out; omega
           case rel => exact ⟨(x5_2), (wrap64 (x7_2 + 1)), sd_, H', ⟨by have := HK1.out; have := HK2.out; omega⟩, ⟨(ra HO_5.out)⟩, ⟨bb⟩⟩
         ·rw [if_neg c11] at H
          have c11b0 : (((rd_T50 l0 x7_2).f0) == a1) = false := beq_eq_false_iff_ne.mpr c11; have c11b1 : (((rd_T50 l0 x7_2).f0) != a1) = true := bne_iff_ne.mpr c11; have H' := Aside0.mk H; clear H; have p151 : 0 ≤ (x7_2 : Int) := of_decide_eq_true as_; have q151 : x7_2 < (l0.length : Int) := of_decide_eq_true as_; obtain ⟨ad151, e151, hx151_0, hx151_1, hx151_2⟩ := at_T50 HR0.out x7_2 p151 q151; cases e151; replace hx151_0 := pw_cell_below HB.out hx151_0; replace hx151_1 := pw_cell_below HB.out hx151_1; replace hx151_2 := pw_cell_below HB.out hx151_2; replace p151 := eq_true p151; replace q151 := eq_true q151; go_wp2
          go_roundg k2
          case measure => have := HK1.out; have := HK2.out; omega
          case rel => exact ⟨(x5_2), (wrap64 (x7_2 + 1)), sd_, H', ⟨by have := HK1.out; have := HK2.out; omega⟩, ⟨(ra HO_5.out)⟩, ⟨bb⟩⟩
        ·rw [if_neg c10] at H
         exact absurd H (by simp)
       ·rw [if_neg c9] at H
        have c9b0 : decide (x7_2 < (l0.length : Int)) = false := decide_eq_false c9; clear c9; have H' := Aside0.mk H; clear H; go_wp2
        go_roundg k2
        case measure => have := HK1.out; have := HK2.out; omega
        case rel => exact ⟨(x5_2), (wrap64 (x6_1 + 1)), sd_, H', ⟨by have := HK1.out; have := HK2.out; omega⟩, ⟨(ra HO_5.out)⟩, ⟨bb⟩⟩
    ·rw [if_neg c8] at H
     have c8b0 : decide (x6_1 ≤ 3) = false := decide_eq_false c8; clear c8; obtain rfl := Option.some.inj H; go_wp2; go_ret; exact ⟨_, er, (ra HO_5.out), bb⟩
 ·replace c4 := Bool.eq_false_iff.mpr c4
  subst c4; (have H1 : (some y147) = some r := by rw [if_neg (show ¬ (false = true) by decide)] at H; exact H); clear H; have H := H1; clear H1; obtain rfl := Option.some.inj H; go_enter Try.func41, Try.ntmps41; go_wp2_with (first | ((with_reducible refine gate_dst (N := 8) rfl ?_); refine Kd.R_lit (Kd.int .i64) _ 3 ?hg (N := 8) ?hd (xs := ([] : List Int)) (inner := []) (ok := fun _ => True) (okp := fun _ => True) ?hr ?hp (fun _ hk => hk) trivial (Below.refl _ _) (Nat.le_refl _) (by simp) ?_; (case hd => rfl); (case hg => rfl); (case hr => exact hr_); (case hp => exact (Reps.none _ _)); intro v148 w15 ho16 hb hg_ hnew_; clear hg_ hnew_; (first | rw [← Ny147.out] at ho16 | (simp only [Int.reduceToNat] at ho16; rw [← Ny147.out] at ho16)); have t_ := fc2 (R_lower ho16 (below_size bb)) (below_step bb hb); clear HB; obtain ⟨HO149, HB⟩ := t_; clear hb ho16) | ((with_reducible refine gate_callee (f := 97) rfl ?_); refine goesL_ (some 11) rfl rfl Try.func97 (by kernel_rfl) rfl #[.slice A0 l0.length c0, .int .i64 a1] rfl ms ?_; (with_reducible refine (spec_l19Ok.calls k _ _ l0 a1 false _ ?side1 ?side2 A3.out).mono ?_); (case side1 => exact kc); (case side2 => exact HC0.out); rintro e w17 ⟨rfl, hb⟩; refine ⟨_, rfl, ?_⟩; have t_ := fc2 (R_below (ra HO149.out) hb) (below_step bb hb); clear HO149 HB; obtain ⟨HO149, HB⟩ := t_; (try clear hb))); go_ret; exact ⟨_, er, (ra HO149.out), bb⟩

end Go.Proofs.Ytbbppknnkghkjaa.PFnExactAllocate
