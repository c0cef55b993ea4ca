/- Printed: each Go function as a Lean function, with the proof that Go comes to just its answer (squeezed) -/
import Derived.Test.YtbbppknnkghkjaaPFnExactAllocatex0
import Derived.Test.YtbbppknnkghkjaaPFnExactAllocatex7
namespace Go.Proofs.Ytbbppknnkghkjaa.PFnExactAllocate
open Go.RowKit Go.Proofs.YtbbppknnkghkjaaW.PrintWords Go.Proofs.YtbbppknnkghkjaaW.PrintLast Go.Proofs.YtbbppknnkghkjaaW.PrintMore Go.Proofs.Ytbbppknnkghkjaa.Kit Go.Proofs.Ytbbppknnkghkjaa.Kit2 Go.Proofs.Ytbbppknnkghkjaa.Kit3
open Go.Proofs.YtbbppknnkghkjaaW.PrintWords.Kd (R_below R_mono R_far R_types R_elder' R_base R_lower R_new' R_newB R_lt R_after R_slice R_drew R_drewN R_alloc R_reads' R_bound R_append R_ne R_step C_below C_alloc C_drew C_drewN)
attribute [local go_sem] max2_int min2_int max_two min_two max_three min_three max_four min_four   -- for this text's walks alone
set_option linter.unusedVariables false
set_option linter.unusedSimpArgs false

/-! ### bits_OnesCount: function 134 -/
def bits_OnesCount.f (a0 : Int) : Option (Int) := (bits_OnesCount64.f a0).bind fun t202 => (some t202)
set_option maxHeartbeats 8000000 in
set_option maxRecDepth 100000 in
theorem bits_OnesCount.calls (a0 : Int) (r : Int) (w : World) (h : bits_OnesCount.f a0 = some r) :
  Calls Try.prog 134 #[.int .u64 a0] w fun e w' => e = .returned (.int .i64 r) ∧ Drawn0 w w' := by
 have H : ((bits_OnesCount64.f a0).bind fun t202 => (some t202)) = some r := h; clear h; replace H := Option.bind_eq_some_iff.mp H; obtain ⟨t202, A20, H⟩ := H; replace H : (some t202) = some r := H; have A2 := Aside0.mk A20; clear A20; obtain rfl := Option.some.inj H; go_enter Try.func134, Try.ntmps134; go_wp2_with (first | ((with_reducible refine gate_callee (f := 151) rfl ?_); refine goesL_ (some 7) rfl rfl Try.func151 (by kernel_rfl) rfl #[.int .u64 a0] rfl ms ?_; (with_reducible refine (bits_OnesCount64.calls a0 t202 _ A2.out).mono ?_); rintro e w' ⟨rfl, ⟨nd, rfl⟩⟩; refine ⟨_, rfl, ?_⟩)); go_ret; exact ⟨sd_, ds_⟩

/-! ### impl_IsPower: function 113 -/
def impl_IsPower.f (a0 : Int) : Option (Bool) := (impl_within.f a0 1 1048576).bind fun t203 => (if t203 = true then ((bits_OnesCount.f (IntKind.u64.wrap (a0))).bind fun t204 => (some (t204 == 1))) else (some false))
set_option maxHeartbeats 8000000 in
set_option maxRecDepth 100000 in
theorem impl_IsPower.calls (a0 : Int) (r : Bool) (w : World) (h : impl_IsPower.f a0 = some r) :
  Calls Try.prog 113 #[.int .i64 a0] w fun e w' => e = .returned (.bool r) ∧ Drawn0 w w' := by
 have H : ((impl_within.f a0 1 1048576).bind fun t203 => (if t203 = true then ((bits_OnesCount.f (IntKind.u64.wrap (a0))).bind fun t204 => (some (t204 == 1))) else (some false))) = some r := h; clear h; replace H := Option.bind_eq_some_iff.mp H; obtain ⟨t203, A20, H⟩ := H; replace H : (if t203 = true then ((bits_OnesCount.f (IntKind.u64.wrap (a0))).bind fun t204 => (some (t204 == 1))) else (some false)) = some r := H; have A2 := Aside0.mk A20; clear A20
 by_cases c3 : t203 = true
 ·subst c3
  (have H1 : ((bits_OnesCount.f (IntKind.u64.wrap (a0))).bind fun t204 => (some (t204 == 1))) = some r := by rw [if_pos rfl] at H; exact H); clear H; have H := H1; clear H1; replace H := Option.bind_eq_some_iff.mp H; obtain ⟨t204, A40, H⟩ := H; replace H : (some (t204 == 1)) = some r := H; have A4 := Aside0.mk A40; clear A40; obtain rfl := Option.some.inj H; go_enter Try.func113, Try.ntmps113; go_wp2_with (first | ((with_reducible refine gate_callee (f := 94) rfl ?_); refine goesL_ (some 4) rfl rfl Try.func94 (by kernel_rfl) rfl #[.int .i64 a0, .int .i64 1, .int .i64 1048576] rfl ms ?_; (with_reducible refine (impl_within.calls a0 1 1048576 true _ A2.out).mono ?_); rintro e w' ⟨rfl, ⟨nd, rfl⟩⟩; refine ⟨_, rfl, ?_⟩) | (go_at_call 134; (with_reducible refine (bits_OnesCount.calls (IntKind.u64.wrap (a0)) t204 _ A4.out).mono ?_); rintro e w' ⟨rfl, ⟨nd, rfl⟩⟩)); go_ret; exact ⟨sd_, ds_⟩
 ·replace c3 := Bool.eq_false_iff.mpr c3
  subst c3; (have H1 : (some false) = some r := by rw [if_neg (show ¬ (false = true) by decide)] at H; exact H); clear H; have H := H1; clear H1; obtain rfl := Option.some.inj H; go_enter Try.func113, Try.ntmps113; go_wp2_with (first | ((with_reducible refine gate_callee (f := 94) rfl ?_); refine goesL_ (some 4) rfl rfl Try.func94 (by kernel_rfl) rfl #[.int .i64 a0, .int .i64 1, .int .i64 1048576] rfl ms ?_; (with_reducible refine (impl_within.calls a0 1 1048576 false _ A2.out).mono ?_); rintro e w' ⟨rfl, ⟨nd, rfl⟩⟩; refine ⟨_, rfl, ?_⟩)); go_ret; exact ⟨sd_, ds_⟩

/-! ### impl_SizesOk: function 57 -/
mutual
def impl_SizesOk.j0 : Nat → List (S50) → List Int → Bool → Option (Bool)
 | 0, _, _, _ => none
 | k + 1, x0, x1, x16 => if x16 = true then (some false) else (impl_SizesOk.l0 k x0 x1 (x1.length : Int) 0)
def impl_SizesOk.l0 : Nat → List (S50) → List Int → Int → Int → Option (Bool)
 | 0, _, _, _, _ => none
 | k + 1, x0, x17, x18, x19 => if x19 < x18 then (if 0 ≤ x19 then (if x19 < (x17.length : Int) then (if (rd x17 x19) = 0 then (impl_SizesOk.l0 k x0 x17 x18 (wrap64 (x19 + 1))) else ((impl_isBridge.f x0 x19).bind fun t207 => (if t207 = true then (some false) else ((impl_IsPower.f (rd x17 x19)).bind fun t208 => (if t208 = true then ((impl_within.f (rd x17 x19) 16 4096).bind fun t209 => (if t209 = true then (impl_SizesOk.l0 k x0 x17 x18 (wrap64 (x19 + 1))) else (some false))) else (some false)))))) else (none)) else (none)) else (some true)
end
def impl_SizesOk.f (k : Nat) (l0 : List (S50)) (l1 : List Int) : Option (Bool) := (impl_TreeOk.f k l0).bind fun t205 => (if t205 = true then (impl_SizesOk.j0 k l0 l1 ((l1.length : Int) != (l0.length : Int))) else (impl_SizesOk.j0 k l0 l1 true))
set_option maxHeartbeats 8000000 in
set_option maxRecDepth 100000 in
theorem impl_SizesOk.calls (k : Nat) (A0 : Option Addr) (c0 : Nat) (l0 : List (S50)) (A1 : Option Addr) (c1 : Nat) (l1 : List Int) (r : Bool) (w : World) (hr0 : Kd.C k50 w A0 l0.length l0) (hc0 : l0.length ≤ c0) (hr1 : Kd.C (Kd.int .i64) w A1 l1.length l1) (hc1 : l1.length ≤ c1) (h : impl_SizesOk.f k l0 l1 = some r) :
  Calls Try.prog 57 #[.slice A0 l0.length c0, .slice A1 l1.length c1] w fun e w' => e = .returned (.bool r) ∧ Below w.heap.size w w' := by
 have HR0 := Aside0.mk hr0; have HC0 := Aside0.mk hc0; clear hr0 hc0; have HR1 := Aside0.mk hr1; have HC1 := Aside0.mk hc1; clear hr1 hc1; have HB := Aside0.mk (Below.refl w.heap.size w); have H : ((impl_TreeOk.f k l0).bind fun t205 => (if t205 = true then (impl_SizesOk.j0 k l0 l1 ((l1.length : Int) != (l0.length : Int))) else (impl_SizesOk.j0 k l0 l1 true))) = some r := h; clear h; have HC3 := Aside0.mk H; clear H; go_enter Try.func57, Try.ntmps57
 go_upto_region 1 with (fail)
 go_cut [16] (fun v16 wc => ∃ (kq : Nat) (x16_2 : Bool), v16 = .bool x16_2 ∧ Aside0 (impl_SizesOk.j0 kq l0 l1 x16_2 = some r) ∧ Aside0 (kq ≤ k) ∧ Aside0 (Below w.heap.size w wc))
 case first =>
  have H := HC3.out; clear HC3; replace H := Option.bind_eq_some_iff.mp H; obtain ⟨t205, A40, H⟩ := H; replace H : (if t205 = true then (impl_SizesOk.j0 k l0 l1 ((l1.length : Int) != (l0.length : Int))) else (impl_SizesOk.j0 k l0 l1 true)) = some r := H; have A4 := Aside0.mk A40; clear A40
  by_cases c5 : t205 = true
  ·subst c5
   (have H1 : (impl_SizesOk.j0 k l0 l1 ((l1.length : Int) != (l0.length : Int))) = some r := by rw [if_pos rfl] at H; exact H); clear H; have H := H1; clear H1; have H' := Aside0.mk H; clear H; go_wp2_with (first | ((with_reducible refine gate_callee (f := 40) rfl ?_); refine goesL_ (some 8) rfl rfl Try.func40 (by kernel_rfl) rfl #[.slice A0 l0.length c0] rfl ms ?_; (with_reducible refine (impl_TreeOk.calls k _ _ l0 true _ ?side1 ?side2 A4.out).mono ?_); (case side1 => exact kc); (case side2 => exact HC0.out); rintro e w6 ⟨rfl, hb⟩; refine ⟨_, rfl, ?_⟩; replace HB := Aside0.mk (below_step bb hb); (try clear hb)))
   go_meet
   case rel => exact ⟨_, (((l1.length : Int) != (l0.length : Int))), sd_, H', ⟨by first | omega | exact Nat.le_refl _⟩, ⟨bb⟩⟩
  ·replace c5 := Bool.eq_false_iff.mpr c5
   subst c5; (have H1 : (impl_SizesOk.j0 k l0 l1 true) = some r := by rw [if_neg (show ¬ (false = true) by decide)] at H; exact H); clear H; have H := H1; clear H1; have H' := Aside0.mk H; clear H; go_wp2_with (first | ((with_reducible refine gate_callee (f := 40) rfl ?_); refine goesL_ (some 8) rfl rfl Try.func40 (by kernel_rfl) rfl #[.slice A0 l0.length c0] rfl ms ?_; (with_reducible refine (impl_TreeOk.calls k _ _ l0 false _ ?side1 ?side2 A4.out).mono ?_); (case side1 => exact kc); (case side2 => exact HC0.out); rintro e w7 ⟨rfl, hb⟩; refine ⟨_, rfl, ?_⟩; replace HB := Aside0.mk (below_step bb hb); (try clear hb)))
   go_meet
   case rel => exact ⟨_, (true), sd_, H', ⟨by first | omega | exact Nat.le_refl _⟩, ⟨bb⟩⟩
 case rest =>
  clear HC3; (try clear c1); (try clear p2); (try clear c4); (try clear c5); obtain ⟨kq, x16_2, rfl, HA, HJ2, HB⟩ := hcut
  cases kq with
  | zero => exact absurd HA.out (by simp [impl_SizesOk.j0])
  | succ kj2 =>
   have H := HA.out; clear HA; simp only [impl_SizesOk.j0] at H
   by_cases c8 : x16_2 = true
   ·subst c8
    (have H1 : (some false) = some r := by rw [if_pos rfl] at H; exact H); clear H; have H := H1; clear H1; obtain rfl := Option.some.inj H; go_wp2; go_ret; exact ⟨er, bb⟩
   ·replace c8 := Bool.eq_false_iff.mpr c8
    subst c8; (have H1 : (impl_SizesOk.l0 kj2 l0 l1 (l1.length : Int) 0) = some r := by rw [if_neg (show ¬ (false = true) by decide)] at H; exact H); clear H; have H := H1; clear H1; have H' := Aside0.mk H; clear H; go_wp2
    go_loopg [19] kj2 (fun kq v19 w' => ∃ (x19_2 : Int), v19 = .int .i64 x19_2 ∧ Aside0 (impl_SizesOk.l0 kq l0 l1 (l1.length : Int) x19_2 = some r) ∧ Aside0 (kq ≤ kj2) ∧ Aside0 (Below w.heap.size w w'))
    case atStart => exact ⟨(0), sd_, H', ⟨Nat.le_refl _⟩, ⟨bb⟩⟩
    case round =>
     clear H'; (try clear c1); (try clear p2); (try clear c4); (try clear c5); (try clear c8); (try clear p2); obtain ⟨x19_2, rfl, HA, HK2, HB⟩ := hrel
     cases gk with
     | zero => exact absurd HA.out (by simp [impl_SizesOk.l0])
     | succ k2 =>
      have H := HA.out; clear HA; simp only [impl_SizesOk.l0] at H
      by_cases c9 : x19_2 < (l1.length : Int)
      ·rw [if_pos c9] at H
       have c9b0 : decide (x19_2 < (l1.length : Int)) = true := decide_eq_true c9; clear c9
       by_cases c10 : 0 ≤ x19_2
       ·rw [if_pos c10] at H
        have c10b0 : decide (0 ≤ x19_2) = true := decide_eq_true c10; clear c10
        by_cases c11 : x19_2 < (l1.length : Int)
        ·rw [if_pos c11] at H
         have c11b0 : decide (x19_2 < (l1.length : Int)) = true := decide_eq_true c11; clear c11
         by_cases c12 : (rd l1 x19_2) = 0
         ·rw [if_pos c12] at H
          have c12b0 : ((rd l1 x19_2) == 0) = true := beq_iff_eq.mpr c12; have c12b1 : ((rd l1 x19_2) != 0) = false := bne_eq_false_iff_eq.mpr c12; clear c12; have H' := Aside0.mk H; clear H; have p206 : 0 ≤ (x19_2 : Int) := of_decide_eq_true as_; have q206 : x19_2 < (l1.length : Int) := of_decide_eq_true as_; obtain ⟨ad206, e206, hx206_0⟩ := Kd.at_int HR1.out x19_2 p206 q206; cases e206; replace hx206_0 := pw_cell_below HB.out hx206_0; replace p206 := eq_true p206; replace q206 := eq_true q206; go_wp2
          go_roundg k2
          case measure => have := HJ2.out; have := HK2.out; omega
          case rel => exact ⟨(wrap64 (x19_2 + 1)), sd_, H', ⟨by have := HJ2.out; have := HK2.out; omega⟩, ⟨bb⟩⟩
         ·rw [if_neg c12] at H
          have c12b0 : ((rd l1 x19_2) == 0) = false := beq_eq_false_iff_ne.mpr c12; have c12b1 : ((rd l1 x19_2) != 0) = true := bne_iff_ne.mpr c12; replace H := Option.bind_eq_some_iff.mp H; obtain ⟨t207, A130, H⟩ := H; replace H : (if t207 = true then (some false) else ((impl_IsPower.f (rd l1 x19_2)).bind fun t208 => (if t208 = true then ((impl_within.f (rd l1 x19_2) 16 4096).bind fun t209 => (if t209 = true then (impl_SizesOk.l0 k2 l0 l1 (l1.length : Int) (wrap64 (x19_2 + 1))) else (some false))) else (some false)))) = some r := H; have A13 := Aside0.mk A130; clear A130
          by_cases c14 : t207 = true
          ·subst c14
           (have H1 : (some false) = some r := by rw [if_pos rfl] at H; exact H); clear H; have H := H1; clear H1; obtain rfl := Option.some.inj H; have p206 : 0 ≤ (x19_2 : Int) := of_decide_eq_true as_; have q206 : x19_2 < (l1.length : Int) := of_decide_eq_true as_; obtain ⟨ad206, e206, hx206_0⟩ := Kd.at_int HR1.out x19_2 p206 q206; cases e206; replace hx206_0 := pw_cell_below HB.out hx206_0; replace p206 := eq_true p206; replace q206 := eq_true q206; go_wp2_with (first | (go_at_call 81; (with_reducible refine (impl_isBridge.calls _ _ l0 x19_2 true _ ?side1 ?side2 A13.out).mono ?_); (case side1 => exact kc); (case side2 => exact HC0.out); rintro e w' ⟨rfl, ⟨nd, rfl⟩⟩)); go_ret; exact ⟨er, bb⟩
          ·replace c14 := Bool.eq_false_iff.mpr c14
           subst c14; (have H1 : ((impl_IsPower.f (rd l1 x19_2)).bind fun t208 => (if t208 = true then ((impl_within.f (rd l1 x19_2) 16 4096).bind fun t209 => (if t209 = true then (impl_SizesOk.l0 k2 l0 l1 (l1.length : Int) (wrap64 (x19_2 + 1))) else (some false))) else (some false))) = some r := by rw [if_neg (show ¬ (false = true) by decide)] at H; exact H); clear H; have H := H1; clear H1; replace H := Option.bind_eq_some_iff.mp H; obtain ⟨t208, A150, H⟩ := H; replace H : (if t208 = true then ((impl_within.f (rd l1 x19_2) 16 4096).bind fun t209 => (if t209 = true then (impl_SizesOk.l0 k2 l0 l1 (l1.length : Int) (wrap64 (x19_2 + 1))) else (some false))) else (some false)) = some r := H; have A15 := Aside0.mk A150; clear A150
           by_cases c16 : t208 = true
           ·subst c16
            (have H1 : ((impl_within.f (rd l1 x19_2) 16 4096).bind fun t209 => (if t209 = true then (impl_SizesOk.l0 k2 l0 l1 (l1.length : Int) (wrap64 (x19_2 + 1))) else (some false))) = some r := by rw [if_pos rfl] at H; exact H); clear H; have H := H1; clear H1; replace H := Option.bind_eq_some_iff.mp H; obtain ⟨t209, A170, H⟩ := H; replace H : (if t209 = true then (impl_SizesOk.l0 k2 l0 l1 (l1.length : Int) (wrap64 (x19_2 + 1))) else (some false)) = some r := H; have A17 := Aside0.mk A170; clear A170
            by_cases c18 : t209 = true
            ·subst c18
             (have H1 : (impl_SizesOk.l0 k2 l0 l1 (l1.length : Int) (wrap64 (x19_2 + 1))) = some r := by rw [if_pos rfl] at H; exact H); clear H; have H := H1; clear H1; have H' := Aside0.mk H; clear H; have p206 : 0 ≤ (x19_2 : Int) := of_decide_eq_true as_; have q206 : x19_2 < (l1.length : Int) := of_decide_eq_true as_; obtain ⟨ad206, e206, hx206_0⟩ := Kd.at_int HR1.out x19_2 p206 q206; cases e206; replace hx206_0 := pw_cell_below HB.out hx206_0; replace p206 := eq_true p206; replace q206 := eq_true q206; go_wp2_with (first | (go_at_call 81; (with_reducible refine (impl_isBridge.calls _ _ l0 x19_2 false _ ?side1 ?side2 A13.out).mono ?_); (case side1 => exact kc); (case side2 => exact HC0.out); rintro e w' ⟨rfl, ⟨nd, rfl⟩⟩) | (go_at_call 113; (with_reducible refine (impl_IsPower.calls (rd l1 x19_2) true _ A15.out).mono ?_); rintro e w' ⟨rfl, ⟨nd, rfl⟩⟩) | (go_at_call 94; (with_reducible refine (impl_within.calls (rd l1 x19_2) 16 4096 true _ A17.out).mono ?_); rintro e w' ⟨rfl, ⟨nd, rfl⟩⟩))
             go_roundg k2
             case measure => have := HJ2.out; have := HK2.out; omega
             case rel => exact ⟨(wrap64 (x19_2 + 1)), sd_, H', ⟨by have := HJ2.out; have := HK2.out; omega⟩, ⟨bb⟩⟩
            ·replace c18 := Bool.eq_false_iff.mpr c18
             subst c18; (have H1 : (some false) = some r := by rw [if_neg (show ¬ (false = true) by decide)] at H; exact H); clear H; have H := H1; clear H1; obtain rfl := Option.some.inj H; have p206 : 0 ≤ (x19_2 : Int) := of_decide_eq_true as_; have q206 : x19_2 < (l1.length : Int) := of_decide_eq_true as_; obtain ⟨ad206, e206, hx206_0⟩ := Kd.at_int HR1.out x19_2 p206 q206; cases e206; replace hx206_0 := pw_cell_below HB.out hx206_0; replace p206 := eq_true p206; replace q206 := eq_true q206; go_wp2_with (first | (go_at_call 81; (with_reducible refine (impl_isBridge.calls _ _ l0 x19_2 false _ ?side1 ?side2 A13.out).mono ?_); (case side1 => exact kc); (case side2 => exact HC0.out); rintro e w' ⟨rfl, ⟨nd, rfl⟩⟩) | (go_at_call 113; (with_reducible refine (impl_IsPower.calls (rd l1 x19_2) true _ A15.out).mono ?_); rintro e w' ⟨rfl, ⟨nd, rfl⟩⟩) | (go_at_call 94; (with_reducible refine (impl_within.calls (rd l1 x19_2) 16 4096 false _ A17.out).mono ?_); rintro e w' ⟨rfl, ⟨nd, rfl⟩⟩)); go_ret; exact ⟨er, bb⟩
           ·replace c16 := Bool.eq_false_iff.mpr c16
            subst c16; (have H1 : (some false) = some r := by rw [if_neg (show ¬ (false = true) by decide)] at H; exact H); clear H; have H := H1; clear H1; obtain rfl := Option.some.inj H; have p206 : 0 ≤ (x19_2 : Int) := of_decide_eq_true as_; have q206 : x19_2 < (l1.length : Int) := of_decide_eq_true as_; obtain ⟨ad206, e206, hx206_0⟩ := Kd.at_int HR1.out x19_2 p206 q206; cases e206; replace hx206_0 := pw_cell_below HB.out hx206_0; replace p206 := eq_true p206; replace q206 := eq_true q206; go_wp2_with (first | (go_at_call 81; (with_reducible refine (impl_isBridge.calls _ _ l0 x19_2 false _ ?side1 ?side2 A13.out).mono ?_); (case side1 => exact kc); (case side2 => exact HC0.out); rintro e w' ⟨rfl, ⟨nd, rfl⟩⟩) | (go_at_call 113; (with_reducible refine (impl_IsPower.calls (rd l1 x19_2) false _ A15.out).mono ?_); rintro e w' ⟨rfl, ⟨nd, rfl⟩⟩)); go_ret; exact ⟨er, bb⟩
        ·rw [if_neg c11] at H
         exact absurd H (by simp)
       ·rw [if_neg c10] at H
        exact absurd H (by simp)
      ·rw [if_neg c9] at H
       have c9b0 : decide (x19_2 < (l1.length : Int)) = false := decide_eq_false c9; clear c9; obtain rfl := Option.some.inj H; go_wp2; go_ret; exact ⟨er, bb⟩

/-! ### impl_isNode: function 90 -/
def impl_isNode.f (k : Nat) (l0 : List (S50)) (a1 : Int) : Option (Bool) := (impl_TreeOk.f k l0).bind fun t210 => (if t210 = true then ((impl_within.f a1 0 (wrap64 ((l0.length : Int) - 1))).bind fun t211 => (some t211)) else (some false))
set_option maxHeartbeats 8000000 in
set_option maxRecDepth 100000 in
theorem impl_isNode.calls (k : Nat) (A0 : Option Addr) (c0 : Nat) (l0 : List (S50)) (a1 : Int) (r : Bool) (w : World) (hr0 : Kd.C k50 w A0 l0.length l0) (hc0 : l0.length ≤ c0) (h : impl_isNode.f k l0 a1 = some r) :
  Calls Try.prog 90 #[.slice A0 l0.length c0, .int .i64 a1] w fun e w' => e = .returned (.bool r) ∧ Below w.heap.size w w' := by
 have HR0 := Aside0.mk hr0; have HC0 := Aside0.mk hc0; clear hr0 hc0; have HB := Aside0.mk (Below.refl w.heap.size w); have H : ((impl_TreeOk.f k l0).bind fun t210 => (if t210 = true then ((impl_within.f a1 0 (wrap64 ((l0.length : Int) - 1))).bind fun t211 => (some t211)) else (some false))) = some r := h; clear h; replace H := Option.bind_eq_some_iff.mp H; obtain ⟨t210, A30, H⟩ := H; replace H : (if t210 = true then ((impl_within.f a1 0 (wrap64 ((l0.length : Int) - 1))).bind fun t211 => (some t211)) else (some false)) = some r := H; have A3 := Aside0.mk A30; clear A30
 by_cases c4 : t210 = true
 ·subst c4
  (have H1 : ((impl_within.f a1 0 (wrap64 ((l0.length : Int) - 1))).bind fun t211 => (some t211)) = some r := by rw [if_pos rfl] at H; exact H); clear H; have H := H1; clear H1; replace H := Option.bind_eq_some_iff.mp H; obtain ⟨t211, A50, H⟩ := H; replace H : (some t211) = some r := H; have A5 := Aside0.mk A50; clear A50; obtain rfl := Option.some.inj H; go_enter Try.func90, Try.ntmps90; go_wp2_with (first | ((with_reducible refine gate_callee (f := 40) rfl ?_); refine goesL_ (some 6) rfl rfl Try.func40 (by kernel_rfl) rfl #[.slice A0 l0.length c0] rfl ms ?_; (with_reducible refine (impl_TreeOk.calls k _ _ l0 true _ ?side1 ?side2 A3.out).mono ?_); (case side1 => repeat (first | exact HR0.out | (with_reducible refine C_alloc ?_ _) | (with_reducible refine C_drewN ?_ _) | (with_reducible refine C_drew ?_))); (case side2 => exact HC0.out); rintro e w6 ⟨rfl, hb⟩; refine ⟨_, rfl, ?_⟩; replace HB := Aside0.mk (below_step bb hb); (try clear hb)) | (go_at_call 94; (with_reducible refine (impl_within.calls a1 0 (wrap64 ((l0.length : Int) - 1)) t211 _ A5.out).mono ?_); rintro e w' ⟨rfl, ⟨nd, rfl⟩⟩)); go_ret; exact ⟨er, bb⟩
 ·replace c4 := Bool.eq_false_iff.mpr c4
  subst c4; (have H1 : (some false) = some r := by rw [if_neg (show ¬ (false = true) by decide)] at H; exact H); clear H; have H := H1; clear H1; obtain rfl := Option.some.inj H; go_enter Try.func90, Try.ntmps90; go_wp2_with (first | ((with_reducible refine gate_callee (f := 40) rfl ?_); refine goesL_ (some 6) rfl rfl Try.func40 (by kernel_rfl) rfl #[.slice A0 l0.length c0] rfl ms ?_; (with_reducible refine (impl_TreeOk.calls k _ _ l0 false _ ?side1 ?side2 A3.out).mono ?_); (case side1 => repeat (first | exact HR0.out | (with_reducible refine C_alloc ?_ _) | (with_reducible refine C_drewN ?_ _) | (with_reducible refine C_drew ?_))); (case side2 => exact HC0.out); rintro e w7 ⟨rfl, hb⟩; refine ⟨_, rfl, ?_⟩; replace HB := Aside0.mk (below_step bb hb); (try clear hb))); go_ret; exact ⟨er, bb⟩

/-! ### cmp_isNaN_int: function 127 -/
def cmp_isNaN_int.f (a0 : Int) : Option (Bool) := some (a0 != a0)
set_option maxHeartbeats 8000000 in
set_option maxRecDepth 100000 in
theorem cmp_isNaN_int.calls (a0 : Int) (r : Bool) (w : World) (h : cmp_isNaN_int.f a0 = some r) :
  Calls Try.prog 127 #[.int .i64 a0] w fun e w' => e = .returned (.bool r) ∧ Drawn0 w w' := by
 have H : (some (a0 != a0)) = some r := h; clear h; obtain rfl := Option.some.inj H; go_enter Try.func127, Try.ntmps127; go_wp2; go_ret; exact ⟨sd_, ds_⟩

/-! ### cmp_Compare_int: function 93 -/
def cmp_Compare_int.f (a0 : Int) (a1 : Int) : Option (Int) := (cmp_isNaN_int.f a0).bind fun t212 => ((cmp_isNaN_int.f a1).bind fun t213 => (if t212 = true then (if t213 = true then (some 0) else (some (-1))) else (if t213 = true then (some 1) else (if a0 < a1 then (some (-1)) else (if a0 > a1 then (some 1) else (some 0))))))
set_option maxHeartbeats 8000000 in
set_option maxRecDepth 100000 in
theorem cmp_Compare_int.calls (a0 : Int) (a1 : Int) (r : Int) (w : World) (h : cmp_Compare_int.f a0 a1 = some r) :
  Calls Try.prog 93 #[.int .i64 a0, .int .i64 a1] w fun e w' => e = .returned (.int .i64 r) ∧ Drawn0 w w' := by
 have H : ((cmp_isNaN_int.f a0).bind fun t212 => ((cmp_isNaN_int.f a1).bind fun t213 => (if t212 = true then (if t213 = true then (some 0) else (some (-1))) else (if t213 = true then (some 1) else (if a0 < a1 then (some (-1)) else (if a0 > a1 then (some 1) else (some 0))))))) = some r := h; clear h; replace H := Option.bind_eq_some_iff.mp H; obtain ⟨t212, A30, H⟩ := H; replace H : ((cmp_isNaN_int.f a1).bind fun t213 => (if t212 = true then (if t213 = true then (some 0) else (some (-1))) else (if t213 = true then (some 1) else (if a0 < a1 then (some (-1)) else (if a0 > a1 then (some 1) else (some 0)))))) = some r := H; have A3 := Aside0.mk A30; clear A30; replace H := Option.bind_eq_some_iff.mp H; obtain ⟨t213, A40, H⟩ := H; replace H : (if t212 = true then (if t213 = true then (some 0) else (some (-1))) else (if t213 = true then (some 1) else (if a0 < a1 then (some (-1)) else (if a0 > a1 then (some 1) else (some 0))))) = some r := H; have A4 := Aside0.mk A40; clear A40
 by_cases c5 : t212 = true
 ·subst c5
  (have H1 : (if t213 = true then (some 0) else (some (-1))) = some r := by rw [if_pos rfl] at H; exact H); clear H; have H := H1; clear H1
  by_cases c6 : t213 = true
  ·subst c6
   (have H1 : (some 0) = some r := by rw [if_pos rfl] at H; exact H); clear H; have H := H1; clear H1; obtain rfl := Option.some.inj H; go_enter Try.func93, Try.ntmps93; go_wp2_with (first | ((with_reducible refine gate_callee (f := 127) rfl ?_); refine goesL_ (some 8) rfl rfl Try.func127 (by kernel_rfl) rfl #[.int .i64 a0] rfl ms ?_; (with_reducible refine (cmp_isNaN_int.calls a0 true _ A3.out).mono ?_); rintro e w' ⟨rfl, ⟨nd, rfl⟩⟩; refine ⟨_, rfl, ?_⟩) | ((with_reducible refine gate_callee (f := 127) rfl ?_); refine goesL_ (some 10) rfl rfl Try.func127 (by kernel_rfl) rfl #[.int .i64 a1] rfl ms ?_; (with_reducible refine (cmp_isNaN_int.calls a1 true _ A4.out).mono ?_); rintro e w' ⟨rfl, ⟨nd, rfl⟩⟩; refine ⟨_, rfl, ?_⟩)); go_ret; exact ⟨sd_, ds_⟩
  ·replace c6 := Bool.eq_false_iff.mpr c6
   subst c6; (have H1 : (some (-1)) = some r := by rw [if_neg (show ¬ (false = true) by decide)] at H; exact H); clear H; have H := H1; clear H1; obtain rfl := Option.some.inj H; go_enter Try.func93, Try.ntmps93; go_wp2_with (first | ((with_reducible refine gate_callee (f := 127) rfl ?_); refine goesL_ (some 8) rfl rfl Try.func127 (by kernel_rfl) rfl #[.int .i64 a0] rfl ms ?_; (with_reducible refine (cmp_isNaN_int.calls a0 true _ A3.out).mono ?_); rintro e w' ⟨rfl, ⟨nd, rfl⟩⟩; refine ⟨_, rfl, ?_⟩) | ((with_reducible refine gate_callee (f := 127) rfl ?_); refine goesL_ (some 10) rfl rfl Try.func127 (by kernel_rfl) rfl #[.int .i64 a1] rfl ms ?_; (with_reducible refine (cmp_isNaN_int.calls a1 false _ A4.out).mono ?_); rintro e w' ⟨rfl, ⟨nd, rfl⟩⟩; refine ⟨_, rfl, ?_⟩)); go_ret; exact ⟨sd_, ds_⟩
 ·replace c5 := Bool.eq_false_iff.mpr c5
  subst c5; (have H1 : (if t213 = true then (some 1) else (if a0 < a1 then (some (-1)) else (if a0 > a1 then (some 1) else (some 0)))) = some r := by rw [if_neg (show ¬ (false = true) by decide)] at H; exact H); clear H; have H := H1; clear H1
  by_cases c7 : t213 = true
  ·subst c7
   (have H1 : (some 1) = some r := by rw [if_pos rfl] at H; exact H); clear H; have H := H1; clear H1; obtain rfl := Option.some.inj H; go_enter Try.func93, Try.ntmps93; go_wp2_with (first | ((with_reducible refine gate_callee (f := 127) rfl ?_); refine goesL_ (some 8) rfl rfl Try.func127 (by kernel_rfl) rfl #[.int .i64 a0] rfl ms ?_; (with_reducible refine (cmp_isNaN_int.calls a0 false _ A3.out).mono ?_); rintro e w' ⟨rfl, ⟨nd, rfl⟩⟩; refine ⟨_, rfl, ?_⟩) | ((with_reducible refine gate_callee (f := 127) rfl ?_); refine goesL_ (some 10) rfl rfl Try.func127 (by kernel_rfl) rfl #[.int .i64 a1] rfl ms ?_; (with_reducible refine (cmp_isNaN_int.calls a1 true _ A4.out).mono ?_); rintro e w' ⟨rfl, ⟨nd, rfl⟩⟩; refine ⟨_, rfl, ?_⟩)); go_ret; exact ⟨sd_, ds_⟩
  ·replace c7 := Bool.eq_false_iff.mpr c7
   subst c7; (have H1 : (if a0 < a1 then (some (-1)) else (if a0 > a1 then (some 1) else (some 0))) = some r := by rw [if_neg (show ¬ (false = true) by decide)] at H; exact H); clear H; have H := H1; clear H1
   by_cases c8 : a0 < a1
   ·rw [if_pos c8] at H
    have c8b0 : decide (a0 < a1) = true := decide_eq_true c8; clear c8; obtain rfl := Option.some.inj H; go_enter Try.func93, Try.ntmps93; go_wp2_with (first | ((with_reducible refine gate_callee (f := 127) rfl ?_); refine goesL_ (some 8) rfl rfl Try.func127 (by kernel_rfl) rfl #[.int .i64 a0] rfl ms ?_; (with_reducible refine (cmp_isNaN_int.calls a0 false _ A3.out).mono ?_); rintro e w' ⟨rfl, ⟨nd, rfl⟩⟩; refine ⟨_, rfl, ?_⟩) | ((with_reducible refine gate_callee (f := 127) rfl ?_); refine goesL_ (some 10) rfl rfl Try.func127 (by kernel_rfl) rfl #[.int .i64 a1] rfl ms ?_; (with_reducible refine (cmp_isNaN_int.calls a1 false _ A4.out).mono ?_); rintro e w' ⟨rfl, ⟨nd, rfl⟩⟩; refine ⟨_, rfl, ?_⟩)); go_ret; exact ⟨sd_, ds_⟩
   ·rw [if_neg c8] at H
    have c8b0 : decide (a0 < a1) = false := decide_eq_false c8; clear c8
    by_cases c9 : a0 > a1
    ·rw [if_pos c9] at H
     have c9b0 : decide (a1 < a0) = true := decide_eq_true c9; clear c9; obtain rfl := Option.some.inj H; go_enter Try.func93, Try.ntmps93; go_wp2_with (first | ((with_reducible refine gate_callee (f := 127) rfl ?_); refine goesL_ (some 8) rfl rfl Try.func127 (by kernel_rfl) rfl #[.int .i64 a0] rfl ms ?_; (with_reducible refine (cmp_isNaN_int.calls a0 false _ A3.out).mono ?_); rintro e w' ⟨rfl, ⟨nd, rfl⟩⟩; refine ⟨_, rfl, ?_⟩) | ((with_reducible refine gate_callee (f := 127) rfl ?_); refine goesL_ (some 10) rfl rfl Try.func127 (by kernel_rfl) rfl #[.int .i64 a1] rfl ms ?_; (with_reducible refine (cmp_isNaN_int.calls a1 false _ A4.out).mono ?_); rintro e w' ⟨rfl, ⟨nd, rfl⟩⟩; refine ⟨_, rfl, ?_⟩)); go_ret; exact ⟨sd_, ds_⟩
    ·rw [if_neg c9] at H
     have c9b0 : decide (a1 < a0) = false := decide_eq_false c9; clear c9; obtain rfl := Option.some.inj H; go_enter Try.func93, Try.ntmps93; go_wp2_with (first | ((with_reducible refine gate_callee (f := 127) rfl ?_); refine goesL_ (some 8) rfl rfl Try.func127 (by kernel_rfl) rfl #[.int .i64 a0] rfl ms ?_; (with_reducible refine (cmp_isNaN_int.calls a0 false _ A3.out).mono ?_); rintro e w' ⟨rfl, ⟨nd, rfl⟩⟩; refine ⟨_, rfl, ?_⟩) | ((with_reducible refine gate_callee (f := 127) rfl ?_); refine goesL_ (some 10) rfl rfl Try.func127 (by kernel_rfl) rfl #[.int .i64 a1] rfl ms ?_; (with_reducible refine (cmp_isNaN_int.calls a1 false _ A4.out).mono ?_); rintro e w' ⟨rfl, ⟨nd, rfl⟩⟩; refine ⟨_, rfl, ?_⟩)); go_ret; exact ⟨sd_, ds_⟩

/-! ### impl_ChildrenOf_1: function 92 -/
def impl_ChildrenOf_1.f (a0 : Int) (a1 : Int) (l2_0 : List (S50)) : Option (Int) := if 0 ≤ a0 then (if a0 < (l2_0.length : Int) then (if 0 ≤ a1 then (if a1 < (l2_0.length : Int) then ((cmp_Compare_int.f ((rd_T50 l2_0 a0).f1) ((rd_T50 l2_0 a1).f1)).bind fun t216 => (some t216)) else (none)) else (none)) else (none)) else (none)
set_option maxHeartbeats 8000000 in
set_option maxRecDepth 100000 in
theorem impl_ChildrenOf_1.calls (a0 : Int) (a1 : Int) (gc2 : Nat) (A2_0 : Option Addr) (c2_0 : Nat) (l2_0 : List (S50)) (r : Int) (w : World) (hr2_0 : Kd.C k50 w A2_0 l2_0.length l2_0) (hc2_0 : l2_0.length ≤ c2_0) (hbx2 : w.heap[gc2]? = some (.cells #[.slice A2_0 l2_0.length c2_0] 29 (0, 0))) (h : impl_ChildrenOf_1.f a0 a1 l2_0 = some r) :
  Calls Try.prog 92 #[.int .i64 a0, .int .i64 a1, .pointer (some ⟨gc2, 0, none⟩)] w fun e w' => e = .returned (.int .i64 r) ∧ Drawn0 w w' := by
 have HR2_0 := Aside0.mk hr2_0; have HC2_0 := Aside0.mk hc2_0; clear hr2_0 hc2_0; have BK2 := Aside0.mk hbx2; clear hbx2; have H : (if 0 ≤ a0 then (if a0 < (l2_0.length : Int) then (if 0 ≤ a1 then (if a1 < (l2_0.length : Int) then ((cmp_Compare_int.f ((rd_T50 l2_0 a0).f1) ((rd_T50 l2_0 a1).f1)).bind fun t216 => (some t216)) else (none)) else (none)) else (none)) else (none)) = some r := h; clear h
 by_cases c4 : 0 ≤ a0
 ·rw [if_pos c4] at H
  have c4b0 : decide (0 ≤ a0) = true := decide_eq_true c4; clear c4
  by_cases c5 : a0 < (l2_0.length : Int)
  ·rw [if_pos c5] at H
   have c5b0 : decide (a0 < (l2_0.length : Int)) = true := decide_eq_true c5; clear c5
   by_cases c6 : 0 ≤ a1
   ·rw [if_pos c6] at H
    have c6b0 : decide (0 ≤ a1) = true := decide_eq_true c6; clear c6
    by_cases c7 : a1 < (l2_0.length : Int)
    ·rw [if_pos c7] at H
     have c7b0 : decide (a1 < (l2_0.length : Int)) = true := decide_eq_true c7; clear c7; replace H := Option.bind_eq_some_iff.mp H; obtain ⟨t216, A80, H⟩ := H; replace H : (some t216) = some r := H; have A8 := Aside0.mk A80; clear A80; obtain rfl := Option.some.inj H; obtain ⟨hcz9_0, hfz9_0⟩ := bx1 BK2.out; have p214 : 0 ≤ (a0 : Int) := of_decide_eq_true as_; have q214 : a0 < (l2_0.length : Int) := of_decide_eq_true as_; obtain ⟨ad214, e214, hx214_0, hx214_1, hx214_2⟩ := at_T50 HR2_0.out a0 p214 q214; cases e214; replace p214 := eq_true p214; replace q214 := eq_true q214; have p215 : 0 ≤ (a1 : Int) := of_decide_eq_true as_; have q215 : a1 < (l2_0.length : Int) := of_decide_eq_true as_; obtain ⟨ad215, e215, hx215_0, hx215_1, hx215_2⟩ := at_T50 HR2_0.out a1 p215 q215
     obtain rfl : ad214 = ad215 := (by injection e215)
     replace p215 := eq_true p215; replace q215 := eq_true q215; go_enter Try.func92, Try.ntmps92; go_wp2_with (first | (go_at_call 93; (with_reducible refine (cmp_Compare_int.calls ((rd_T50 l2_0 a0).f1) ((rd_T50 l2_0 a1).f1) t216 _ A8.out).mono ?_); rintro e w' ⟨rfl, ⟨nd, rfl⟩⟩; (try first | exact ⟨rfl, _, World.drewN_drewN _ _ _⟩ | exact ⟨rfl, _, Eq.trans (World.drewN_drewN _ _ _) (congrArg (World.drewN _) (Nat.add_assoc _ _ _))⟩)))
     repeat (go_quiet (first | (go_at_call 93; (with_reducible refine (cmp_Compare_int.calls ((rd_T50 l2_0 a0).f1) ((rd_T50 l2_0 a1).f1) t216 _ A8.out).mono ?_); rintro e w' ⟨rfl, ⟨nd, rfl⟩⟩; (try first | exact ⟨rfl, _, World.drewN_drewN _ _ _⟩ | exact ⟨rfl, _, Eq.trans (World.drewN_drewN _ _ _) (congrArg (World.drewN _) (Nat.add_assoc _ _ _))⟩))); try go_wp2_with (first | (go_at_call 93; (with_reducible refine (cmp_Compare_int.calls ((rd_T50 l2_0 a0).f1) ((rd_T50 l2_0 a1).f1) t216 _ A8.out).mono ?_); rintro e w' ⟨rfl, ⟨nd, rfl⟩⟩; (try first | exact ⟨rfl, _, World.drewN_drewN _ _ _⟩ | exact ⟨rfl, _, Eq.trans (World.drewN_drewN _ _ _) (congrArg (World.drewN _) (Nat.add_assoc _ _ _))⟩))))
     go_ret; exact ⟨sd_, ds_⟩
    ·rw [if_neg c7] at H
     exact absurd H (by simp)
   ·rw [if_neg c6] at H
    exact absurd H (by simp)
  ·rw [if_neg c5] at H
   exact absurd H (by simp)
 ·rw [if_neg c4] at H
  exact absurd H (by simp)

/-! ### slices_SortFunc_int_int_impl_ChildrenOf_1: function 91, handed function 92 -/
def slices_SortFunc_int_int_impl_ChildrenOf_1.key (lt : List S50) (x : Int) : Int := (rd_T50 lt x).f1
def slices_SortFunc_int_int_impl_ChildrenOf_1.f (l0 : List Int) (lt : List S50) : Option (List Int) := if (decide (l0.length ≤ 12) && (l0.all (fun x => decide (0 ≤ x ∧ x < (lt.length : Int) ∧ 0 ≤ slices_SortFunc_int_int_impl_ChildrenOf_1.key lt x ∧ slices_SortFunc_int_int_impl_ChildrenOf_1.key lt x ≤ 3)) && decide ((l0.map (slices_SortFunc_int_int_impl_ChildrenOf_1.key lt)).Nodup))) = true then some (l0.filter (fun x => decide (slices_SortFunc_int_int_impl_ChildrenOf_1.key lt x = 0)) ++ (l0.filter (fun x => decide (slices_SortFunc_int_int_impl_ChildrenOf_1.key lt x = 1)) ++ (l0.filter (fun x => decide (slices_SortFunc_int_int_impl_ChildrenOf_1.key lt x = 2)) ++ l0.filter (fun x => decide (slices_SortFunc_int_int_impl_ChildrenOf_1.key lt x = 3))))) else none
theorem slices_SortFunc_int_int_impl_ChildrenOf_1.calls (P0_ : Nat → Prop) (u9000_ : Value) (l0 : List Int) (gt : Nat) (At : Option Addr) (ct : Nat) (lt : List S50) (r : List Int) (w0 w : World) (hB : Below w0.heap.size w0 w) (ho0 : Kd.R (Kd.int .i64) 3 w w0.heap.size P0_ u9000_ l0)
  (hrt : ∀ W_, Kept w W_ (fun k_ => P0_ k_) → Kd.C k50 W_ At lt.length lt) (hct : lt.length ≤ ct) (hbt : w.heap[gt]? = some (.cells #[.slice At lt.length ct] 29 (0, 0))) (hnb : ¬ P0_ gt) (h : slices_SortFunc_int_int_impl_ChildrenOf_1.f l0 lt = some r) :
  Calls Try.prog 91 #[u9000_, .func (.func 92) #[] #[.pointer (some ⟨gt, 0, none⟩)]] w fun e w' => e = .returned (.tuple #[]) ∧ Kd.R (Kd.int .i64) 3 w' w0.heap.size (fun k_ => (P0_ k_ ∨ w.heap.size ≤ k_)) u9000_ r ∧ Below w0.heap.size w0 w' ∧ Kept w w' (fun k_ => P0_ k_) := by
 unfold slices_SortFunc_int_int_impl_ChildrenOf_1.f at h
 split at h
 next hs =>
  injection h with h; subst h; simp only [Bool.and_eq_true, decide_eq_true_eq, List.all_eq_true] at hs; obtain ⟨h12, hin, hnd⟩ := hs
  have hcf : ∀ x y, (0 ≤ x ∧ x < (lt.length : Int)) → (0 ≤ y ∧ y < (lt.length : Int)) → impl_ChildrenOf_1.f x y lt = some (if slices_SortFunc_int_int_impl_ChildrenOf_1.key lt x < slices_SortFunc_int_int_impl_ChildrenOf_1.key lt y then -1 else if slices_SortFunc_int_int_impl_ChildrenOf_1.key lt x > slices_SortFunc_int_int_impl_ChildrenOf_1.key lt y then 1 else 0) := by
   intro x y hx hy
   unfold impl_ChildrenOf_1.f cmp_Compare_int.f cmp_isNaN_int.f slices_SortFunc_int_int_impl_ChildrenOf_1.key
   rw [if_pos hx.1, if_pos hx.2, if_pos hy.1, if_pos hy.2]; generalize (rd_T50 lt x).f1 = a; generalize (rd_T50 lt y).f1 = b; simp only [bne_self_eq_false, Option.bind_some, Bool.false_eq_true, if_false]
   by_cases h1 : a < b
   ·simp [h1]
   ·by_cases h2 : a > b
    ·simp [h1, h2]
    ·simp [h1, h2]
  have hneg : ∀ x y, (0 ≤ x ∧ x < (lt.length : Int)) → (0 ≤ y ∧ y < (lt.length : Int)) → ((impl_ChildrenOf_1.f x y lt).getD 0 < 0 ↔ slices_SortFunc_int_int_impl_ChildrenOf_1.key lt x < slices_SortFunc_int_int_impl_ChildrenOf_1.key lt y) := by
   intro x y hx hy; rw [hcf x y hx hy]; simp only [Option.getD_some]
   split
   ·omega
   ·split <;> omega
  have hc := Fns.sort_int (fun x => 0 ≤ x ∧ x < (lt.length : Int)) (fun x y => (impl_ChildrenOf_1.f x y lt).getD 0) ⟨fun x => by rw [decide_eq_false_iff_not, hneg _ _ x.2 x.2]; omega, fun x y z h1 h2 => by rw [decide_eq_true_iff, hneg _ _ x.2 y.2] at h1; rw [decide_eq_true_iff, hneg _ _ y.2 z.2] at h2; rw [decide_eq_true_iff, hneg _ _ x.2 z.2]; omega, fun x y z h1 h2 => by rw [decide_eq_false_iff_not, hneg _ _ x.2 y.2] at h1; rw [decide_eq_false_iff_not, hneg _ _ y.2 z.2] at h2; rw [decide_eq_false_iff_not, hneg _ _ x.2 z.2]; omega⟩ 92 #[.pointer (some ⟨gt, 0, none⟩)] P0_ u9000_ l0 w0 w hB ho0 h12 (fun x hx => ⟨(hin x hx).1, (hin x hx).2.1⟩) (enters_of Try.func92 (by kernel_rfl) rfl)
   (fun W hW x y hx hy => by
    (have hf : impl_ChildrenOf_1.f x y lt = some ((impl_ChildrenOf_1.f x y lt).getD 0) := by rw [hcf x y hx hy]; rfl); refine (impl_ChildrenOf_1.calls x y gt At ct lt _ W (hrt W hW) hct (blk_kept hbt hW hnb) hf).mono ?_; rintro e w' ⟨rfl, ⟨q, rfl⟩⟩; exact ⟨rfl, q, rfl⟩)
  refine hc.mono ?_; rintro e w' ⟨rfl, l', hp, hsd, hR, hBl, hK⟩; (have hmem : ∀ x ∈ l', 0 ≤ x ∧ x < (lt.length : Int) := fun x hx => by have := hin x (hp.subset hx); exact ⟨this.1, this.2.1⟩); have hsd' : l'.Pairwise (fun x y => ¬ slices_SortFunc_int_int_impl_ChildrenOf_1.key lt y < slices_SortFunc_int_int_impl_ChildrenOf_1.key lt x) := List.Pairwise.imp_of_mem (fun {x y} hx hy hh => by rw [hneg y x (hmem y hy) (hmem x hx)] at hh; exact hh) hsd; rw [Fns.buckets_eq (slices_SortFunc_int_int_impl_ChildrenOf_1.key lt) l0 l' (fun x hx => ⟨(hin x hx).2.2.1, (hin x hx).2.2.2⟩) hnd hp hsd'] at hR; exact ⟨rfl, R_mono hR (fun k hk => .inl hk), hBl, hK⟩
 next => cases h

/-! ### impl_ChildrenOf: function 39 -/
def impl_ChildrenOf.l0 : Nat → Int → List Int → List (S50) → Int → Int → List (S50) → Option (List Int)
 | 0, _, _, _, _, _, _ => none
 | k + 1, x1, x5, x14, x15, x16, x218000 => if x16 < x15 then (if 0 ≤ x16 then (if x16 < (x14.length : Int) then (if ((rd_T50 x14 x16).f0) = x1 then (if x5.length < 17592186044416 then (impl_ChildrenOf.l0 k x1 (x5 ++ [x16]) x14 x15 (wrap64 (x16 + 1)) x218000) else (none)) else (impl_ChildrenOf.l0 k x1 x5 x14 x15 (wrap64 (x16 + 1)) x218000)) else (none)) else (none)) else ((slices_SortFunc_int_int_impl_ChildrenOf_1.f x5 x218000).bind fun t227 => (some t227))
def impl_ChildrenOf.f (k : Nat) (l0 : List (S50)) (a1 : Int) : Option (List Int) := (some (([] : List Int) : List Int)).bind fun y218 => ((impl_isNode.f k l0 a1).bind fun t221 => (if t221 = true then (impl_ChildrenOf.l0 k a1 y218 l0 (l0.length : Int) 0 l0) else (some y218)))
set_option maxHeartbeats 8000000 in
set_option maxRecDepth 100000 in
theorem impl_ChildrenOf.calls (k : Nat) (A0 : Option Addr) (c0 : Nat) (l0 : List (S50)) (a1 : Int) (r : List Int) (w : World) (hr0 : Kd.C k50 w A0 l0.length l0) (hc0 : l0.length ≤ c0) (h : impl_ChildrenOf.f k l0 a1 = some r) :
  Calls Try.prog 39 #[.slice A0 l0.length c0, .int .i64 a1] w fun e w' => ∃ v0_ : Value, e = .returned (v0_) ∧ Kd.R (Kd.int .i64) 3 w' w.heap.size (fun _ => True) v0_ r ∧ Below w.heap.size w w' := by
 have hu50 := Try.underlying50; have HR0 := Aside0.mk hr0; have HC0 := Aside0.mk hc0; clear hr0 hc0; have HB := Aside0.mk (Below.refl w.heap.size w); have H : ((some (([] : List Int) : List Int)).bind fun y218 => ((impl_isNode.f k l0 a1).bind fun t221 => (if t221 = true then (impl_ChildrenOf.l0 k a1 y218 l0 (l0.length : Int) 0 l0) else (some y218)))) = some r := h; clear h
 obtain ⟨y218, hy218⟩ : ∃ y_ : List Int, y_ = (([] : List Int)) := ⟨_, rfl⟩
 (replace H : ((impl_isNode.f k l0 a1).bind fun t221 => (if t221 = true then (impl_ChildrenOf.l0 k a1 y218 l0 (l0.length : Int) 0 l0) else (some y218))) = some r := by first | (rw [hy218]; with_reducible exact H) | (have H2_ := bs_ H; rw [hy218]; with_reducible exact H2_) | (have H2_ := bs_ H; with_reducible exact H2_) | with_reducible exact H | (rw [hy218]; exact H) | exact H); have Ny218 := Aside0.mk hy218; clear hy218; replace H := Option.bind_eq_some_iff.mp H; obtain ⟨t221, A30, H⟩ := H; replace H : (if t221 = true then (impl_ChildrenOf.l0 k a1 y218 l0 (l0.length : Int) 0 l0) else (some y218)) = some r := H; have A3 := Aside0.mk A30; clear A30
 by_cases c4 : t221 = true
 ·subst c4
  (have H1 : (impl_ChildrenOf.l0 k a1 y218 l0 (l0.length : Int) 0 l0) = some r := by rw [if_pos rfl] at H; exact H); clear H; have H := H1; clear H1; have H' := Aside0.mk H; clear H; go_enter Try.func39, Try.ntmps39; go_wp2_with (first | ((with_reducible refine gate_dst (N := 2) rfl ?_); refine box_event ?hg (N := 2) ?hd (cs := #[.slice A0 l0.length c0]) (t := 29) ?hr ?_; (case hd => rfl); (case hg => rfl); (case hr => exact hr_); intro gb217 hg w5 hbox hb; have t_ := fc4 (below_step bb hb) (hbox) (bg hg : w.heap.size ≤ gb217) (bg hg : w.heap.size ≤ gb217); clear HB; obtain ⟨HB, BK217, GW217, GE217⟩ := t_; clear hb hbox hg) | ((with_reducible refine gate_dst (N := 8) rfl ?_); refine Kd.R_lit (Kd.int .i64) _ 3 ?hg (N := 8) ?hd (xs := ([] : List Int)) (inner := []) (ok := fun _ => True) (okp := fun _ => True) ?hr ?hp (fun _ hk => hk) trivial (Below.refl _ _) (Nat.le_refl _) (by simp) ?_; (case hd => rfl); (case hg => rfl); (case hr => exact hr_); (case hp => exact (Reps.none _ _)); intro v219 w6 ho7 hb hg_ hnew_; clear hg_ hnew_; (first | rw [← Ny218.out] at ho7 | (simp only [Int.reduceToNat] at ho7; rw [← Ny218.out] at ho7)); have t_ := fc3 (R_lower ho7 (below_size bb)) (bw BK217 hb) (below_step bb hb); clear BK217 HB; obtain ⟨HO220, BK217, HB⟩ := t_; clear hb ho7; obtain ⟨hcz8_0, hfz8_0⟩ := bx1 BK217.out) | ((with_reducible refine gate_callee (f := 90) rfl ?_); refine goesL_ (some 11) rfl rfl Try.func90 (by kernel_rfl) rfl #[.slice A0 l0.length c0, .int .i64 a1] rfl ms ?_; (with_reducible refine (impl_isNode.calls k _ _ l0 a1 true _ ?side1 ?side2 A3.out).mono ?_); (case side1 => exact kc); (case side2 => exact HC0.out); rintro e w9 ⟨rfl, hb⟩; refine ⟨_, rfl, ?_⟩; have t_ := fc3 (R_below (ra HO220.out) hb) (bw BK217 hb) (below_step bb hb); clear HO220 BK217 HB; obtain ⟨HO220, BK217, HB⟩ := t_; (try clear hb); obtain ⟨hcz10_0, hfz10_0⟩ := bx1 BK217.out))
  go_loopg [5, 16] k (fun kq v5 v16 w' => ∃ (x5_1 : List Int) (x16_1 : Int), v16 = .int .i64 x16_1 ∧ Aside0 (impl_ChildrenOf.l0 kq a1 x5_1 l0 (l0.length : Int) x16_1 l0 = some r) ∧ Aside0 (kq ≤ k) ∧ Aside0 (Kd.R (Kd.int .i64) 3 w' w.heap.size (fun _ => True) v5 x5_1) ∧ Aside0 (w'.heap[gb217]? = some (.cells #[(.slice A0 l0.length c0)] 29 (0, 0))) ∧ Aside0 (Below w.heap.size w w'))
  case atStart => exact ⟨(y218), (0), sd_, H', ⟨Nat.le_refl _⟩, ⟨(ra HO220.out)⟩, ⟨by exact bk⟩, ⟨bb⟩⟩
  case round =>
   clear H'; (try clear p2); (try clear c3); (try clear c4); (try clear c9); (try clear hcz10_0); (try clear hcz8_0); (try clear hfz10_0); (try clear hfz8_0); obtain ⟨x5_1, x16_1, rfl, HA, HK1, HO_5, BK217, HB⟩ := hrel
   cases gk with
   | zero => exact absurd HA.out (by simp [impl_ChildrenOf.l0])
   | succ k1 =>
    have H := HA.out; clear HA; simp only [impl_ChildrenOf.l0] at H
    by_cases c11 : x16_1 < (l0.length : Int)
    ·rw [if_pos c11] at H
     have c11b0 : decide (x16_1 < (l0.length : Int)) = true := decide_eq_true c11; clear c11
     by_cases c12 : 0 ≤ x16_1
     ·rw [if_pos c12] at H
      have c12b0 : decide (0 ≤ x16_1) = true := decide_eq_true c12; clear c12
      by_cases c13 : x16_1 < (l0.length : Int)
      ·rw [if_pos c13] at H
       have c13b0 : decide (x16_1 < (l0.length : Int)) = true := decide_eq_true c13; clear c13
       by_cases c14 : ((rd_T50 l0 x16_1).f0) = a1
       ·rw [if_pos c14] at H
        have c14b0 : (((rd_T50 l0 x16_1).f0) == a1) = true := beq_iff_eq.mpr c14; have c14b1 : (((rd_T50 l0 x16_1).f0) != a1) = false := bne_eq_false_iff_eq.mpr c14; clear c14
        by_cases c15 : x5_1.length < 17592186044416
        ·rw [if_pos c15] at H
         have LMc15 := Aside0.mk c15; clear c15
         obtain ⟨y224, hy224⟩ : ∃ y_ : List Int, y_ = (x5_1 ++ [x16_1]) := ⟨_, rfl⟩
         (replace H : (impl_ChildrenOf.l0 k1 a1 y224 l0 (l0.length : Int) (wrap64 (x16_1 + 1)) l0) = some r := by first | (rw [hy224]; with_reducible exact H) | (have H2_ := bs_ H; rw [hy224]; with_reducible exact H2_) | (have H2_ := bs_ H; with_reducible exact H2_) | with_reducible exact H | (rw [hy224]; exact H) | exact H); have Ny224 := Aside0.mk hy224; clear hy224; have H' := Aside0.mk H; clear H; have p222 : 0 ≤ (x16_1 : Int) := of_decide_eq_true as_; have q222 : x16_1 < (l0.length : Int) := of_decide_eq_true as_; obtain ⟨ad222, e222, hx222_0, hx222_1, hx222_2⟩ := at_T50 HR0.out x16_1 p222 q222; cases e222; replace hx222_0 := pw_cell_below HB.out hx222_0; replace hx222_1 := pw_cell_below HB.out hx222_1; replace hx222_2 := pw_cell_below HB.out hx222_2; replace p222 := eq_true p222; replace q222 := eq_true q222; go_wp2_with (first | ((with_reducible refine gate_dst (N := 7) rfl ?_); refine box_event ?hg (N := 7) ?hd (cs := #[.int .i64 0, .int .i64 0, .int .i64 0]) (t := 50) ?hr ?_; (case hd => rfl); (case hg => rfl); (case hr => exact hr_); intro gb223 hg w16 hbox hb; have t_ := fc8 (R_below (ra HO_5.out) hb) (bw BK217 hb) (below_step bb hb) (hbox) (bg hg : w.heap.size ≤ gb223) (bg hg : w.heap.size ≤ gb223) ((nl BK217 hg : gb217 ≠ gb223)) ((ng BK217 hg : gb223 ≠ gb217)); clear HO_5 BK217 HB; obtain ⟨HO_5, BK217, HB, BK223, GW223, GE223, NB217_223, NB223_217⟩ := t_; clear hb hbox hg; have hnb17 := NB223_217.out; have hnc17 := NB217_223.out; obtain ⟨hcz18_0, hcz18_1, hcz18_2, hfz18_0, hfz18_1, hfz18_2⟩ := bx3 BK223.out) | ((with_reducible refine gate_builtin (b := .append) (xs := #[.tmp 25, .tmp 27]) rfl ?_); at_builtin; refine R_append (Kd.int .i64) (w0 := w) w.heap.size rfl (.tmp 25) (.tmp 27) 23 3 (.int .i64 0) 8 rfl Try.underlying23 info3 rfl (by decide) (by omega) u5 x5_1 x16_1 [.int .i64 x16_1] (fun _ => True) (fun _ => False) rfl (by first | (go_simp; done) | (go_simp; rfl)) ?aP (fun _ hk => hk.elim) ?aF ?aO ?aB ?aS ?aL ?_; (case aP => exact rfl); (case aB => exact bb); (case aF => exact (fun _ _ => trivial)); (case aO => exact (ra (R_mono (rf3 HO_5 BK223 (.int .i64 ((rd_T50 l0 x16_1).f0)) (.int .i64 ((rd_T50 l0 x16_1).f1)) (.int .i64 ((rd_T50 l0 x16_1).f2))) (fun _ hk => trivial)))); (case aS => exact (below_size bb)); (case aL => have := LMc15.out; omega); intro v225 w19 ho hb hg hat; rw [← Ny224.out] at ho; have t_ := fc4 (blk_grown (g := gb217) (o := .cells #[.slice (some ad222) l0.length c0] 29 (0, 0)) (by (with_reducible repeat (first | refine blk_drewN ?_ _ | refine blk_drew ?_ | refine blk_alloc ?_ _)); refine blk_far ?_ NB217_223.out _; (with_reducible repeat (first | refine blk_drewN ?_ _ | refine blk_drew ?_ | refine blk_alloc ?_ _)); refine blk_far ?_ NB217_223.out _; (with_reducible repeat (first | refine blk_drewN ?_ _ | refine blk_drew ?_ | refine blk_alloc ?_ _)); refine blk_far ?_ NB217_223.out _; exact bk) hg (R_ne HO_5.out BK217.out (by decide))) (blk_grown (g := gb223) (o := .cells #[.int .i64 ((rd_T50 l0 x16_1).f0), .int .i64 ((rd_T50 l0 x16_1).f1), .int .i64 ((rd_T50 l0 x16_1).f2)] 50 (0, 0)) (by (with_reducible repeat (first | refine blk_drewN ?_ _ | refine blk_drew ?_ | refine blk_alloc ?_ _)); refine blk_put (cs := #[.int .i64 ((rd_T50 l0 x16_1).f0), .int .i64 ((rd_T50 l0 x16_1).f1), .int .i64 0]) ?_ 2 _ rfl; (with_reducible repeat (first | refine blk_drewN ?_ _ | refine blk_drew ?_ | refine blk_alloc ?_ _)); refine blk_put (cs := #[.int .i64 ((rd_T50 l0 x16_1).f0), .int .i64 0, .int .i64 0]) ?_ 1 _ rfl; (with_reducible repeat (first | refine blk_drewN ?_ _ | refine blk_drew ?_ | refine blk_alloc ?_ _)); refine blk_put (cs := #[.int .i64 0, .int .i64 0, .int .i64 0]) ?_ 0 _ rfl; exact bk) hg (R_ne HO_5.out BK223.out (by decide))) (hb) (ho); clear BK217 BK223 HB HO_5; obtain ⟨BK217, BK223, HB, HO226⟩ := t_; clear ho hb hg hat))
         go_roundg k1
         case measure => have := HK1.out; omega
         case rel => exact ⟨(y224), (wrap64 (x16_1 + 1)), sd_, H', ⟨by have := HK1.out; omega⟩, ⟨(ra HO226.out)⟩, ⟨by exact bk⟩, ⟨bb⟩⟩
        ·rw [if_neg c15] at H
         exact absurd H (by simp)
       ·rw [if_neg c14] at H
        have c14b0 : (((rd_T50 l0 x16_1).f0) == a1) = false := beq_eq_false_iff_ne.mpr c14; have c14b1 : (((rd_T50 l0 x16_1).f0) != a1) = true := bne_iff_ne.mpr c14; have H' := Aside0.mk H; clear H; have p222 : 0 ≤ (x16_1 : Int) := of_decide_eq_true as_; have q222 : x16_1 < (l0.length : Int) := of_decide_eq_true as_; obtain ⟨ad222, e222, hx222_0, hx222_1, hx222_2⟩ := at_T50 HR0.out x16_1 p222 q222; cases e222; replace hx222_0 := pw_cell_below HB.out hx222_0; replace hx222_1 := pw_cell_below HB.out hx222_1; replace hx222_2 := pw_cell_below HB.out hx222_2; replace p222 := eq_true p222; replace q222 := eq_true q222; go_wp2_with (first | ((with_reducible refine gate_dst (N := 7) rfl ?_); refine box_event ?hg (N := 7) ?hd (cs := #[.int .i64 0, .int .i64 0, .int .i64 0]) (t := 50) ?hr ?_; (case hd => rfl); (case hg => rfl); (case hr => exact hr_); intro gb223 hg w20 hbox hb; have t_ := fc8 (R_below (ra HO_5.out) hb) (bw BK217 hb) (below_step bb hb) (hbox) (bg hg : w.heap.size ≤ gb223) (bg hg : w.heap.size ≤ gb223) ((nl BK217 hg : gb217 ≠ gb223)) ((ng BK217 hg : gb223 ≠ gb217)); clear HO_5 BK217 HB; obtain ⟨HO_5, BK217, HB, BK223, GW223, GE223, NB217_223, NB223_217⟩ := t_; clear hb hbox hg; have hnb21 := NB223_217.out; have hnc21 := NB217_223.out; obtain ⟨hcz22_0, hcz22_1, hcz22_2, hfz22_0, hfz22_1, hfz22_2⟩ := bx3 BK223.out))
        go_roundg k1
        case measure => have := HK1.out; omega
        case rel => exact ⟨(x5_1), (wrap64 (x16_1 + 1)), sd_, H', ⟨by have := HK1.out; omega⟩, ⟨by (with_reducible repeat (first | apply R_alloc | apply R_drewN | apply R_drew)); exact R_mono (rf3 HO_5 BK223 (.int .i64 ((rd_T50 l0 x16_1).f0)) (.int .i64 ((rd_T50 l0 x16_1).f1)) (.int .i64 ((rd_T50 l0 x16_1).f2))) (fun _ hk => trivial)⟩, ⟨by (with_reducible repeat (first | refine blk_drewN ?_ _ | refine blk_drew ?_ | refine blk_alloc ?_ _)); refine blk_far ?_ NB217_223.out _; (with_reducible repeat (first | refine blk_drewN ?_ _ | refine blk_drew ?_ | refine blk_alloc ?_ _)); refine blk_far ?_ NB217_223.out _; (with_reducible repeat (first | refine blk_drewN ?_ _ | refine blk_drew ?_ | refine blk_alloc ?_ _)); refine blk_far ?_ NB217_223.out _; exact bk⟩, ⟨bb⟩⟩
      ·rw [if_neg c13] at H
       exact absurd H (by simp)
     ·rw [if_neg c12] at H
      exact absurd H (by simp)
    ·rw [if_neg c11] at H
     have c11b0 : decide (x16_1 < (l0.length : Int)) = false := decide_eq_false c11; clear c11; replace H := Option.bind_eq_some_iff.mp H; obtain ⟨t227, A230, H⟩ := H; replace H : (some t227) = some r := H; have A23 := Aside0.mk A230; clear A230; obtain rfl := Option.some.inj H; obtain ⟨Ao24, co24, eo24⟩ := R_slice HO_5.out; subst eo24; go_wp2_with (first | ((with_reducible refine gate_callee (f := 91) rfl ?_); refine goesL_ (some 32) rfl rfl Try.func91 (by kernel_rfl) rfl #[.slice Ao24 x5_1.length co24, .func (.func 92) #[] #[.pointer (some ⟨gb217, 0, none⟩)]] rfl ms ?_; (with_reducible refine (slices_SortFunc_int_int_impl_ChildrenOf_1.calls (fun k_ => some k_ = (.slice Ao24 x5_1.length co24 : Value).ownBlock) (.slice Ao24 x5_1.length co24) x5_1 gb217 A0 c0 l0 t227 w _ ?side1 ?side2 ?side3 ?side4 ?side5 ?side6 A23.out).mono ?_); (case side1 => exact bb); (case side2 => exact Kd.R_tight rfl HO_5.out); (case side3 => exact Kd.C_kept_came k50_heap HR0.out bb (fun k_ hs_ => (fun e_ => R_base HO_5.out k_ e_.symm) hs_)); (case side4 => exact HC0.out); (case side5 => exact bk); (case side6 => exact fun hs_ => (fun e_ => (R_ne HO_5.out BK217.out (by decide)) e_) hs_); rintro e w25 ⟨rfl, hy0, hb, hkp⟩; refine ⟨_, rfl, ?_⟩; have t_ := fc3 (Kd.R_reok rfl hy0 (fun k_ e_ => HO_5.out.1 k_ e_)) (blk_kept bk hkp (fun hs_ => (fun e_ => (R_ne HO_5.out BK217.out (by decide)) e_) hs_)) (hb); clear HO_5 BK217 HB; obtain ⟨HO_5, BK217, HB⟩ := t_; (try clear hb); (try clear hkp); (try clear hy0))); go_ret; exact ⟨_, er, (ra HO_5.out), bb⟩
 ·replace c4 := Bool.eq_false_iff.mpr c4
  subst c4; (have H1 : (some y218) = some r := by rw [if_neg (show ¬ (false = true) by decide)] at H; exact H); clear H; have H := H1; clear H1; obtain rfl := Option.some.inj H; go_enter Try.func39, Try.ntmps39; go_wp2_with (first | ((with_reducible refine gate_dst (N := 2) rfl ?_); refine box_event ?hg (N := 2) ?hd (cs := #[.slice A0 l0.length c0]) (t := 29) ?hr ?_; (case hd => rfl); (case hg => rfl); (case hr => exact hr_); intro gb217 hg w26 hbox hb; have t_ := fc4 (below_step bb hb) (hbox) (bg hg : w.heap.size ≤ gb217) (bg hg : w.heap.size ≤ gb217); clear HB; obtain ⟨HB, BK217, GW217, GE217⟩ := t_; clear hb hbox hg) | ((with_reducible refine gate_dst (N := 8) rfl ?_); refine Kd.R_lit (Kd.int .i64) _ 3 ?hg (N := 8) ?hd (xs := ([] : List Int)) (inner := []) (ok := fun _ => True) (okp := fun _ => True) ?hr ?hp (fun _ hk => hk) trivial (Below.refl _ _) (Nat.le_refl _) (by simp) ?_; (case hd => rfl); (case hg => rfl); (case hr => exact hr_); (case hp => exact (Reps.none _ _)); intro v219 w27 ho28 hb hg_ hnew_; clear hg_ hnew_; (first | rw [← Ny218.out] at ho28 | (simp only [Int.reduceToNat] at ho28; rw [← Ny218.out] at ho28)); have t_ := fc3 (R_lower ho28 (below_size bb)) (bw BK217 hb) (below_step bb hb); clear BK217 HB; obtain ⟨HO220, BK217, HB⟩ := t_; clear hb ho28; obtain ⟨hcz29_0, hfz29_0⟩ := bx1 BK217.out) | ((with_reducible refine gate_callee (f := 90) rfl ?_); refine goesL_ (some 11) rfl rfl Try.func90 (by kernel_rfl) rfl #[.slice A0 l0.length c0, .int .i64 a1] rfl ms ?_; (with_reducible refine (impl_isNode.calls k _ _ l0 a1 false _ ?side1 ?side2 A3.out).mono ?_); (case side1 => exact kc); (case side2 => exact HC0.out); rintro e w30 ⟨rfl, hb⟩; refine ⟨_, rfl, ?_⟩; have t_ := fc3 (R_below (ra HO220.out) hb) (bw BK217 hb) (below_step bb hb); clear HO220 BK217 HB; obtain ⟨HO220, BK217, HB⟩ := t_; (try clear hb))); go_ret; exact ⟨_, er, (ra HO220.out), bb⟩

end Go.Proofs.Ytbbppknnkghkjaa.PFnExactAllocate
