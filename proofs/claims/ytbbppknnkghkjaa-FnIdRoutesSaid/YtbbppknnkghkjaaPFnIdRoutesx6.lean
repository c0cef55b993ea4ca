/- Printed by a program of this session out of the translation: each Go function as a Lean function, with the proof that Go comes to just its answer (no condition beyond what each theorem says). (squeezed) -/
import Derived.Test.YtbbppknnkghkjaaPFnIdRoutesx0
import Derived.Test.YtbbppknnkghkjaaPFnIdRoutesx2
import Derived.Test.YtbbppknnkghkjaaPFnIdRoutesx3
import Derived.Test.YtbbppknnkghkjaaPFnIdRoutesx5
namespace Go.Proofs.Ytbbppknnkghkjaa.PFnIdRoutes
open Go.RowKit Go.Proofs.YtbbppknnkghkjaaW.PrintWords Go.Proofs.YtbbppknnkghkjaaW.PrintLast Go.Proofs.YtbbppknnkghkjaaW.PrintMore Go.Proofs.Ytbbppknnkghkjaa.Kit Go.Proofs.Ytbbppknnkghkjaa.Kit2
attribute [local go_sem] max2_int min2_int max_two min_two max_three min_three max_four min_four   -- for this text's walks alone
set_option linter.unusedVariables false
set_option linter.unusedSimpArgs false

/-! ### impl_DownToId_1: function 79 -/
def impl_DownToId_1.f (a0 : Int) (a1_0 : Bool) (l2_0 : List (S50)) (a3_0 : Int) (l4_0 : List Int) (l4_1 : List Int) (l4_2 : List Int) (a5_0 : Int) : Option (Bool) := if a1_0 = true then (if 0 ≤ a0 then (if a0 < (l2_0.length : Int) then ((impl_DeviceOf.f a3_0).bind fun t200 => (some (((rd_T50 l2_0 a0).f1) == t200))) else (none)) else (none)) else ((impl_isBridge.f l2_0 a0).bind fun t201 => (if t201 = true then ((impl_IsUnder.f l4_0 l4_1 l4_2 a0 a5_0).bind fun t202 => (some t202)) else (some false)))
set_option maxHeartbeats 8000000 in
set_option maxRecDepth 100000 in
theorem impl_DownToId_1.calls (a0 : Int) (gc1 : Nat) (a1_0 : Bool) (gc2 : Nat) (A2_0 : Option Addr) (c2_0 : Nat) (l2_0 : List (S50)) (gc3 : Nat) (a3_0 : Int) (gc4 : Nat) (A4_0 : Option Addr) (c4_0 : Nat) (l4_0 : List Int) (A4_1 : Option Addr) (c4_1 : Nat) (l4_1 : List Int) (A4_2 : Option Addr) (c4_2 : Nat) (l4_2 : List Int) (gc5 : Nat) (a5_0 : Int) (r : Bool) (w : World) (hr2_0 : Kd.C k50 w A2_0 l2_0.length l2_0) (hc2_0 : l2_0.length ≤ c2_0) (hr4_0 : Kd.C (Kd.int .i64) w A4_0 l4_0.length l4_0) (hc4_0 : l4_0.length ≤ c4_0) (hr4_1 : Kd.C (Kd.int .i64) w A4_1 l4_1.length l4_1) (hc4_1 : l4_1.length ≤ c4_1) (hr4_2 : Kd.C (Kd.int .i64) w A4_2 l4_2.length l4_2) (hc4_2 : l4_2.length ≤ c4_2) (hbx1 : w.heap[gc1]? = some (.cells #[.bool a1_0] 4 (0, 0))) (hbx2 : w.heap[gc2]? = some (.cells #[.slice A2_0 l2_0.length c2_0] 29 (0, 0))) (hbx3 : w.heap[gc3]? = some (.cells #[.int .i64 a3_0] 3 (0, 0))) (hbx4 : w.heap[gc4]? = some (.cells #[.slice A4_0 l4_0.length c4_0, .slice A4_1 l4_1.length c4_1, .slice A4_2 l4_2.length c4_2] 31 (0, 0))) (hbx5 : w.heap[gc5]? = some (.cells #[.int .i64 a5_0] 3 (0, 0))) (hnx1_2 : gc1 ≠ gc2) (hnx1_3 : gc1 ≠ gc3) (hnx1_4 : gc1 ≠ gc4) (hnx1_5 : gc1 ≠ gc5) (hnx2_3 : gc2 ≠ gc3) (hnx2_4 : gc2 ≠ gc4) (hnx2_5 : gc2 ≠ gc5) (hnx3_4 : gc3 ≠ gc4) (hnx3_5 : gc3 ≠ gc5) (hnx4_5 : gc4 ≠ gc5) (h : impl_DownToId_1.f a0 a1_0 l2_0 a3_0 l4_0 l4_1 l4_2 a5_0 = some r) :
  Calls Try.prog 79 #[.int .i64 a0, .pointer (some ⟨gc1, 0, none⟩), .pointer (some ⟨gc2, 0, none⟩), .pointer (some ⟨gc3, 0, none⟩), .pointer (some ⟨gc4, 0, none⟩), .pointer (some ⟨gc5, 0, none⟩)] w fun e w' => e = .returned (.bool r) ∧ Below w.heap.size w w' := by
 have hu31 := Try.underlying31
 have HR2_0 := Aside0.mk hr2_0
 have HC2_0 := Aside0.mk hc2_0
 clear hr2_0 hc2_0
 have HR4_0 := Aside0.mk hr4_0
 have HC4_0 := Aside0.mk hc4_0
 clear hr4_0 hc4_0
 have HR4_1 := Aside0.mk hr4_1
 have HC4_1 := Aside0.mk hc4_1
 clear hr4_1 hc4_1
 have HR4_2 := Aside0.mk hr4_2
 have HC4_2 := Aside0.mk hc4_2
 clear hr4_2 hc4_2
 have BK1 := Aside0.mk hbx1
 clear hbx1
 have NB1_2 := Aside0.mk hnx1_2
 have NB2_1 := Aside0.mk (Ne.symm hnx1_2)
 clear hnx1_2
 have NB1_3 := Aside0.mk hnx1_3
 have NB3_1 := Aside0.mk (Ne.symm hnx1_3)
 clear hnx1_3
 have NB1_4 := Aside0.mk hnx1_4
 have NB4_1 := Aside0.mk (Ne.symm hnx1_4)
 clear hnx1_4
 have NB1_5 := Aside0.mk hnx1_5
 have NB5_1 := Aside0.mk (Ne.symm hnx1_5)
 clear hnx1_5
 have BK2 := Aside0.mk hbx2
 clear hbx2
 have NB2_3 := Aside0.mk hnx2_3
 have NB3_2 := Aside0.mk (Ne.symm hnx2_3)
 clear hnx2_3
 have NB2_4 := Aside0.mk hnx2_4
 have NB4_2 := Aside0.mk (Ne.symm hnx2_4)
 clear hnx2_4
 have NB2_5 := Aside0.mk hnx2_5
 have NB5_2 := Aside0.mk (Ne.symm hnx2_5)
 clear hnx2_5
 have BK3 := Aside0.mk hbx3
 clear hbx3
 have NB3_4 := Aside0.mk hnx3_4
 have NB4_3 := Aside0.mk (Ne.symm hnx3_4)
 clear hnx3_4
 have NB3_5 := Aside0.mk hnx3_5
 have NB5_3 := Aside0.mk (Ne.symm hnx3_5)
 clear hnx3_5
 have BK4 := Aside0.mk hbx4
 clear hbx4
 have NB4_5 := Aside0.mk hnx4_5
 have NB5_4 := Aside0.mk (Ne.symm hnx4_5)
 clear hnx4_5
 have BK5 := Aside0.mk hbx5
 clear hbx5
 have HB := Aside0.mk (Below.refl w.heap.size w)
 have H : (if a1_0 = true then (if 0 ≤ a0 then (if a0 < (l2_0.length : Int) then ((impl_DeviceOf.f a3_0).bind fun t200 => (some (((rd_T50 l2_0 a0).f1) == t200))) else (none)) else (none)) else ((impl_isBridge.f l2_0 a0).bind fun t201 => (if t201 = true then ((impl_IsUnder.f l4_0 l4_1 l4_2 a0 a5_0).bind fun t202 => (some t202)) else (some false)))) = some r := h
 clear h
 by_cases c7 : a1_0 = true
 ·subst c7
  have H1 : (if 0 ≤ a0 then (if a0 < (l2_0.length : Int) then ((impl_DeviceOf.f a3_0).bind fun t200 => (some (((rd_T50 l2_0 a0).f1) == t200))) else (none)) else (none)) = some r := by rw [if_pos rfl] at H; exact H
  clear H
  have H := H1
  clear H1
  by_cases c8 : 0 ≤ a0
  ·rw [if_pos c8] at H
   have c8b0 : decide (0 ≤ a0) = true := decide_eq_true c8
   clear c8
   by_cases c9 : a0 < (l2_0.length : Int)
   ·rw [if_pos c9] at H
    have c9b0 : decide (a0 < (l2_0.length : Int)) = true := decide_eq_true c9
    clear c9
    replace H := Option.bind_eq_some_iff.mp H
    obtain ⟨t200, A100, H⟩ := H
    replace H : (some (((rd_T50 l2_0 a0).f1) == t200)) = some r := H
    have A10 := Aside0.mk A100
    clear A100
    obtain rfl := Option.some.inj H
    have hnb11 := NB1_2.out
    have hnc11 := NB2_1.out
    have hnb12 := NB1_3.out
    have hnc12 := NB3_1.out
    have hnb13 := NB1_4.out
    have hnc13 := NB4_1.out
    have hnb14 := NB1_5.out
    have hnc14 := NB5_1.out
    obtain ⟨hcz15_0, hfz15_0⟩ := bx1 BK1.out
    have hnb16 := NB2_3.out
    have hnc16 := NB3_2.out
    have hnb17 := NB2_4.out
    have hnc17 := NB4_2.out
    have hnb18 := NB2_5.out
    have hnc18 := NB5_2.out
    obtain ⟨hcz19_0, hfz19_0⟩ := bx1 BK2.out
    have p199 : 0 ≤ (a0 : Int) := of_decide_eq_true as_
    have q199 : a0 < (l2_0.length : Int) := of_decide_eq_true as_
    obtain ⟨ad199, e199, hx199_0, hx199_1, hx199_2⟩ := at_T50 HR2_0.out a0 p199 q199
    cases e199
    replace p199 := eq_true p199
    replace q199 := eq_true q199
    have hnb20 := NB3_4.out
    have hnc20 := NB4_3.out
    have hnb21 := NB3_5.out
    have hnc21 := NB5_3.out
    obtain ⟨hcz22_0, hfz22_0⟩ := bx1 BK3.out
    go_enter Try.func79, Try.ntmps79
    go_wp2_with (first | (go_at_call 80; (with_reducible refine (impl_DeviceOf.calls a3_0 t200 _ A10.out).mono ?_); rintro e w' ⟨rfl, ⟨nd, rfl⟩⟩; (try first | exact ⟨rfl, _, World.drewN_drewN _ _ _⟩ | exact ⟨rfl, _, Eq.trans (World.drewN_drewN _ _ _) (congrArg (World.drewN _) (Nat.add_assoc _ _ _))⟩)))
    repeat (go_quiet (first | (go_at_call 80; (with_reducible refine (impl_DeviceOf.calls a3_0 t200 _ A10.out).mono ?_); rintro e w' ⟨rfl, ⟨nd, rfl⟩⟩; (try first | exact ⟨rfl, _, World.drewN_drewN _ _ _⟩ | exact ⟨rfl, _, Eq.trans (World.drewN_drewN _ _ _) (congrArg (World.drewN _) (Nat.add_assoc _ _ _))⟩))); try go_wp2_with (first | (go_at_call 80; (with_reducible refine (impl_DeviceOf.calls a3_0 t200 _ A10.out).mono ?_); rintro e w' ⟨rfl, ⟨nd, rfl⟩⟩; (try first | exact ⟨rfl, _, World.drewN_drewN _ _ _⟩ | exact ⟨rfl, _, Eq.trans (World.drewN_drewN _ _ _) (congrArg (World.drewN _) (Nat.add_assoc _ _ _))⟩))))
    go_ret
    exact ⟨er, bb⟩
   ·rw [if_neg c9] at H
    exact absurd H (by simp)
  ·rw [if_neg c8] at H
   exact absurd H (by simp)
 ·replace c7 := Bool.eq_false_iff.mpr c7
  subst c7
  have H1 : ((impl_isBridge.f l2_0 a0).bind fun t201 => (if t201 = true then ((impl_IsUnder.f l4_0 l4_1 l4_2 a0 a5_0).bind fun t202 => (some t202)) else (some false))) = some r := by rw [if_neg (show ¬ (false = true) by decide)] at H; exact H
  clear H
  have H := H1
  clear H1
  replace H := Option.bind_eq_some_iff.mp H
  obtain ⟨t201, A230, H⟩ := H
  replace H : (if t201 = true then ((impl_IsUnder.f l4_0 l4_1 l4_2 a0 a5_0).bind fun t202 => (some t202)) else (some false)) = some r := H
  have A23 := Aside0.mk A230
  clear A230
  by_cases c24 : t201 = true
  ·subst c24
   have H1 : ((impl_IsUnder.f l4_0 l4_1 l4_2 a0 a5_0).bind fun t202 => (some t202)) = some r := by rw [if_pos rfl] at H; exact H
   clear H
   have H := H1
   clear H1
   replace H := Option.bind_eq_some_iff.mp H
   obtain ⟨t202, A250, H⟩ := H
   replace H : (some t202) = some r := H
   have A25 := Aside0.mk A250
   clear A250
   obtain rfl := Option.some.inj H
   have hnb26 := NB1_2.out
   have hnc26 := NB2_1.out
   have hnb27 := NB1_3.out
   have hnc27 := NB3_1.out
   have hnb28 := NB1_4.out
   have hnc28 := NB4_1.out
   have hnb29 := NB1_5.out
   have hnc29 := NB5_1.out
   obtain ⟨hcz30_0, hfz30_0⟩ := bx1 BK1.out
   have hnb31 := NB2_3.out
   have hnc31 := NB3_2.out
   have hnb32 := NB2_4.out
   have hnc32 := NB4_2.out
   have hnb33 := NB2_5.out
   have hnc33 := NB5_2.out
   obtain ⟨hcz34_0, hfz34_0⟩ := bx1 BK2.out
   go_enter Try.func79, Try.ntmps79
   go_wp2_with (first | (go_at_call 81; (with_reducible refine (impl_isBridge.calls _ _ l2_0 a0 true _ ?side1 ?side2 A23.out).mono ?_); (case side1 => repeat (first | exact HR2_0.out | (with_reducible refine Kd.C_alloc ?_ _) | (with_reducible refine Kd.C_drewN ?_ _) | (with_reducible refine Kd.C_drew ?_))); (case side2 => exact HC2_0.out); rintro e w' ⟨rfl, ⟨nd, rfl⟩⟩; (try first | exact ⟨rfl, _, World.drewN_drewN _ _ _⟩ | exact ⟨rfl, _, Eq.trans (World.drewN_drewN _ _ _) (congrArg (World.drewN _) (Nat.add_assoc _ _ _))⟩); have hnb35 := NB4_3.out; have hnc35 := NB3_4.out; have hnb36 := NB4_5.out; have hnc36 := NB5_4.out; obtain ⟨hcz37_0, hcz37_1, hcz37_2, hfz37_0, hfz37_1, hfz37_2⟩ := bx3 BK4.out; have hnb38 := NB5_3.out; have hnc38 := NB3_5.out; obtain ⟨hcz39_0, hfz39_0⟩ := bx1 BK5.out) | (go_at_call 43; (with_reducible refine (impl_IsUnder.calls _ _ l4_0 _ _ l4_1 _ _ l4_2 a0 a5_0 t202 _ ?side1 ?side2 ?side3 ?side4 ?side5 ?side6 A25.out).mono ?_); (case side1 => repeat (first | exact HR4_0.out | (with_reducible refine Kd.C_alloc ?_ _) | (with_reducible refine Kd.C_drewN ?_ _) | (with_reducible refine Kd.C_drew ?_))); (case side2 => exact HC4_0.out); (case side3 => repeat (first | exact HR4_1.out | (with_reducible refine Kd.C_alloc ?_ _) | (with_reducible refine Kd.C_drewN ?_ _) | (with_reducible refine Kd.C_drew ?_))); (case side4 => exact HC4_1.out); (case side5 => repeat (first | exact HR4_2.out | (with_reducible refine Kd.C_alloc ?_ _) | (with_reducible refine Kd.C_drewN ?_ _) | (with_reducible refine Kd.C_drew ?_))); (case side6 => exact HC4_2.out); rintro e w40 ⟨rfl, hb⟩; have t_ := fc6 (bw BK1 hb) (bw BK2 hb) (bw BK3 hb) (bw BK4 hb) (bw BK5 hb) (below_step bb hb); clear BK1 BK2 BK3 BK4 BK5 HB; obtain ⟨BK1, BK2, BK3, BK4, BK5, HB⟩ := t_; (try clear hb)))
   repeat (go_quiet (first | (go_at_call 81; (with_reducible refine (impl_isBridge.calls _ _ l2_0 a0 true _ ?side1 ?side2 A23.out).mono ?_); (case side1 => repeat (first | exact HR2_0.out | (with_reducible refine Kd.C_alloc ?_ _) | (with_reducible refine Kd.C_drewN ?_ _) | (with_reducible refine Kd.C_drew ?_))); (case side2 => exact HC2_0.out); rintro e w' ⟨rfl, ⟨nd, rfl⟩⟩; (try first | exact ⟨rfl, _, World.drewN_drewN _ _ _⟩ | exact ⟨rfl, _, Eq.trans (World.drewN_drewN _ _ _) (congrArg (World.drewN _) (Nat.add_assoc _ _ _))⟩); have hnb35 := NB4_3.out; have hnc35 := NB3_4.out; have hnb36 := NB4_5.out; have hnc36 := NB5_4.out; obtain ⟨hcz37_0, hcz37_1, hcz37_2, hfz37_0, hfz37_1, hfz37_2⟩ := bx3 BK4.out; have hnb38 := NB5_3.out; have hnc38 := NB3_5.out; obtain ⟨hcz39_0, hfz39_0⟩ := bx1 BK5.out) | (go_at_call 43; (with_reducible refine (impl_IsUnder.calls _ _ l4_0 _ _ l4_1 _ _ l4_2 a0 a5_0 t202 _ ?side1 ?side2 ?side3 ?side4 ?side5 ?side6 A25.out).mono ?_); (case side1 => repeat (first | exact HR4_0.out | (with_reducible refine Kd.C_alloc ?_ _) | (with_reducible refine Kd.C_drewN ?_ _) | (with_reducible refine Kd.C_drew ?_))); (case side2 => exact HC4_0.out); (case side3 => repeat (first | exact HR4_1.out | (with_reducible refine Kd.C_alloc ?_ _) | (with_reducible refine Kd.C_drewN ?_ _) | (with_reducible refine Kd.C_drew ?_))); (case side4 => exact HC4_1.out); (case side5 => repeat (first | exact HR4_2.out | (with_reducible refine Kd.C_alloc ?_ _) | (with_reducible refine Kd.C_drewN ?_ _) | (with_reducible refine Kd.C_drew ?_))); (case side6 => exact HC4_2.out); rintro e w40 ⟨rfl, hb⟩; have t_ := fc6 (bw BK1 hb) (bw BK2 hb) (bw BK3 hb) (bw BK4 hb) (bw BK5 hb) (below_step bb hb); clear BK1 BK2 BK3 BK4 BK5 HB; obtain ⟨BK1, BK2, BK3, BK4, BK5, HB⟩ := t_; (try clear hb))); try go_wp2_with (first | (go_at_call 81; (with_reducible refine (impl_isBridge.calls _ _ l2_0 a0 true _ ?side1 ?side2 A23.out).mono ?_); (case side1 => repeat (first | exact HR2_0.out | (with_reducible refine Kd.C_alloc ?_ _) | (with_reducible refine Kd.C_drewN ?_ _) | (with_reducible refine Kd.C_drew ?_))); (case side2 => exact HC2_0.out); rintro e w' ⟨rfl, ⟨nd, rfl⟩⟩; (try first | exact ⟨rfl, _, World.drewN_drewN _ _ _⟩ | exact ⟨rfl, _, Eq.trans (World.drewN_drewN _ _ _) (congrArg (World.drewN _) (Nat.add_assoc _ _ _))⟩); have hnb35 := NB4_3.out; have hnc35 := NB3_4.out; have hnb36 := NB4_5.out; have hnc36 := NB5_4.out; obtain ⟨hcz37_0, hcz37_1, hcz37_2, hfz37_0, hfz37_1, hfz37_2⟩ := bx3 BK4.out; have hnb38 := NB5_3.out; have hnc38 := NB3_5.out; obtain ⟨hcz39_0, hfz39_0⟩ := bx1 BK5.out) | (go_at_call 43; (with_reducible refine (impl_IsUnder.calls _ _ l4_0 _ _ l4_1 _ _ l4_2 a0 a5_0 t202 _ ?side1 ?side2 ?side3 ?side4 ?side5 ?side6 A25.out).mono ?_); (case side1 => repeat (first | exact HR4_0.out | (with_reducible refine Kd.C_alloc ?_ _) | (with_reducible refine Kd.C_drewN ?_ _) | (with_reducible refine Kd.C_drew ?_))); (case side2 => exact HC4_0.out); (case side3 => repeat (first | exact HR4_1.out | (with_reducible refine Kd.C_alloc ?_ _) | (with_reducible refine Kd.C_drewN ?_ _) | (with_reducible refine Kd.C_drew ?_))); (case side4 => exact HC4_1.out); (case side5 => repeat (first | exact HR4_2.out | (with_reducible refine Kd.C_alloc ?_ _) | (with_reducible refine Kd.C_drewN ?_ _) | (with_reducible refine Kd.C_drew ?_))); (case side6 => exact HC4_2.out); rintro e w40 ⟨rfl, hb⟩; have t_ := fc6 (bw BK1 hb) (bw BK2 hb) (bw BK3 hb) (bw BK4 hb) (bw BK5 hb) (below_step bb hb); clear BK1 BK2 BK3 BK4 BK5 HB; obtain ⟨BK1, BK2, BK3, BK4, BK5, HB⟩ := t_; (try clear hb))))
   go_ret
   exact ⟨er, bb⟩
  ·replace c24 := Bool.eq_false_iff.mpr c24
   subst c24
   have H1 : (some false) = some r := by rw [if_neg (show ¬ (false = true) by decide)] at H; exact H
   clear H
   have H := H1
   clear H1
   obtain rfl := Option.some.inj H
   have hnb41 := NB1_2.out
   have hnc41 := NB2_1.out
   have hnb42 := NB1_3.out
   have hnc42 := NB3_1.out
   have hnb43 := NB1_4.out
   have hnc43 := NB4_1.out
   have hnb44 := NB1_5.out
   have hnc44 := NB5_1.out
   obtain ⟨hcz45_0, hfz45_0⟩ := bx1 BK1.out
   have hnb46 := NB2_3.out
   have hnc46 := NB3_2.out
   have hnb47 := NB2_4.out
   have hnc47 := NB4_2.out
   have hnb48 := NB2_5.out
   have hnc48 := NB5_2.out
   obtain ⟨hcz49_0, hfz49_0⟩ := bx1 BK2.out
   go_enter Try.func79, Try.ntmps79
   go_wp2_with (first | (go_at_call 81; (with_reducible refine (impl_isBridge.calls _ _ l2_0 a0 false _ ?side1 ?side2 A23.out).mono ?_); (case side1 => repeat (first | exact HR2_0.out | (with_reducible refine Kd.C_alloc ?_ _) | (with_reducible refine Kd.C_drewN ?_ _) | (with_reducible refine Kd.C_drew ?_))); (case side2 => exact HC2_0.out); rintro e w' ⟨rfl, ⟨nd, rfl⟩⟩; (try first | exact ⟨rfl, _, World.drewN_drewN _ _ _⟩ | exact ⟨rfl, _, Eq.trans (World.drewN_drewN _ _ _) (congrArg (World.drewN _) (Nat.add_assoc _ _ _))⟩)))
   repeat (go_quiet (first | (go_at_call 81; (with_reducible refine (impl_isBridge.calls _ _ l2_0 a0 false _ ?side1 ?side2 A23.out).mono ?_); (case side1 => repeat (first | exact HR2_0.out | (with_reducible refine Kd.C_alloc ?_ _) | (with_reducible refine Kd.C_drewN ?_ _) | (with_reducible refine Kd.C_drew ?_))); (case side2 => exact HC2_0.out); rintro e w' ⟨rfl, ⟨nd, rfl⟩⟩; (try first | exact ⟨rfl, _, World.drewN_drewN _ _ _⟩ | exact ⟨rfl, _, Eq.trans (World.drewN_drewN _ _ _) (congrArg (World.drewN _) (Nat.add_assoc _ _ _))⟩))); try go_wp2_with (first | (go_at_call 81; (with_reducible refine (impl_isBridge.calls _ _ l2_0 a0 false _ ?side1 ?side2 A23.out).mono ?_); (case side1 => repeat (first | exact HR2_0.out | (with_reducible refine Kd.C_alloc ?_ _) | (with_reducible refine Kd.C_drewN ?_ _) | (with_reducible refine Kd.C_drew ?_))); (case side2 => exact HC2_0.out); rintro e w' ⟨rfl, ⟨nd, rfl⟩⟩; (try first | exact ⟨rfl, _, World.drewN_drewN _ _ _⟩ | exact ⟨rfl, _, Eq.trans (World.drewN_drewN _ _ _) (congrArg (World.drewN _) (Nat.add_assoc _ _ _))⟩))))
   go_ret
   exact ⟨er, bb⟩

/-! ### impl_hasFunction: function 82 -/
def impl_hasFunction.f (a0_0 : Int) (a0_1 : Int) (a0_2 : Int) (a1 : Int) : Option (Bool) := (impl_within.f a1 0 (mx (wrap64 (a0_2 - 1)) 0)).bind fun t204 => (some t204)
set_option maxHeartbeats 8000000 in
set_option maxRecDepth 100000 in
theorem impl_hasFunction.calls (a0_0 : Int) (a0_1 : Int) (a0_2 : Int) (a1 : Int) (r : Bool) (w : World) (h : impl_hasFunction.f a0_0 a0_1 a0_2 a1 = some r) :
  Calls Try.prog 82 #[.agg #[.int .i64 a0_0, .int .i64 a0_1, .int .i64 a0_2], .int .i64 a1] w fun e w' => e = .returned (.bool r) ∧ Below w.heap.size w w' := by
 have hu50 := Try.underlying50
 have HB := Aside0.mk (Below.refl w.heap.size w)
 have H : ((impl_within.f a1 0 (mx (wrap64 (a0_2 - 1)) 0)).bind fun t204 => (some t204)) = some r := h
 clear h
 obtain ⟨ji3, hji3⟩ : ∃ j_ : Int, (mx (wrap64 (a0_2 - 1)) 0) = j_ := ⟨_, rfl⟩
 replace H : ((impl_within.f a1 0 (ji3)).bind fun t204 => (some t204)) = some r := by first | (rw [hji3] at H; exact H) | (simp only [hji3] at H ⊢; exact H)
 (try (have hji3l : 0 ≤ ji3 := by (rw [← hji3]; unfold mx; (repeat' split) <;> omega)))
 (try (have hji3m : 0 ≤ ji3 := by omega))
 have hji3_ : (if (wrap64 (a0_2 - 1)) < 0 then 0 else (wrap64 (a0_2 - 1))) = ji3 := hji3
 replace H := Option.bind_eq_some_iff.mp H
 obtain ⟨t204, A40, H⟩ := H
 replace H : (some t204) = some r := H
 have A4 := Aside0.mk A40
 clear A40
 obtain rfl := Option.some.inj H
 go_enter Try.func82, Try.ntmps82
 go_wp2_with (first | ((with_reducible refine gate_dst (N := 2) rfl ?_); refine box_event ?hg (N := 2) ?hd (cs := #[.int .i64 a0_0, .int .i64 a0_1, .int .i64 a0_2]) (t := 50) ?hr ?_; (case hd => rfl); (case hg => rfl); (case hr => first | (go_simp; done) | (go_simp; rfl)); intro gb203 hg w5 hbox hb; have t_ := fc4 (below_step bb hb) (hbox) (bg hg : w.heap.size ≤ gb203) (bg hg : w.heap.size ≤ gb203); clear HB; obtain ⟨HB, BK203, GW203, GE203⟩ := t_; clear hb hbox hg; obtain ⟨hcz6_0, hcz6_1, hcz6_2, hfz6_0, hfz6_1, hfz6_2⟩ := bx3 BK203.out) | ((with_reducible refine gate_callee (f := 94) rfl ?_); refine goesL_ (some 10) rfl rfl Try.func94 (by kernel_rfl) rfl #[.int .i64 a1, .int .i64 0, .int .i64 ji3] rfl (by (try simp only [List.map_toArray, List.map_cons, List.map_nil]); first | done | (simp only [hji3]; rfl) | rfl | (simp only [List.length_drop, List.length_take]; rfl)) ?_; (with_reducible refine (impl_within.calls a1 0 ji3 t204 _ A4.out).mono ?_); rintro e w' ⟨rfl, ⟨nd, rfl⟩⟩; refine ⟨_, rfl, ?_⟩))
 go_ret
 exact ⟨by first | rfl | (simp [errW_none, errW_some] <;> rfl) | (simp only [← hji3]; first | rfl | (simp [errW_none, errW_some] <;> rfl)) | (simp [*, errW_none, errW_some] <;> rfl), bb⟩

/-! ### impl_FunctionOf: function 83 -/
def impl_FunctionOf.f (a0 : Int) : Option (Int) := (impl_IsId.f a0).bind fun t205 => (if t205 = true then (some (Int.tmod a0 4)) else (some (-1)))
set_option maxHeartbeats 8000000 in
set_option maxRecDepth 100000 in
theorem impl_FunctionOf.calls (a0 : Int) (r : Int) (w : World) (h : impl_FunctionOf.f a0 = some r) :
  Calls Try.prog 83 #[.int .i64 a0] w fun e w' => e = .returned (.int .i64 r) ∧ Drawn0 w w' := by
 have H : ((impl_IsId.f a0).bind fun t205 => (if t205 = true then (some (Int.tmod a0 4)) else (some (-1)))) = some r := h
 clear h
 replace H := Option.bind_eq_some_iff.mp H
 obtain ⟨t205, A20, H⟩ := H
 replace H : (if t205 = true then (some (Int.tmod a0 4)) else (some (-1))) = some r := H
 have A2 := Aside0.mk A20
 clear A20
 by_cases c3 : t205 = true
 ·subst c3
  have H1 : (some (Int.tmod a0 4)) = some r := by rw [if_pos rfl] at H; exact H
  clear H
  have H := H1
  clear H1
  obtain rfl := Option.some.inj H
  go_enter Try.func83, Try.ntmps83
  go_wp2_with (first | ((with_reducible refine gate_callee (f := 47) rfl ?_); refine goesL_ (some 4) rfl rfl Try.func47 (by kernel_rfl) rfl #[.int .i64 a0] rfl ms ?_; (with_reducible refine (impl_IsId.calls a0 true _ A2.out).mono ?_); rintro e w' ⟨rfl, ⟨nd, rfl⟩⟩; refine ⟨_, rfl, ?_⟩))
  go_ret
  exact ⟨by first | rfl | (simp; done) | (simp [*]; done), by repeat (first | exact Drawn0.refl _ | apply Drawn0.step)⟩
 ·replace c3 := Bool.eq_false_iff.mpr c3
  subst c3
  have H1 : (some (-1)) = some r := by rw [if_neg (show ¬ (false = true) by decide)] at H; exact H
  clear H
  have H := H1
  clear H1
  obtain rfl := Option.some.inj H
  go_enter Try.func83, Try.ntmps83
  go_wp2_with (first | ((with_reducible refine gate_callee (f := 47) rfl ?_); refine goesL_ (some 4) rfl rfl Try.func47 (by kernel_rfl) rfl #[.int .i64 a0] rfl ms ?_; (with_reducible refine (impl_IsId.calls a0 false _ A2.out).mono ?_); rintro e w' ⟨rfl, ⟨nd, rfl⟩⟩; refine ⟨_, rfl, ?_⟩))
  go_ret
  exact ⟨by first | rfl | (simp; done) | (simp [*]; done), by repeat (first | exact Drawn0.refl _ | apply Drawn0.step)⟩

/-! ### slices_IndexFunc_int_int_impl_DownToId_1: function 78, handed function 79 -/
def slices_IndexFunc_int_int_impl_DownToId_1.f (l0 : List Int) (ab : Bool) (lt : List S50) (ai : Int) (lB lS lL : List Int) (au : Int) : Option Int := if (l0.all fun x => (impl_DownToId_1.f x ab lt ai lB lS lL au).isSome) = true then some (Fns.idxFrom (fun x => (impl_DownToId_1.f x ab lt ai lB lS lL au).getD false) 0 l0) else none
theorem slices_IndexFunc_int_int_impl_DownToId_1.calls (A0 : Option Addr) (c0 : Nat) (l0 : List Int) (gb : Nat) (ab : Bool) (gt : Nat) (At : Option Addr) (ct : Nat) (lt : List S50) (gi : Nat) (ai : Int) (gn : Nat) (AB : Option Addr) (cB : Nat) (lB : List Int) (AS : Option Addr) (cS : Nat) (lS : List Int) (AL : Option Addr) (cL : Nat) (lL : List Int) (gu : Nat) (au : Int) (r : Int) (w : World) (hr0 : Kd.C (Kd.int .i64) w A0 l0.length l0) (hc0 : l0.length ≤ c0)
  (hrt : Kd.C k50 w At lt.length lt) (hct : lt.length ≤ ct) (hrB : Kd.C (Kd.int .i64) w AB lB.length lB) (hcB : lB.length ≤ cB) (hrS : Kd.C (Kd.int .i64) w AS lS.length lS) (hcS : lS.length ≤ cS) (hrL : Kd.C (Kd.int .i64) w AL lL.length lL) (hcL : lL.length ≤ cL)
  (hb1 : w.heap[gb]? = some (.cells #[.bool ab] 4 (0, 0))) (hb2 : w.heap[gt]? = some (.cells #[.slice At lt.length ct] 29 (0, 0))) (hb3 : w.heap[gi]? = some (.cells #[.int .i64 ai] 3 (0, 0))) (hb4 : w.heap[gn]? = some (.cells #[.slice AB lB.length cB, .slice AS lS.length cS, .slice AL lL.length cL] 31 (0, 0))) (hb5 : w.heap[gu]? = some (.cells #[.int .i64 au] 3 (0, 0)))
  (n12 : gb ≠ gt) (n13 : gb ≠ gi) (n14 : gb ≠ gn) (n15 : gb ≠ gu) (n23 : gt ≠ gi) (n24 : gt ≠ gn) (n25 : gt ≠ gu) (n34 : gi ≠ gn) (n35 : gi ≠ gu) (n45 : gn ≠ gu) (h : slices_IndexFunc_int_int_impl_DownToId_1.f l0 ab lt ai lB lS lL au = some r) :
  Calls Try.prog 78 #[.slice A0 l0.length c0, .func (.func 79) #[] #[.pointer (some ⟨gb, 0, none⟩), .pointer (some ⟨gt, 0, none⟩), .pointer (some ⟨gi, 0, none⟩), .pointer (some ⟨gn, 0, none⟩), .pointer (some ⟨gu, 0, none⟩)]] w fun e w' => e = .returned (.int .i64 r) ∧ Below w.heap.size w w' := by
 have q1 : gb < w.heap.size := (Array.getElem?_eq_some_iff.1 hb1).1
 have q2 : gt < w.heap.size := (Array.getElem?_eq_some_iff.1 hb2).1
 have q3 : gi < w.heap.size := (Array.getElem?_eq_some_iff.1 hb3).1
 have q4 : gn < w.heap.size := (Array.getElem?_eq_some_iff.1 hb4).1
 have q5 : gu < w.heap.size := (Array.getElem?_eq_some_iff.1 hb5).1
 unfold slices_IndexFunc_int_int_impl_DownToId_1.f at h
 split at h
 next hs =>
  injection h with h
  subst h
  rw [List.all_eq_true] at hs
  exact Fns.index_int5 (fun x => (impl_DownToId_1.f x ab lt ai lB lS lL au).getD false) 79 gb gt gi gn gu A0 c0 l0 w hr0 hc0 (fun W x hx hW => by
   have hs2 := hs x hx
   rw [Option.isSome_iff_exists] at hs2
   obtain ⟨b, hb⟩ := hs2
   refine (impl_DownToId_1.calls x gb ab gt At ct lt gi ai gn AB cB lB AS cS lS AL cL lL gu au b W (Kd.C_below hrt hW) hct (Kd.C_below hrB hW) hcB (Kd.C_below hrS hW) hcS (Kd.C_below hrL hW) hcL ((hW.block gb q1).trans hb1) ((hW.block gt q2).trans hb2) ((hW.block gi q3).trans hb3) ((hW.block gn q4).trans hb4) ((hW.block gu q5).trans hb5) n12 n13 n14 n15 n23 n24 n25 n34 n35 n45 hb).mono ?_
   rintro e w' ⟨rfl, hbl⟩
   refine ⟨?_, hbl⟩
   simp only [hb]
   rfl) (enters_of Try.func79 (by kernel_rfl) rfl)
 next => cases h

end Go.Proofs.Ytbbppknnkghkjaa.PFnIdRoutes
