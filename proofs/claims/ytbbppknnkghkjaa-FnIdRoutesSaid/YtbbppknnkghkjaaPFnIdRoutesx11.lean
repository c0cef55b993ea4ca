/- Printed by a program of this session out of the translation: each Go function as a Lean function, with the proof that Go comes to just its answer (no condition beyond what each theorem says). (squeezed) -/
import Derived.Test.YtbbppknnkghkjaaPFnIdRoutesx0
import Derived.Test.YtbbppknnkghkjaaPFnIdRoutesx1
import Derived.Test.YtbbppknnkghkjaaPFnIdRoutesx10
namespace Go.Proofs.Ytbbppknnkghkjaa.PFnIdRoutes
open Go.RowKit Go.Proofs.YtbbppknnkghkjaaW.PrintWords Go.Proofs.YtbbppknnkghkjaaW.PrintLast Go.Proofs.YtbbppknnkghkjaaW.PrintMore Go.Proofs.Ytbbppknnkghkjaa.Kit Go.Proofs.Ytbbppknnkghkjaa.Kit2
attribute [local go_sem] max2_int min2_int max_two min_two max_three min_three max_four min_four   -- for this text's walks alone
set_option linter.unusedVariables false
set_option linter.unusedSimpArgs false

attribute [local go_sem high] eqA50
/-! ### spec_TreeOk: function 106 -/
mutual
def spec_TreeOk.j0 : Nat → List (S50) → Bool → Option (Bool)
 | 0, _, _ => none
 | k + 1, x0, x16 => if x16 = true then (some false) else (spec_TreeOk.l0 k x0 1)
def spec_TreeOk.l0 : Nat → List (S50) → Int → Option (Bool)
 | 0, _, _ => none
 | k + 1, x0, x3 => if x3 < (x0.length : Int) then (if 0 ≤ x3 then ((spec_l01In.f ((rd_T50 x0 x3).f0) 0 (wrap64 (x3 - 1))).bind fun t315 => (if t315 = true then (if 0 ≤ ((rd_T50 x0 x3).f0) then (if ((rd_T50 x0 x3).f0) < (x0.length : Int) then (if ((rd_T50 x0 ((rd_T50 x0 x3).f0)).f2) = 0 then ((spec_l01In.f ((rd_T50 x0 x3).f1) 0 3).bind fun t317 => (if t317 = true then ((spec_l01In.f ((rd_T50 x0 x3).f2) 0 4).bind fun t318 => (spec_TreeOk.j2 k x0 x3 (!t318) ((rd_T50 x0 x3).f0) ((rd_T50 x0 x3).f1) ((rd_T50 x0 x3).f2))) else (spec_TreeOk.j2 k x0 x3 true ((rd_T50 x0 x3).f0) ((rd_T50 x0 x3).f1) ((rd_T50 x0 x3).f2)))) else (spec_TreeOk.j2 k x0 x3 true ((rd_T50 x0 x3).f0) ((rd_T50 x0 x3).f1) ((rd_T50 x0 x3).f2))) else (none)) else (none)) else (spec_TreeOk.j2 k x0 x3 true ((rd_T50 x0 x3).f0) ((rd_T50 x0 x3).f1) ((rd_T50 x0 x3).f2)))) else (none)) else (some true)
def spec_TreeOk.j2 : Nat → List (S50) → Int → Bool → Int → Int → Int → Option (Bool)
 | 0, _, _, _, _, _, _ => none
 | k + 1, x0, x3, x53, x315000, x315001, x315002 => if x53 = true then (some false) else (spec_TreeOk.l1 k x0 x3 1 x315000 x315001 x315002)
def spec_TreeOk.l1 : Nat → List (S50) → Int → Int → Int → Int → Int → Option (Bool)
 | 0, _, _, _, _, _, _ => none
 | k + 1, x0, x3, x5, x315000, x315001, x315002 => if x5 < x3 then (if 0 ≤ x5 then (if x5 < (x0.length : Int) then (if ((rd_T50 x0 x5).f0) = x315000 then (if ((rd_T50 x0 x5).f1) = x315001 then (some false) else (spec_TreeOk.l1 k x0 x3 (wrap64 (x5 + 1)) x315000 x315001 x315002)) else (spec_TreeOk.l1 k x0 x3 (wrap64 (x5 + 1)) x315000 x315001 x315002)) else (none)) else (none)) else (spec_TreeOk.l0 k x0 (wrap64 (x3 + 1)))
end
def spec_TreeOk.f (k : Nat) (l0 : List (S50)) : Option (Bool) := (spec_l01In.f (l0.length : Int) 1 12).bind fun t311 => (if t311 = true then (if 0 < (l0.length : Int) then (spec_TreeOk.j0 k l0 (!(((rd_T50 l0 0).f0) == (-1)) || (!(((rd_T50 l0 0).f1) == 0) || (!(((rd_T50 l0 0).f2) == 0))))) else (none)) else (spec_TreeOk.j0 k l0 true))
set_option maxHeartbeats 8000000 in
set_option maxRecDepth 100000 in
theorem spec_TreeOk.calls (k : Nat) (A0 : Option Addr) (c0 : Nat) (l0 : List (S50)) (r : Bool) (w : World) (hr0 : Kd.C k50 w A0 l0.length l0) (hc0 : l0.length ≤ c0) (h : spec_TreeOk.f k l0 = some r) :
  Calls Try.prog 106 #[.slice A0 l0.length c0] w fun e w' => e = .returned (.bool r) ∧ Below w.heap.size w w' := by
 have hu50 := Try.underlying50
 have HR0 := Aside0.mk hr0
 have HC0 := Aside0.mk hc0
 clear hr0 hc0
 have HB := Aside0.mk (Below.refl w.heap.size w)
 have H : ((spec_l01In.f (l0.length : Int) 1 12).bind fun t311 => (if t311 = true then (if 0 < (l0.length : Int) then (spec_TreeOk.j0 k l0 (!(((rd_T50 l0 0).f0) == (-1)) || (!(((rd_T50 l0 0).f1) == 0) || (!(((rd_T50 l0 0).f2) == 0))))) else (none)) else (spec_TreeOk.j0 k l0 true))) = some r := h
 clear h
 have HC2 := Aside0.mk H
 clear H
 go_enter Try.func106, Try.ntmps106
 go_upto_region 1 with (fail)
 repeat (go_quiet (fail); go_upto_region 1 with (fail))
 go_cut [16] (fun v16 wc => ∃ (kq : Nat) (x16_1 : Bool), v16 = .bool x16_1 ∧ Aside0 (spec_TreeOk.j0 kq l0 x16_1 = some r) ∧ Aside0 (kq ≤ k) ∧ Aside0 (Below w.heap.size w wc))
 case first =>
  have H := HC2.out
  clear HC2
  replace H := Option.bind_eq_some_iff.mp H
  obtain ⟨t311, A30, H⟩ := H
  replace H : (if t311 = true then (if 0 < (l0.length : Int) then (spec_TreeOk.j0 k l0 (!(((rd_T50 l0 0).f0) == (-1)) || (!(((rd_T50 l0 0).f1) == 0) || (!(((rd_T50 l0 0).f2) == 0))))) else (none)) else (spec_TreeOk.j0 k l0 true)) = some r := H
  have A3 := Aside0.mk A30
  clear A30
  by_cases c4 : t311 = true
  ·subst c4
   have H1 : (if 0 < (l0.length : Int) then (spec_TreeOk.j0 k l0 (!(((rd_T50 l0 0).f0) == (-1)) || (!(((rd_T50 l0 0).f1) == 0) || (!(((rd_T50 l0 0).f2) == 0))))) else (none)) = some r := by rw [if_pos rfl] at H; exact H
   clear H
   have H := H1
   clear H1
   by_cases c5 : 0 < (l0.length : Int)
   ·rw [if_pos c5] at H
    have c5b0 : decide (0 < (l0.length : Int)) = true := decide_eq_true c5
    have c5b1 : decide (0 < l0.length) = true := decide_eq_true (by omega)
    clear c5
    (first | rw [c5b0] | (simp only [i64_w, i32_w]; rw [c5b0]) | skip)
    have H' := Aside0.mk H
    clear H
    go_wp2_with (first | (go_at_call 103; (with_reducible refine (spec_l01In.calls (l0.length : Int) 1 12 true _ A3.out).mono ?_); rintro e w' ⟨rfl, ⟨nd, rfl⟩⟩; (try first | exact ⟨rfl, _, World.drewN_drewN _ _ _⟩ | exact ⟨rfl, _, Eq.trans (World.drewN_drewN _ _ _) (congrArg (World.drewN _) (Nat.add_assoc _ _ _))⟩); have p312 : 0 ≤ (0 : Int) := (by omega); have q312 : 0 < (l0.length : Int) := of_decide_eq_true as_; obtain ⟨ad312, e312, hx312_0, hx312_1, hx312_2⟩ := at_T50 HR0.out 0 p312 q312; cases e312; have qi312 : (0 < l0.length) = True := eq_true (by omega); (try rw [show ((0 : Int)).toNat = 0 from rfl] at hx312_0); (try rw [show 0 * 3 = 0 from rfl] at hx312_0); (try rw [Addr.add_zero'] at hx312_0); (try rw [show ((0 : Int)).toNat = 0 from rfl] at hx312_1); (try rw [show 0 * 3 = 0 from rfl] at hx312_1); (try rw [Addr.add_zero'] at hx312_1); (try rw [show ((0 : Int)).toNat = 0 from rfl] at hx312_2); (try rw [show 0 * 3 = 0 from rfl] at hx312_2); (try rw [Addr.add_zero'] at hx312_2); replace hx312_0 := pw_cell_below HB.out hx312_0; replace hx312_1 := pw_cell_below HB.out hx312_1; replace hx312_2 := pw_cell_below HB.out hx312_2; replace p312 := eq_true p312; replace q312 := eq_true q312))
    repeat (go_quiet (first | (go_at_call 103; (with_reducible refine (spec_l01In.calls (l0.length : Int) 1 12 true _ A3.out).mono ?_); rintro e w' ⟨rfl, ⟨nd, rfl⟩⟩; (try first | exact ⟨rfl, _, World.drewN_drewN _ _ _⟩ | exact ⟨rfl, _, Eq.trans (World.drewN_drewN _ _ _) (congrArg (World.drewN _) (Nat.add_assoc _ _ _))⟩); have p312 : 0 ≤ (0 : Int) := (by omega); have q312 : 0 < (l0.length : Int) := of_decide_eq_true as_; obtain ⟨ad312, e312, hx312_0, hx312_1, hx312_2⟩ := at_T50 HR0.out 0 p312 q312; cases e312; have qi312 : (0 < l0.length) = True := eq_true (by omega); (try rw [show ((0 : Int)).toNat = 0 from rfl] at hx312_0); (try rw [show 0 * 3 = 0 from rfl] at hx312_0); (try rw [Addr.add_zero'] at hx312_0); (try rw [show ((0 : Int)).toNat = 0 from rfl] at hx312_1); (try rw [show 0 * 3 = 0 from rfl] at hx312_1); (try rw [Addr.add_zero'] at hx312_1); (try rw [show ((0 : Int)).toNat = 0 from rfl] at hx312_2); (try rw [show 0 * 3 = 0 from rfl] at hx312_2); (try rw [Addr.add_zero'] at hx312_2); replace hx312_0 := pw_cell_below HB.out hx312_0; replace hx312_1 := pw_cell_below HB.out hx312_1; replace hx312_2 := pw_cell_below HB.out hx312_2; replace p312 := eq_true p312; replace q312 := eq_true q312)); try go_wp2_with (first | (go_at_call 103; (with_reducible refine (spec_l01In.calls (l0.length : Int) 1 12 true _ A3.out).mono ?_); rintro e w' ⟨rfl, ⟨nd, rfl⟩⟩; (try first | exact ⟨rfl, _, World.drewN_drewN _ _ _⟩ | exact ⟨rfl, _, Eq.trans (World.drewN_drewN _ _ _) (congrArg (World.drewN _) (Nat.add_assoc _ _ _))⟩); have p312 : 0 ≤ (0 : Int) := (by omega); have q312 : 0 < (l0.length : Int) := of_decide_eq_true as_; obtain ⟨ad312, e312, hx312_0, hx312_1, hx312_2⟩ := at_T50 HR0.out 0 p312 q312; cases e312; have qi312 : (0 < l0.length) = True := eq_true (by omega); (try rw [show ((0 : Int)).toNat = 0 from rfl] at hx312_0); (try rw [show 0 * 3 = 0 from rfl] at hx312_0); (try rw [Addr.add_zero'] at hx312_0); (try rw [show ((0 : Int)).toNat = 0 from rfl] at hx312_1); (try rw [show 0 * 3 = 0 from rfl] at hx312_1); (try rw [Addr.add_zero'] at hx312_1); (try rw [show ((0 : Int)).toNat = 0 from rfl] at hx312_2); (try rw [show 0 * 3 = 0 from rfl] at hx312_2); (try rw [Addr.add_zero'] at hx312_2); replace hx312_0 := pw_cell_below HB.out hx312_0; replace hx312_1 := pw_cell_below HB.out hx312_1; replace hx312_2 := pw_cell_below HB.out hx312_2; replace p312 := eq_true p312; replace q312 := eq_true q312)))
    go_meet
    case rel => exact ⟨_, ((!(((rd_T50 l0 0).f0) == (-1)) || (!(((rd_T50 l0 0).f1) == 0) || (!(((rd_T50 l0 0).f2) == 0))))), (by first | rfl | (simp; done) | (simp [*]; done)), H', ⟨by first | omega | exact Nat.le_refl _⟩, ⟨bb⟩⟩
   ·rw [if_neg c5] at H
    exact absurd H (by simp)
  ·replace c4 := Bool.eq_false_iff.mpr c4
   subst c4
   have H1 : (spec_TreeOk.j0 k l0 true) = some r := by rw [if_neg (show ¬ (false = true) by decide)] at H; exact H
   clear H
   have H := H1
   clear H1
   have H' := Aside0.mk H
   clear H
   go_wp2_with (first | (go_at_call 103; (with_reducible refine (spec_l01In.calls (l0.length : Int) 1 12 false _ A3.out).mono ?_); rintro e w' ⟨rfl, ⟨nd, rfl⟩⟩; (try first | exact ⟨rfl, _, World.drewN_drewN _ _ _⟩ | exact ⟨rfl, _, Eq.trans (World.drewN_drewN _ _ _) (congrArg (World.drewN _) (Nat.add_assoc _ _ _))⟩)))
   repeat (go_quiet (first | (go_at_call 103; (with_reducible refine (spec_l01In.calls (l0.length : Int) 1 12 false _ A3.out).mono ?_); rintro e w' ⟨rfl, ⟨nd, rfl⟩⟩; (try first | exact ⟨rfl, _, World.drewN_drewN _ _ _⟩ | exact ⟨rfl, _, Eq.trans (World.drewN_drewN _ _ _) (congrArg (World.drewN _) (Nat.add_assoc _ _ _))⟩))); try go_wp2_with (first | (go_at_call 103; (with_reducible refine (spec_l01In.calls (l0.length : Int) 1 12 false _ A3.out).mono ?_); rintro e w' ⟨rfl, ⟨nd, rfl⟩⟩; (try first | exact ⟨rfl, _, World.drewN_drewN _ _ _⟩ | exact ⟨rfl, _, Eq.trans (World.drewN_drewN _ _ _) (congrArg (World.drewN _) (Nat.add_assoc _ _ _))⟩))))
   go_meet
   case rel => exact ⟨_, (true), (by first | rfl | (simp; done) | (simp [*]; done)), H', ⟨by first | omega | exact Nat.le_refl _⟩, ⟨bb⟩⟩
 case rest =>
  clear HC2
  try clear c1
  try clear p2
  try clear p3
  try clear q3
  try clear hx3
  try clear qi3
  try clear c4
  try clear c5
  try clear c5b0
  try clear c5b1
  try clear hx312_0
  try clear hx312_1
  try clear hx312_2
  try clear p312
  try clear q312
  obtain ⟨kq, x16_1, rfl, HA, HJ1, HB⟩ := hcut
  cases kq with
  | zero => exact absurd HA.out (by simp [spec_TreeOk.j0])
  | succ kj1 =>
   have H := HA.out
   clear HA
   simp only [spec_TreeOk.j0] at H
   by_cases c6 : x16_1 = true
   ·subst c6
    have H1 : (some false) = some r := by rw [if_pos rfl] at H; exact H
    clear H
    have H := H1
    clear H1
    obtain rfl := Option.some.inj H
    go_wp2
    repeat (go_quiet (fail); try go_wp2)
    go_ret
    exact ⟨er, bb⟩
   ·replace c6 := Bool.eq_false_iff.mpr c6
    subst c6
    have H1 : (spec_TreeOk.l0 kj1 l0 1) = some r := by rw [if_neg (show ¬ (false = true) by decide)] at H; exact H
    clear H
    have H := H1
    clear H1
    have H' := Aside0.mk H
    clear H
    go_wp2
    repeat (go_quiet (fail); try go_wp2)
    go_loopg [3] kj1 (fun kq v3 w' => ∃ (x3_2 : Int), v3 = .int .i64 x3_2 ∧ Aside0 (spec_TreeOk.l0 kq l0 x3_2 = some r) ∧ Aside0 (kq ≤ kj1) ∧ Aside0 (Below w.heap.size w w'))
    case atStart => exact ⟨(1), (by first | rfl | (simp; done) | (simp [*]; done)), H', ⟨Nat.le_refl _⟩, ⟨bb⟩⟩
    case round =>
     clear H'
     try clear c1
     try clear p2
     try clear p3
     try clear q3
     try clear hx3
     try clear qi3
     try clear c4
     try clear c5
     try clear c5b0
     try clear c5b1
     try clear c6
     try clear hx312_0
     try clear hx312_1
     try clear hx312_2
     try clear p2
     try clear p3
     try clear p312
     try clear q3
     try clear q312
     obtain ⟨x3_2, rfl, HA, HK2, HB⟩ := hrel
     cases gk with
     | zero => exact absurd HA.out (by simp [spec_TreeOk.l0])
     | succ k2 =>
      have H := HA.out
      clear HA
      simp only [spec_TreeOk.l0] at H
      by_cases c7 : x3_2 < (l0.length : Int)
      ·rw [if_pos c7] at H
       have c7b0 : decide (x3_2 < (l0.length : Int)) = true := decide_eq_true c7
       clear c7
       by_cases c8 : 0 ≤ x3_2
       ·rw [if_pos c8] at H
        have c8b0 : decide (0 ≤ x3_2) = true := decide_eq_true c8
        clear c8
        have HC9 := Aside0.mk H
        clear H
        have p313 : 0 ≤ (x3_2 : Int) := of_decide_eq_true as_
        have q313 : x3_2 < (l0.length : Int) := of_decide_eq_true as_
        obtain ⟨ad313, e313, hx313_0, hx313_1, hx313_2⟩ := at_T50 HR0.out x3_2 p313 q313
        cases e313
        replace hx313_0 := pw_cell_below HB.out hx313_0
        replace hx313_1 := pw_cell_below HB.out hx313_1
        replace hx313_2 := pw_cell_below HB.out hx313_2
        replace p313 := eq_true p313
        replace q313 := eq_true q313
        go_upto_region 7 with (first | ((with_reducible refine gate_dst (N := 4) rfl ?_); refine box_event ?hg (N := 4) ?hd (cs := #[.int .i64 0, .int .i64 0, .int .i64 0]) (t := 50) ?hr ?_; (case hd => rfl); (case hg => rfl); (case hr => first | (go_simp; done) | (go_simp; rfl)); intro gb314 hg w10 hbox hb; have t_ := fc4 (below_step bb hb) (hbox) (bg hg : w.heap.size ≤ gb314) (bg hg : w.heap.size ≤ gb314); clear HB; obtain ⟨HB, BK314, GW314, GE314⟩ := t_; clear hb hbox hg; obtain ⟨hcz11_0, hcz11_1, hcz11_2, hfz11_0, hfz11_1, hfz11_2⟩ := bx3 BK314.out))
        repeat (go_quiet (first | ((with_reducible refine gate_dst (N := 4) rfl ?_); refine box_event ?hg (N := 4) ?hd (cs := #[.int .i64 0, .int .i64 0, .int .i64 0]) (t := 50) ?hr ?_; (case hd => rfl); (case hg => rfl); (case hr => first | (go_simp; done) | (go_simp; rfl)); intro gb314 hg w10 hbox hb; have t_ := fc4 (below_step bb hb) (hbox) (bg hg : w.heap.size ≤ gb314) (bg hg : w.heap.size ≤ gb314); clear HB; obtain ⟨HB, BK314, GW314, GE314⟩ := t_; clear hb hbox hg; obtain ⟨hcz11_0, hcz11_1, hcz11_2, hfz11_0, hfz11_1, hfz11_2⟩ := bx3 BK314.out)); go_upto_region 7 with (first | ((with_reducible refine gate_dst (N := 4) rfl ?_); refine box_event ?hg (N := 4) ?hd (cs := #[.int .i64 0, .int .i64 0, .int .i64 0]) (t := 50) ?hr ?_; (case hd => rfl); (case hg => rfl); (case hr => first | (go_simp; done) | (go_simp; rfl)); intro gb314 hg w10 hbox hb; have t_ := fc4 (below_step bb hb) (hbox) (bg hg : w.heap.size ≤ gb314) (bg hg : w.heap.size ≤ gb314); clear HB; obtain ⟨HB, BK314, GW314, GE314⟩ := t_; clear hb hbox hg; obtain ⟨hcz11_0, hcz11_1, hcz11_2, hfz11_0, hfz11_1, hfz11_2⟩ := bx3 BK314.out)))
        (try simp only [Act.put, List.setIfInBounds_toArray, List.set_cons_zero, List.set_cons_succ])
        go_cut [53] (fun v53 wc => ∃ (kq : Nat) (x53_8 : Bool), v53 = .bool x53_8 ∧ Aside0 (spec_TreeOk.j2 kq l0 x3_2 x53_8 ((rd_T50 l0 x3_2).f0) ((rd_T50 l0 x3_2).f1) ((rd_T50 l0 x3_2).f2) = some r) ∧ Aside0 (kq ≤ k2) ∧ Aside0 (wc.heap[gb314]? = some (.cells #[.int .i64 ((rd_T50 l0 x3_2).f0), .int .i64 ((rd_T50 l0 x3_2).f1), .int .i64 ((rd_T50 l0 x3_2).f2)] 50 (0, 0))) ∧ Aside0 (Below w.heap.size w wc))
        case first =>
         have H := HC9.out
         clear HC9
         replace H := Option.bind_eq_some_iff.mp H
         obtain ⟨t315, A120, H⟩ := H
         replace H : (if t315 = true then (if 0 ≤ ((rd_T50 l0 x3_2).f0) then (if ((rd_T50 l0 x3_2).f0) < (l0.length : Int) then (if ((rd_T50 l0 ((rd_T50 l0 x3_2).f0)).f2) = 0 then ((spec_l01In.f ((rd_T50 l0 x3_2).f1) 0 3).bind fun t317 => (if t317 = true then ((spec_l01In.f ((rd_T50 l0 x3_2).f2) 0 4).bind fun t318 => (spec_TreeOk.j2 k2 l0 x3_2 (!t318) ((rd_T50 l0 x3_2).f0) ((rd_T50 l0 x3_2).f1) ((rd_T50 l0 x3_2).f2))) else (spec_TreeOk.j2 k2 l0 x3_2 true ((rd_T50 l0 x3_2).f0) ((rd_T50 l0 x3_2).f1) ((rd_T50 l0 x3_2).f2)))) else (spec_TreeOk.j2 k2 l0 x3_2 true ((rd_T50 l0 x3_2).f0) ((rd_T50 l0 x3_2).f1) ((rd_T50 l0 x3_2).f2))) else (none)) else (none)) else (spec_TreeOk.j2 k2 l0 x3_2 true ((rd_T50 l0 x3_2).f0) ((rd_T50 l0 x3_2).f1) ((rd_T50 l0 x3_2).f2))) = some r := H
         have A12 := Aside0.mk A120
         clear A120
         by_cases c13 : t315 = true
         ·subst c13
          have H1 : (if 0 ≤ ((rd_T50 l0 x3_2).f0) then (if ((rd_T50 l0 x3_2).f0) < (l0.length : Int) then (if ((rd_T50 l0 ((rd_T50 l0 x3_2).f0)).f2) = 0 then ((spec_l01In.f ((rd_T50 l0 x3_2).f1) 0 3).bind fun t317 => (if t317 = true then ((spec_l01In.f ((rd_T50 l0 x3_2).f2) 0 4).bind fun t318 => (spec_TreeOk.j2 k2 l0 x3_2 (!t318) ((rd_T50 l0 x3_2).f0) ((rd_T50 l0 x3_2).f1) ((rd_T50 l0 x3_2).f2))) else (spec_TreeOk.j2 k2 l0 x3_2 true ((rd_T50 l0 x3_2).f0) ((rd_T50 l0 x3_2).f1) ((rd_T50 l0 x3_2).f2)))) else (spec_TreeOk.j2 k2 l0 x3_2 true ((rd_T50 l0 x3_2).f0) ((rd_T50 l0 x3_2).f1) ((rd_T50 l0 x3_2).f2))) else (none)) else (none)) = some r := by rw [if_pos rfl] at H; exact H
          clear H
          have H := H1
          clear H1
          by_cases c14 : 0 ≤ ((rd_T50 l0 x3_2).f0)
          ·rw [if_pos c14] at H
           have c14b0 : decide (0 ≤ ((rd_T50 l0 x3_2).f0)) = true := decide_eq_true c14
           clear c14
           (first | rw [c14b0] | (simp only [i64_w, i32_w]; rw [c14b0]) | skip)
           by_cases c15 : ((rd_T50 l0 x3_2).f0) < (l0.length : Int)
           ·rw [if_pos c15] at H
            have c15b0 : decide (((rd_T50 l0 x3_2).f0) < (l0.length : Int)) = true := decide_eq_true c15
            clear c15
            by_cases c16 : ((rd_T50 l0 ((rd_T50 l0 x3_2).f0)).f2) = 0
            ·rw [if_pos c16] at H
             have c16b0 : (((rd_T50 l0 ((rd_T50 l0 x3_2).f0)).f2) == 0) = true := beq_iff_eq.mpr c16
             have c16b1 : (((rd_T50 l0 ((rd_T50 l0 x3_2).f0)).f2) != 0) = false := bne_eq_false_iff_eq.mpr c16
             clear c16
             replace H := Option.bind_eq_some_iff.mp H
             obtain ⟨t317, A170, H⟩ := H
             replace H : (if t317 = true then ((spec_l01In.f ((rd_T50 l0 x3_2).f2) 0 4).bind fun t318 => (spec_TreeOk.j2 k2 l0 x3_2 (!t318) ((rd_T50 l0 x3_2).f0) ((rd_T50 l0 x3_2).f1) ((rd_T50 l0 x3_2).f2))) else (spec_TreeOk.j2 k2 l0 x3_2 true ((rd_T50 l0 x3_2).f0) ((rd_T50 l0 x3_2).f1) ((rd_T50 l0 x3_2).f2))) = some r := H
             have A17 := Aside0.mk A170
             clear A170
             by_cases c18 : t317 = true
             ·subst c18
              have H1 : ((spec_l01In.f ((rd_T50 l0 x3_2).f2) 0 4).bind fun t318 => (spec_TreeOk.j2 k2 l0 x3_2 (!t318) ((rd_T50 l0 x3_2).f0) ((rd_T50 l0 x3_2).f1) ((rd_T50 l0 x3_2).f2))) = some r := by rw [if_pos rfl] at H; exact H
              clear H
              have H := H1
              clear H1
              replace H := Option.bind_eq_some_iff.mp H
              obtain ⟨t318, A190, H⟩ := H
              replace H : (spec_TreeOk.j2 k2 l0 x3_2 (!t318) ((rd_T50 l0 x3_2).f0) ((rd_T50 l0 x3_2).f1) ((rd_T50 l0 x3_2).f2)) = some r := H
              have A19 := Aside0.mk A190
              clear A190
              have H' := Aside0.mk H
              clear H
              obtain ⟨hcz20_0, hcz20_1, hcz20_2, hfz20_0, hfz20_1, hfz20_2⟩ := bx3 BK314.out
              go_wp2_with (first | (go_at_call 103; (with_reducible refine (spec_l01In.calls ((rd_T50 l0 x3_2).f0) 0 (wrap64 (x3_2 - 1)) true _ A12.out).mono ?_); rintro e w' ⟨rfl, ⟨nd, rfl⟩⟩; (try first | exact ⟨rfl, _, World.drewN_drewN _ _ _⟩ | exact ⟨rfl, _, Eq.trans (World.drewN_drewN _ _ _) (congrArg (World.drewN _) (Nat.add_assoc _ _ _))⟩); have p316 : 0 ≤ (((rd_T50 l0 x3_2).f0) : Int) := of_decide_eq_true as_; have q316 : ((rd_T50 l0 x3_2).f0) < (l0.length : Int) := of_decide_eq_true as_; obtain ⟨ad316, e316, hx316_0, hx316_1, hx316_2⟩ := at_T50 HR0.out ((rd_T50 l0 x3_2).f0) p316 q316; obtain rfl : ad313 = ad316 := (by injection e316); have hn316_0 : ad313.block ≠ gb314 := Nat.ne_of_lt (Nat.lt_of_lt_of_le (by have := World.block_lt_of_cell? _ _ hx316_0; first | rwa [add_block] at this | exact this) GW314.out); have hn316_1 : ad313.block ≠ gb314 := Nat.ne_of_lt (Nat.lt_of_lt_of_le (by have := World.block_lt_of_cell? _ _ hx316_0; first | rwa [add_block] at this | exact this) GW314.out); have hn316_2 : ad313.block ≠ gb314 := Nat.ne_of_lt (Nat.lt_of_lt_of_le (by have := World.block_lt_of_cell? _ _ hx316_0; first | rwa [add_block] at this | exact this) GW314.out); replace hx316_0 := pw_cell_below HB.out hx316_0; replace hx316_1 := pw_cell_below HB.out hx316_1; replace hx316_2 := pw_cell_below HB.out hx316_2; replace hx316_0 := (cell_far (p := ⟨gb314, 0, none⟩) (by first | (rw [add_block]; exact hn316_0) | (show (Addr.add _ _).block ≠ _; rw [add_block]; exact hn316_0) | exact hn316_0) (.int .i64 ((rd_T50 l0 x3_2).f0))).trans hx316_0; replace hx316_1 := (cell_far (p := ⟨gb314, 0, none⟩) (by first | (rw [add_block]; exact hn316_0) | (show (Addr.add _ _).block ≠ _; rw [add_block]; exact hn316_0) | exact hn316_0) (.int .i64 ((rd_T50 l0 x3_2).f0))).trans hx316_1; replace hx316_2 := (cell_far (p := ⟨gb314, 0, none⟩) (by first | (rw [add_block]; exact hn316_0) | (show (Addr.add _ _).block ≠ _; rw [add_block]; exact hn316_0) | exact hn316_0) (.int .i64 ((rd_T50 l0 x3_2).f0))).trans hx316_2; replace hx316_0 := (cell_far (p := ⟨gb314, 1, none⟩) (by first | (rw [add_block]; exact hn316_1) | (show (Addr.add _ _).block ≠ _; rw [add_block]; exact hn316_1) | exact hn316_1) (.int .i64 ((rd_T50 l0 x3_2).f1))).trans hx316_0; replace hx316_1 := (cell_far (p := ⟨gb314, 1, none⟩) (by first | (rw [add_block]; exact hn316_1) | (show (Addr.add _ _).block ≠ _; rw [add_block]; exact hn316_1) | exact hn316_1) (.int .i64 ((rd_T50 l0 x3_2).f1))).trans hx316_1; replace hx316_2 := (cell_far (p := ⟨gb314, 1, none⟩) (by first | (rw [add_block]; exact hn316_1) | (show (Addr.add _ _).block ≠ _; rw [add_block]; exact hn316_1) | exact hn316_1) (.int .i64 ((rd_T50 l0 x3_2).f1))).trans hx316_2; replace hx316_0 := (cell_far (p := ⟨gb314, 2, none⟩) (by first | (rw [add_block]; exact hn316_2) | (show (Addr.add _ _).block ≠ _; rw [add_block]; exact hn316_2) | exact hn316_2) (.int .i64 ((rd_T50 l0 x3_2).f2))).trans hx316_0; replace hx316_1 := (cell_far (p := ⟨gb314, 2, none⟩) (by first | (rw [add_block]; exact hn316_2) | (show (Addr.add _ _).block ≠ _; rw [add_block]; exact hn316_2) | exact hn316_2) (.int .i64 ((rd_T50 l0 x3_2).f2))).trans hx316_1; replace hx316_2 := (cell_far (p := ⟨gb314, 2, none⟩) (by first | (rw [add_block]; exact hn316_2) | (show (Addr.add _ _).block ≠ _; rw [add_block]; exact hn316_2) | exact hn316_2) (.int .i64 ((rd_T50 l0 x3_2).f2))).trans hx316_2; (try have hy316_0 := fun (n_ : Nat) => (show (((((w10.drewN n_).setCell ⟨gb314, 0, none⟩ (.int .i64 ((rd_T50 l0 x3_2).f0))).setCell ⟨gb314, 1, none⟩ (.int .i64 ((rd_T50 l0 x3_2).f1))).setCell ⟨gb314, 2, none⟩ (.int .i64 ((rd_T50 l0 x3_2).f2)))).cell? _ = some _ from hx316_0)); (try have hy316_1 := fun (n_ : Nat) => (show (((((w10.drewN n_).setCell ⟨gb314, 0, none⟩ (.int .i64 ((rd_T50 l0 x3_2).f0))).setCell ⟨gb314, 1, none⟩ (.int .i64 ((rd_T50 l0 x3_2).f1))).setCell ⟨gb314, 2, none⟩ (.int .i64 ((rd_T50 l0 x3_2).f2)))).cell? _ = some _ from hx316_1)); (try have hy316_2 := fun (n_ : Nat) => (show (((((w10.drewN n_).setCell ⟨gb314, 0, none⟩ (.int .i64 ((rd_T50 l0 x3_2).f0))).setCell ⟨gb314, 1, none⟩ (.int .i64 ((rd_T50 l0 x3_2).f1))).setCell ⟨gb314, 2, none⟩ (.int .i64 ((rd_T50 l0 x3_2).f2)))).cell? _ = some _ from hx316_2)); clear hn316_0; clear hn316_1; clear hn316_2; replace p316 := eq_true p316; replace q316 := eq_true q316) | (go_at_call 103; (with_reducible refine (spec_l01In.calls ((rd_T50 l0 x3_2).f1) 0 3 true _ A17.out).mono ?_); rintro e w' ⟨rfl, ⟨nd, rfl⟩⟩; (try first | exact ⟨rfl, _, World.drewN_drewN _ _ _⟩ | exact ⟨rfl, _, Eq.trans (World.drewN_drewN _ _ _) (congrArg (World.drewN _) (Nat.add_assoc _ _ _))⟩)) | (go_at_call 103; (with_reducible refine (spec_l01In.calls ((rd_T50 l0 x3_2).f2) 0 4 t318 _ A19.out).mono ?_); rintro e w' ⟨rfl, ⟨nd, rfl⟩⟩; (try first | exact ⟨rfl, _, World.drewN_drewN _ _ _⟩ | exact ⟨rfl, _, Eq.trans (World.drewN_drewN _ _ _) (congrArg (World.drewN _) (Nat.add_assoc _ _ _))⟩)))
              repeat (go_quiet (first | (go_at_call 103; (with_reducible refine (spec_l01In.calls ((rd_T50 l0 x3_2).f0) 0 (wrap64 (x3_2 - 1)) true _ A12.out).mono ?_); rintro e w' ⟨rfl, ⟨nd, rfl⟩⟩; (try first | exact ⟨rfl, _, World.drewN_drewN _ _ _⟩ | exact ⟨rfl, _, Eq.trans (World.drewN_drewN _ _ _) (congrArg (World.drewN _) (Nat.add_assoc _ _ _))⟩); have p316 : 0 ≤ (((rd_T50 l0 x3_2).f0) : Int) := of_decide_eq_true as_; have q316 : ((rd_T50 l0 x3_2).f0) < (l0.length : Int) := of_decide_eq_true as_; obtain ⟨ad316, e316, hx316_0, hx316_1, hx316_2⟩ := at_T50 HR0.out ((rd_T50 l0 x3_2).f0) p316 q316; obtain rfl : ad313 = ad316 := (by injection e316); have hn316_0 : ad313.block ≠ gb314 := Nat.ne_of_lt (Nat.lt_of_lt_of_le (by have := World.block_lt_of_cell? _ _ hx316_0; first | rwa [add_block] at this | exact this) GW314.out); have hn316_1 : ad313.block ≠ gb314 := Nat.ne_of_lt (Nat.lt_of_lt_of_le (by have := World.block_lt_of_cell? _ _ hx316_0; first | rwa [add_block] at this | exact this) GW314.out); have hn316_2 : ad313.block ≠ gb314 := Nat.ne_of_lt (Nat.lt_of_lt_of_le (by have := World.block_lt_of_cell? _ _ hx316_0; first | rwa [add_block] at this | exact this) GW314.out); replace hx316_0 := pw_cell_below HB.out hx316_0; replace hx316_1 := pw_cell_below HB.out hx316_1; replace hx316_2 := pw_cell_below HB.out hx316_2; replace hx316_0 := (cell_far (p := ⟨gb314, 0, none⟩) (by first | (rw [add_block]; exact hn316_0) | (show (Addr.add _ _).block ≠ _; rw [add_block]; exact hn316_0) | exact hn316_0) (.int .i64 ((rd_T50 l0 x3_2).f0))).trans hx316_0; replace hx316_1 := (cell_far (p := ⟨gb314, 0, none⟩) (by first | (rw [add_block]; exact hn316_0) | (show (Addr.add _ _).block ≠ _; rw [add_block]; exact hn316_0) | exact hn316_0) (.int .i64 ((rd_T50 l0 x3_2).f0))).trans hx316_1; replace hx316_2 := (cell_far (p := ⟨gb314, 0, none⟩) (by first | (rw [add_block]; exact hn316_0) | (show (Addr.add _ _).block ≠ _; rw [add_block]; exact hn316_0) | exact hn316_0) (.int .i64 ((rd_T50 l0 x3_2).f0))).trans hx316_2; replace hx316_0 := (cell_far (p := ⟨gb314, 1, none⟩) (by first | (rw [add_block]; exact hn316_1) | (show (Addr.add _ _).block ≠ _; rw [add_block]; exact hn316_1) | exact hn316_1) (.int .i64 ((rd_T50 l0 x3_2).f1))).trans hx316_0; replace hx316_1 := (cell_far (p := ⟨gb314, 1, none⟩) (by first | (rw [add_block]; exact hn316_1) | (show (Addr.add _ _).block ≠ _; rw [add_block]; exact hn316_1) | exact hn316_1) (.int .i64 ((rd_T50 l0 x3_2).f1))).trans hx316_1; replace hx316_2 := (cell_far (p := ⟨gb314, 1, none⟩) (by first | (rw [add_block]; exact hn316_1) | (show (Addr.add _ _).block ≠ _; rw [add_block]; exact hn316_1) | exact hn316_1) (.int .i64 ((rd_T50 l0 x3_2).f1))).trans hx316_2; replace hx316_0 := (cell_far (p := ⟨gb314, 2, none⟩) (by first | (rw [add_block]; exact hn316_2) | (show (Addr.add _ _).block ≠ _; rw [add_block]; exact hn316_2) | exact hn316_2) (.int .i64 ((rd_T50 l0 x3_2).f2))).trans hx316_0; replace hx316_1 := (cell_far (p := ⟨gb314, 2, none⟩) (by first | (rw [add_block]; exact hn316_2) | (show (Addr.add _ _).block ≠ _; rw [add_block]; exact hn316_2) | exact hn316_2) (.int .i64 ((rd_T50 l0 x3_2).f2))).trans hx316_1; replace hx316_2 := (cell_far (p := ⟨gb314, 2, none⟩) (by first | (rw [add_block]; exact hn316_2) | (show (Addr.add _ _).block ≠ _; rw [add_block]; exact hn316_2) | exact hn316_2) (.int .i64 ((rd_T50 l0 x3_2).f2))).trans hx316_2; (try have hy316_0 := fun (n_ : Nat) => (show (((((w10.drewN n_).setCell ⟨gb314, 0, none⟩ (.int .i64 ((rd_T50 l0 x3_2).f0))).setCell ⟨gb314, 1, none⟩ (.int .i64 ((rd_T50 l0 x3_2).f1))).setCell ⟨gb314, 2, none⟩ (.int .i64 ((rd_T50 l0 x3_2).f2)))).cell? _ = some _ from hx316_0)); (try have hy316_1 := fun (n_ : Nat) => (show (((((w10.drewN n_).setCell ⟨gb314, 0, none⟩ (.int .i64 ((rd_T50 l0 x3_2).f0))).setCell ⟨gb314, 1, none⟩ (.int .i64 ((rd_T50 l0 x3_2).f1))).setCell ⟨gb314, 2, none⟩ (.int .i64 ((rd_T50 l0 x3_2).f2)))).cell? _ = some _ from hx316_1)); (try have hy316_2 := fun (n_ : Nat) => (show (((((w10.drewN n_).setCell ⟨gb314, 0, none⟩ (.int .i64 ((rd_T50 l0 x3_2).f0))).setCell ⟨gb314, 1, none⟩ (.int .i64 ((rd_T50 l0 x3_2).f1))).setCell ⟨gb314, 2, none⟩ (.int .i64 ((rd_T50 l0 x3_2).f2)))).cell? _ = some _ from hx316_2)); clear hn316_0; clear hn316_1; clear hn316_2; replace p316 := eq_true p316; replace q316 := eq_true q316) | (go_at_call 103; (with_reducible refine (spec_l01In.calls ((rd_T50 l0 x3_2).f1) 0 3 true _ A17.out).mono ?_); rintro e w' ⟨rfl, ⟨nd, rfl⟩⟩; (try first | exact ⟨rfl, _, World.drewN_drewN _ _ _⟩ | exact ⟨rfl, _, Eq.trans (World.drewN_drewN _ _ _) (congrArg (World.drewN _) (Nat.add_assoc _ _ _))⟩)) | (go_at_call 103; (with_reducible refine (spec_l01In.calls ((rd_T50 l0 x3_2).f2) 0 4 t318 _ A19.out).mono ?_); rintro e w' ⟨rfl, ⟨nd, rfl⟩⟩; (try first | exact ⟨rfl, _, World.drewN_drewN _ _ _⟩ | exact ⟨rfl, _, Eq.trans (World.drewN_drewN _ _ _) (congrArg (World.drewN _) (Nat.add_assoc _ _ _))⟩))); try go_wp2_with (first | (go_at_call 103; (with_reducible refine (spec_l01In.calls ((rd_T50 l0 x3_2).f0) 0 (wrap64 (x3_2 - 1)) true _ A12.out).mono ?_); rintro e w' ⟨rfl, ⟨nd, rfl⟩⟩; (try first | exact ⟨rfl, _, World.drewN_drewN _ _ _⟩ | exact ⟨rfl, _, Eq.trans (World.drewN_drewN _ _ _) (congrArg (World.drewN _) (Nat.add_assoc _ _ _))⟩); have p316 : 0 ≤ (((rd_T50 l0 x3_2).f0) : Int) := of_decide_eq_true as_; have q316 : ((rd_T50 l0 x3_2).f0) < (l0.length : Int) := of_decide_eq_true as_; obtain ⟨ad316, e316, hx316_0, hx316_1, hx316_2⟩ := at_T50 HR0.out ((rd_T50 l0 x3_2).f0) p316 q316; obtain rfl : ad313 = ad316 := (by injection e316); have hn316_0 : ad313.block ≠ gb314 := Nat.ne_of_lt (Nat.lt_of_lt_of_le (by have := World.block_lt_of_cell? _ _ hx316_0; first | rwa [add_block] at this | exact this) GW314.out); have hn316_1 : ad313.block ≠ gb314 := Nat.ne_of_lt (Nat.lt_of_lt_of_le (by have := World.block_lt_of_cell? _ _ hx316_0; first | rwa [add_block] at this | exact this) GW314.out); have hn316_2 : ad313.block ≠ gb314 := Nat.ne_of_lt (Nat.lt_of_lt_of_le (by have := World.block_lt_of_cell? _ _ hx316_0; first | rwa [add_block] at this | exact this) GW314.out); replace hx316_0 := pw_cell_below HB.out hx316_0; replace hx316_1 := pw_cell_below HB.out hx316_1; replace hx316_2 := pw_cell_below HB.out hx316_2; replace hx316_0 := (cell_far (p := ⟨gb314, 0, none⟩) (by first | (rw [add_block]; exact hn316_0) | (show (Addr.add _ _).block ≠ _; rw [add_block]; exact hn316_0) | exact hn316_0) (.int .i64 ((rd_T50 l0 x3_2).f0))).trans hx316_0; replace hx316_1 := (cell_far (p := ⟨gb314, 0, none⟩) (by first | (rw [add_block]; exact hn316_0) | (show (Addr.add _ _).block ≠ _; rw [add_block]; exact hn316_0) | exact hn316_0) (.int .i64 ((rd_T50 l0 x3_2).f0))).trans hx316_1; replace hx316_2 := (cell_far (p := ⟨gb314, 0, none⟩) (by first | (rw [add_block]; exact hn316_0) | (show (Addr.add _ _).block ≠ _; rw [add_block]; exact hn316_0) | exact hn316_0) (.int .i64 ((rd_T50 l0 x3_2).f0))).trans hx316_2; replace hx316_0 := (cell_far (p := ⟨gb314, 1, none⟩) (by first | (rw [add_block]; exact hn316_1) | (show (Addr.add _ _).block ≠ _; rw [add_block]; exact hn316_1) | exact hn316_1) (.int .i64 ((rd_T50 l0 x3_2).f1))).trans hx316_0; replace hx316_1 := (cell_far (p := ⟨gb314, 1, none⟩) (by first | (rw [add_block]; exact hn316_1) | (show (Addr.add _ _).block ≠ _; rw [add_block]; exact hn316_1) | exact hn316_1) (.int .i64 ((rd_T50 l0 x3_2).f1))).trans hx316_1; replace hx316_2 := (cell_far (p := ⟨gb314, 1, none⟩) (by first | (rw [add_block]; exact hn316_1) | (show (Addr.add _ _).block ≠ _; rw [add_block]; exact hn316_1) | exact hn316_1) (.int .i64 ((rd_T50 l0 x3_2).f1))).trans hx316_2; replace hx316_0 := (cell_far (p := ⟨gb314, 2, none⟩) (by first | (rw [add_block]; exact hn316_2) | (show (Addr.add _ _).block ≠ _; rw [add_block]; exact hn316_2) | exact hn316_2) (.int .i64 ((rd_T50 l0 x3_2).f2))).trans hx316_0; replace hx316_1 := (cell_far (p := ⟨gb314, 2, none⟩) (by first | (rw [add_block]; exact hn316_2) | (show (Addr.add _ _).block ≠ _; rw [add_block]; exact hn316_2) | exact hn316_2) (.int .i64 ((rd_T50 l0 x3_2).f2))).trans hx316_1; replace hx316_2 := (cell_far (p := ⟨gb314, 2, none⟩) (by first | (rw [add_block]; exact hn316_2) | (show (Addr.add _ _).block ≠ _; rw [add_block]; exact hn316_2) | exact hn316_2) (.int .i64 ((rd_T50 l0 x3_2).f2))).trans hx316_2; (try have hy316_0 := fun (n_ : Nat) => (show (((((w10.drewN n_).setCell ⟨gb314, 0, none⟩ (.int .i64 ((rd_T50 l0 x3_2).f0))).setCell ⟨gb314, 1, none⟩ (.int .i64 ((rd_T50 l0 x3_2).f1))).setCell ⟨gb314, 2, none⟩ (.int .i64 ((rd_T50 l0 x3_2).f2)))).cell? _ = some _ from hx316_0)); (try have hy316_1 := fun (n_ : Nat) => (show (((((w10.drewN n_).setCell ⟨gb314, 0, none⟩ (.int .i64 ((rd_T50 l0 x3_2).f0))).setCell ⟨gb314, 1, none⟩ (.int .i64 ((rd_T50 l0 x3_2).f1))).setCell ⟨gb314, 2, none⟩ (.int .i64 ((rd_T50 l0 x3_2).f2)))).cell? _ = some _ from hx316_1)); (try have hy316_2 := fun (n_ : Nat) => (show (((((w10.drewN n_).setCell ⟨gb314, 0, none⟩ (.int .i64 ((rd_T50 l0 x3_2).f0))).setCell ⟨gb314, 1, none⟩ (.int .i64 ((rd_T50 l0 x3_2).f1))).setCell ⟨gb314, 2, none⟩ (.int .i64 ((rd_T50 l0 x3_2).f2)))).cell? _ = some _ from hx316_2)); clear hn316_0; clear hn316_1; clear hn316_2; replace p316 := eq_true p316; replace q316 := eq_true q316) | (go_at_call 103; (with_reducible refine (spec_l01In.calls ((rd_T50 l0 x3_2).f1) 0 3 true _ A17.out).mono ?_); rintro e w' ⟨rfl, ⟨nd, rfl⟩⟩; (try first | exact ⟨rfl, _, World.drewN_drewN _ _ _⟩ | exact ⟨rfl, _, Eq.trans (World.drewN_drewN _ _ _) (congrArg (World.drewN _) (Nat.add_assoc _ _ _))⟩)) | (go_at_call 103; (with_reducible refine (spec_l01In.calls ((rd_T50 l0 x3_2).f2) 0 4 t318 _ A19.out).mono ?_); rintro e w' ⟨rfl, ⟨nd, rfl⟩⟩; (try first | exact ⟨rfl, _, World.drewN_drewN _ _ _⟩ | exact ⟨rfl, _, Eq.trans (World.drewN_drewN _ _ _) (congrArg (World.drewN _) (Nat.add_assoc _ _ _))⟩))))
              go_meet
              case rel => exact ⟨_, (!t318), (by first | rfl | (simp; done) | (simp [*]; done)), H', ⟨by have := HJ1.out; have := HK2.out; first | omega | exact Nat.le_refl _⟩, ⟨by (with_reducible repeat (first | refine blk_drewN ?_ _ | refine blk_drew ?_ | refine blk_alloc ?_ _)); refine blk_put (cs := #[.int .i64 ((rd_T50 l0 x3_2).f0), .int .i64 ((rd_T50 l0 x3_2).f1), .int .i64 0]) ?_ 2 _ rfl; (with_reducible repeat (first | refine blk_drewN ?_ _ | refine blk_drew ?_ | refine blk_alloc ?_ _)); refine blk_put (cs := #[.int .i64 ((rd_T50 l0 x3_2).f0), .int .i64 0, .int .i64 0]) ?_ 1 _ rfl; (with_reducible repeat (first | refine blk_drewN ?_ _ | refine blk_drew ?_ | refine blk_alloc ?_ _)); refine blk_put (cs := #[.int .i64 0, .int .i64 0, .int .i64 0]) ?_ 0 _ rfl; exact bk⟩, ⟨bb⟩⟩
             ·replace c18 := Bool.eq_false_iff.mpr c18
              subst c18
              have H1 : (spec_TreeOk.j2 k2 l0 x3_2 true ((rd_T50 l0 x3_2).f0) ((rd_T50 l0 x3_2).f1) ((rd_T50 l0 x3_2).f2)) = some r := by rw [if_neg (show ¬ (false = true) by decide)] at H; exact H
              clear H
              have H := H1
              clear H1
              have H' := Aside0.mk H
              clear H
              obtain ⟨hcz21_0, hcz21_1, hcz21_2, hfz21_0, hfz21_1, hfz21_2⟩ := bx3 BK314.out
              go_wp2_with (first | (go_at_call 103; (with_reducible refine (spec_l01In.calls ((rd_T50 l0 x3_2).f0) 0 (wrap64 (x3_2 - 1)) true _ A12.out).mono ?_); rintro e w' ⟨rfl, ⟨nd, rfl⟩⟩; (try first | exact ⟨rfl, _, World.drewN_drewN _ _ _⟩ | exact ⟨rfl, _, Eq.trans (World.drewN_drewN _ _ _) (congrArg (World.drewN _) (Nat.add_assoc _ _ _))⟩); have p316 : 0 ≤ (((rd_T50 l0 x3_2).f0) : Int) := of_decide_eq_true as_; have q316 : ((rd_T50 l0 x3_2).f0) < (l0.length : Int) := of_decide_eq_true as_; obtain ⟨ad316, e316, hx316_0, hx316_1, hx316_2⟩ := at_T50 HR0.out ((rd_T50 l0 x3_2).f0) p316 q316; obtain rfl : ad313 = ad316 := (by injection e316); have hn316_0 : ad313.block ≠ gb314 := Nat.ne_of_lt (Nat.lt_of_lt_of_le (by have := World.block_lt_of_cell? _ _ hx316_0; first | rwa [add_block] at this | exact this) GW314.out); have hn316_1 : ad313.block ≠ gb314 := Nat.ne_of_lt (Nat.lt_of_lt_of_le (by have := World.block_lt_of_cell? _ _ hx316_0; first | rwa [add_block] at this | exact this) GW314.out); have hn316_2 : ad313.block ≠ gb314 := Nat.ne_of_lt (Nat.lt_of_lt_of_le (by have := World.block_lt_of_cell? _ _ hx316_0; first | rwa [add_block] at this | exact this) GW314.out); replace hx316_0 := pw_cell_below HB.out hx316_0; replace hx316_1 := pw_cell_below HB.out hx316_1; replace hx316_2 := pw_cell_below HB.out hx316_2; replace hx316_0 := (cell_far (p := ⟨gb314, 0, none⟩) (by first | (rw [add_block]; exact hn316_0) | (show (Addr.add _ _).block ≠ _; rw [add_block]; exact hn316_0) | exact hn316_0) (.int .i64 ((rd_T50 l0 x3_2).f0))).trans hx316_0; replace hx316_1 := (cell_far (p := ⟨gb314, 0, none⟩) (by first | (rw [add_block]; exact hn316_0) | (show (Addr.add _ _).block ≠ _; rw [add_block]; exact hn316_0) | exact hn316_0) (.int .i64 ((rd_T50 l0 x3_2).f0))).trans hx316_1; replace hx316_2 := (cell_far (p := ⟨gb314, 0, none⟩) (by first | (rw [add_block]; exact hn316_0) | (show (Addr.add _ _).block ≠ _; rw [add_block]; exact hn316_0) | exact hn316_0) (.int .i64 ((rd_T50 l0 x3_2).f0))).trans hx316_2; replace hx316_0 := (cell_far (p := ⟨gb314, 1, none⟩) (by first | (rw [add_block]; exact hn316_1) | (show (Addr.add _ _).block ≠ _; rw [add_block]; exact hn316_1) | exact hn316_1) (.int .i64 ((rd_T50 l0 x3_2).f1))).trans hx316_0; replace hx316_1 := (cell_far (p := ⟨gb314, 1, none⟩) (by first | (rw [add_block]; exact hn316_1) | (show (Addr.add _ _).block ≠ _; rw [add_block]; exact hn316_1) | exact hn316_1) (.int .i64 ((rd_T50 l0 x3_2).f1))).trans hx316_1; replace hx316_2 := (cell_far (p := ⟨gb314, 1, none⟩) (by first | (rw [add_block]; exact hn316_1) | (show (Addr.add _ _).block ≠ _; rw [add_block]; exact hn316_1) | exact hn316_1) (.int .i64 ((rd_T50 l0 x3_2).f1))).trans hx316_2; replace hx316_0 := (cell_far (p := ⟨gb314, 2, none⟩) (by first | (rw [add_block]; exact hn316_2) | (show (Addr.add _ _).block ≠ _; rw [add_block]; exact hn316_2) | exact hn316_2) (.int .i64 ((rd_T50 l0 x3_2).f2))).trans hx316_0; replace hx316_1 := (cell_far (p := ⟨gb314, 2, none⟩) (by first | (rw [add_block]; exact hn316_2) | (show (Addr.add _ _).block ≠ _; rw [add_block]; exact hn316_2) | exact hn316_2) (.int .i64 ((rd_T50 l0 x3_2).f2))).trans hx316_1; replace hx316_2 := (cell_far (p := ⟨gb314, 2, none⟩) (by first | (rw [add_block]; exact hn316_2) | (show (Addr.add _ _).block ≠ _; rw [add_block]; exact hn316_2) | exact hn316_2) (.int .i64 ((rd_T50 l0 x3_2).f2))).trans hx316_2; (try have hy316_0 := fun (n_ : Nat) => (show (((((w10.drewN n_).setCell ⟨gb314, 0, none⟩ (.int .i64 ((rd_T50 l0 x3_2).f0))).setCell ⟨gb314, 1, none⟩ (.int .i64 ((rd_T50 l0 x3_2).f1))).setCell ⟨gb314, 2, none⟩ (.int .i64 ((rd_T50 l0 x3_2).f2)))).cell? _ = some _ from hx316_0)); (try have hy316_1 := fun (n_ : Nat) => (show (((((w10.drewN n_).setCell ⟨gb314, 0, none⟩ (.int .i64 ((rd_T50 l0 x3_2).f0))).setCell ⟨gb314, 1, none⟩ (.int .i64 ((rd_T50 l0 x3_2).f1))).setCell ⟨gb314, 2, none⟩ (.int .i64 ((rd_T50 l0 x3_2).f2)))).cell? _ = some _ from hx316_1)); (try have hy316_2 := fun (n_ : Nat) => (show (((((w10.drewN n_).setCell ⟨gb314, 0, none⟩ (.int .i64 ((rd_T50 l0 x3_2).f0))).setCell ⟨gb314, 1, none⟩ (.int .i64 ((rd_T50 l0 x3_2).f1))).setCell ⟨gb314, 2, none⟩ (.int .i64 ((rd_T50 l0 x3_2).f2)))).cell? _ = some _ from hx316_2)); clear hn316_0; clear hn316_1; clear hn316_2; replace p316 := eq_true p316; replace q316 := eq_true q316) | (go_at_call 103; (with_reducible refine (spec_l01In.calls ((rd_T50 l0 x3_2).f1) 0 3 false _ A17.out).mono ?_); rintro e w' ⟨rfl, ⟨nd, rfl⟩⟩; (try first | exact ⟨rfl, _, World.drewN_drewN _ _ _⟩ | exact ⟨rfl, _, Eq.trans (World.drewN_drewN _ _ _) (congrArg (World.drewN _) (Nat.add_assoc _ _ _))⟩)))
              repeat (go_quiet (first | (go_at_call 103; (with_reducible refine (spec_l01In.calls ((rd_T50 l0 x3_2).f0) 0 (wrap64 (x3_2 - 1)) true _ A12.out).mono ?_); rintro e w' ⟨rfl, ⟨nd, rfl⟩⟩; (try first | exact ⟨rfl, _, World.drewN_drewN _ _ _⟩ | exact ⟨rfl, _, Eq.trans (World.drewN_drewN _ _ _) (congrArg (World.drewN _) (Nat.add_assoc _ _ _))⟩); have p316 : 0 ≤ (((rd_T50 l0 x3_2).f0) : Int) := of_decide_eq_true as_; have q316 : ((rd_T50 l0 x3_2).f0) < (l0.length : Int) := of_decide_eq_true as_; obtain ⟨ad316, e316, hx316_0, hx316_1, hx316_2⟩ := at_T50 HR0.out ((rd_T50 l0 x3_2).f0) p316 q316; obtain rfl : ad313 = ad316 := (by injection e316); have hn316_0 : ad313.block ≠ gb314 := Nat.ne_of_lt (Nat.lt_of_lt_of_le (by have := World.block_lt_of_cell? _ _ hx316_0; first | rwa [add_block] at this | exact this) GW314.out); have hn316_1 : ad313.block ≠ gb314 := Nat.ne_of_lt (Nat.lt_of_lt_of_le (by have := World.block_lt_of_cell? _ _ hx316_0; first | rwa [add_block] at this | exact this) GW314.out); have hn316_2 : ad313.block ≠ gb314 := Nat.ne_of_lt (Nat.lt_of_lt_of_le (by have := World.block_lt_of_cell? _ _ hx316_0; first | rwa [add_block] at this | exact this) GW314.out); replace hx316_0 := pw_cell_below HB.out hx316_0; replace hx316_1 := pw_cell_below HB.out hx316_1; replace hx316_2 := pw_cell_below HB.out hx316_2; replace hx316_0 := (cell_far (p := ⟨gb314, 0, none⟩) (by first | (rw [add_block]; exact hn316_0) | (show (Addr.add _ _).block ≠ _; rw [add_block]; exact hn316_0) | exact hn316_0) (.int .i64 ((rd_T50 l0 x3_2).f0))).trans hx316_0; replace hx316_1 := (cell_far (p := ⟨gb314, 0, none⟩) (by first | (rw [add_block]; exact hn316_0) | (show (Addr.add _ _).block ≠ _; rw [add_block]; exact hn316_0) | exact hn316_0) (.int .i64 ((rd_T50 l0 x3_2).f0))).trans hx316_1; replace hx316_2 := (cell_far (p := ⟨gb314, 0, none⟩) (by first | (rw [add_block]; exact hn316_0) | (show (Addr.add _ _).block ≠ _; rw [add_block]; exact hn316_0) | exact hn316_0) (.int .i64 ((rd_T50 l0 x3_2).f0))).trans hx316_2; replace hx316_0 := (cell_far (p := ⟨gb314, 1, none⟩) (by first | (rw [add_block]; exact hn316_1) | (show (Addr.add _ _).block ≠ _; rw [add_block]; exact hn316_1) | exact hn316_1) (.int .i64 ((rd_T50 l0 x3_2).f1))).trans hx316_0; replace hx316_1 := (cell_far (p := ⟨gb314, 1, none⟩) (by first | (rw [add_block]; exact hn316_1) | (show (Addr.add _ _).block ≠ _; rw [add_block]; exact hn316_1) | exact hn316_1) (.int .i64 ((rd_T50 l0 x3_2).f1))).trans hx316_1; replace hx316_2 := (cell_far (p := ⟨gb314, 1, none⟩) (by first | (rw [add_block]; exact hn316_1) | (show (Addr.add _ _).block ≠ _; rw [add_block]; exact hn316_1) | exact hn316_1) (.int .i64 ((rd_T50 l0 x3_2).f1))).trans hx316_2; replace hx316_0 := (cell_far (p := ⟨gb314, 2, none⟩) (by first | (rw [add_block]; exact hn316_2) | (show (Addr.add _ _).block ≠ _; rw [add_block]; exact hn316_2) | exact hn316_2) (.int .i64 ((rd_T50 l0 x3_2).f2))).trans hx316_0; replace hx316_1 := (cell_far (p := ⟨gb314, 2, none⟩) (by first | (rw [add_block]; exact hn316_2) | (show (Addr.add _ _).block ≠ _; rw [add_block]; exact hn316_2) | exact hn316_2) (.int .i64 ((rd_T50 l0 x3_2).f2))).trans hx316_1; replace hx316_2 := (cell_far (p := ⟨gb314, 2, none⟩) (by first | (rw [add_block]; exact hn316_2) | (show (Addr.add _ _).block ≠ _; rw [add_block]; exact hn316_2) | exact hn316_2) (.int .i64 ((rd_T50 l0 x3_2).f2))).trans hx316_2; (try have hy316_0 := fun (n_ : Nat) => (show (((((w10.drewN n_).setCell ⟨gb314, 0, none⟩ (.int .i64 ((rd_T50 l0 x3_2).f0))).setCell ⟨gb314, 1, none⟩ (.int .i64 ((rd_T50 l0 x3_2).f1))).setCell ⟨gb314, 2, none⟩ (.int .i64 ((rd_T50 l0 x3_2).f2)))).cell? _ = some _ from hx316_0)); (try have hy316_1 := fun (n_ : Nat) => (show (((((w10.drewN n_).setCell ⟨gb314, 0, none⟩ (.int .i64 ((rd_T50 l0 x3_2).f0))).setCell ⟨gb314, 1, none⟩ (.int .i64 ((rd_T50 l0 x3_2).f1))).setCell ⟨gb314, 2, none⟩ (.int .i64 ((rd_T50 l0 x3_2).f2)))).cell? _ = some _ from hx316_1)); (try have hy316_2 := fun (n_ : Nat) => (show (((((w10.drewN n_).setCell ⟨gb314, 0, none⟩ (.int .i64 ((rd_T50 l0 x3_2).f0))).setCell ⟨gb314, 1, none⟩ (.int .i64 ((rd_T50 l0 x3_2).f1))).setCell ⟨gb314, 2, none⟩ (.int .i64 ((rd_T50 l0 x3_2).f2)))).cell? _ = some _ from hx316_2)); clear hn316_0; clear hn316_1; clear hn316_2; replace p316 := eq_true p316; replace q316 := eq_true q316) | (go_at_call 103; (with_reducible refine (spec_l01In.calls ((rd_T50 l0 x3_2).f1) 0 3 false _ A17.out).mono ?_); rintro e w' ⟨rfl, ⟨nd, rfl⟩⟩; (try first | exact ⟨rfl, _, World.drewN_drewN _ _ _⟩ | exact ⟨rfl, _, Eq.trans (World.drewN_drewN _ _ _) (congrArg (World.drewN _) (Nat.add_assoc _ _ _))⟩))); try go_wp2_with (first | (go_at_call 103; (with_reducible refine (spec_l01In.calls ((rd_T50 l0 x3_2).f0) 0 (wrap64 (x3_2 - 1)) true _ A12.out).mono ?_); rintro e w' ⟨rfl, ⟨nd, rfl⟩⟩; (try first | exact ⟨rfl, _, World.drewN_drewN _ _ _⟩ | exact ⟨rfl, _, Eq.trans (World.drewN_drewN _ _ _) (congrArg (World.drewN _) (Nat.add_assoc _ _ _))⟩); have p316 : 0 ≤ (((rd_T50 l0 x3_2).f0) : Int) := of_decide_eq_true as_; have q316 : ((rd_T50 l0 x3_2).f0) < (l0.length : Int) := of_decide_eq_true as_; obtain ⟨ad316, e316, hx316_0, hx316_1, hx316_2⟩ := at_T50 HR0.out ((rd_T50 l0 x3_2).f0) p316 q316; obtain rfl : ad313 = ad316 := (by injection e316); have hn316_0 : ad313.block ≠ gb314 := Nat.ne_of_lt (Nat.lt_of_lt_of_le (by have := World.block_lt_of_cell? _ _ hx316_0; first | rwa [add_block] at this | exact this) GW314.out); have hn316_1 : ad313.block ≠ gb314 := Nat.ne_of_lt (Nat.lt_of_lt_of_le (by have := World.block_lt_of_cell? _ _ hx316_0; first | rwa [add_block] at this | exact this) GW314.out); have hn316_2 : ad313.block ≠ gb314 := Nat.ne_of_lt (Nat.lt_of_lt_of_le (by have := World.block_lt_of_cell? _ _ hx316_0; first | rwa [add_block] at this | exact this) GW314.out); replace hx316_0 := pw_cell_below HB.out hx316_0; replace hx316_1 := pw_cell_below HB.out hx316_1; replace hx316_2 := pw_cell_below HB.out hx316_2; replace hx316_0 := (cell_far (p := ⟨gb314, 0, none⟩) (by first | (rw [add_block]; exact hn316_0) | (show (Addr.add _ _).block ≠ _; rw [add_block]; exact hn316_0) | exact hn316_0) (.int .i64 ((rd_T50 l0 x3_2).f0))).trans hx316_0; replace hx316_1 := (cell_far (p := ⟨gb314, 0, none⟩) (by first | (rw [add_block]; exact hn316_0) | (show (Addr.add _ _).block ≠ _; rw [add_block]; exact hn316_0) | exact hn316_0) (.int .i64 ((rd_T50 l0 x3_2).f0))).trans hx316_1; replace hx316_2 := (cell_far (p := ⟨gb314, 0, none⟩) (by first | (rw [add_block]; exact hn316_0) | (show (Addr.add _ _).block ≠ _; rw [add_block]; exact hn316_0) | exact hn316_0) (.int .i64 ((rd_T50 l0 x3_2).f0))).trans hx316_2; replace hx316_0 := (cell_far (p := ⟨gb314, 1, none⟩) (by first | (rw [add_block]; exact hn316_1) | (show (Addr.add _ _).block ≠ _; rw [add_block]; exact hn316_1) | exact hn316_1) (.int .i64 ((rd_T50 l0 x3_2).f1))).trans hx316_0; replace hx316_1 := (cell_far (p := ⟨gb314, 1, none⟩) (by first | (rw [add_block]; exact hn316_1) | (show (Addr.add _ _).block ≠ _; rw [add_block]; exact hn316_1) | exact hn316_1) (.int .i64 ((rd_T50 l0 x3_2).f1))).trans hx316_1; replace hx316_2 := (cell_far (p := ⟨gb314, 1, none⟩) (by first | (rw [add_block]; exact hn316_1) | (show (Addr.add _ _).block ≠ _; rw [add_block]; exact hn316_1) | exact hn316_1) (.int .i64 ((rd_T50 l0 x3_2).f1))).trans hx316_2; replace hx316_0 := (cell_far (p := ⟨gb314, 2, none⟩) (by first | (rw [add_block]; exact hn316_2) | (show (Addr.add _ _).block ≠ _; rw [add_block]; exact hn316_2) | exact hn316_2) (.int .i64 ((rd_T50 l0 x3_2).f2))).trans hx316_0; replace hx316_1 := (cell_far (p := ⟨gb314, 2, none⟩) (by first | (rw [add_block]; exact hn316_2) | (show (Addr.add _ _).block ≠ _; rw [add_block]; exact hn316_2) | exact hn316_2) (.int .i64 ((rd_T50 l0 x3_2).f2))).trans hx316_1; replace hx316_2 := (cell_far (p := ⟨gb314, 2, none⟩) (by first | (rw [add_block]; exact hn316_2) | (show (Addr.add _ _).block ≠ _; rw [add_block]; exact hn316_2) | exact hn316_2) (.int .i64 ((rd_T50 l0 x3_2).f2))).trans hx316_2; (try have hy316_0 := fun (n_ : Nat) => (show (((((w10.drewN n_).setCell ⟨gb314, 0, none⟩ (.int .i64 ((rd_T50 l0 x3_2).f0))).setCell ⟨gb314, 1, none⟩ (.int .i64 ((rd_T50 l0 x3_2).f1))).setCell ⟨gb314, 2, none⟩ (.int .i64 ((rd_T50 l0 x3_2).f2)))).cell? _ = some _ from hx316_0)); (try have hy316_1 := fun (n_ : Nat) => (show (((((w10.drewN n_).setCell ⟨gb314, 0, none⟩ (.int .i64 ((rd_T50 l0 x3_2).f0))).setCell ⟨gb314, 1, none⟩ (.int .i64 ((rd_T50 l0 x3_2).f1))).setCell ⟨gb314, 2, none⟩ (.int .i64 ((rd_T50 l0 x3_2).f2)))).cell? _ = some _ from hx316_1)); (try have hy316_2 := fun (n_ : Nat) => (show (((((w10.drewN n_).setCell ⟨gb314, 0, none⟩ (.int .i64 ((rd_T50 l0 x3_2).f0))).setCell ⟨gb314, 1, none⟩ (.int .i64 ((rd_T50 l0 x3_2).f1))).setCell ⟨gb314, 2, none⟩ (.int .i64 ((rd_T50 l0 x3_2).f2)))).cell? _ = some _ from hx316_2)); clear hn316_0; clear hn316_1; clear hn316_2; replace p316 := eq_true p316; replace q316 := eq_true q316) | (go_at_call 103; (with_reducible refine (spec_l01In.calls ((rd_T50 l0 x3_2).f1) 0 3 false _ A17.out).mono ?_); rintro e w' ⟨rfl, ⟨nd, rfl⟩⟩; (try first | exact ⟨rfl, _, World.drewN_drewN _ _ _⟩ | exact ⟨rfl, _, Eq.trans (World.drewN_drewN _ _ _) (congrArg (World.drewN _) (Nat.add_assoc _ _ _))⟩))))
              go_meet
              case rel => exact ⟨_, (true), (by first | rfl | (simp; done) | (simp [*]; done)), H', ⟨by have := HJ1.out; have := HK2.out; first | omega | exact Nat.le_refl _⟩, ⟨by (with_reducible repeat (first | refine blk_drewN ?_ _ | refine blk_drew ?_ | refine blk_alloc ?_ _)); refine blk_put (cs := #[.int .i64 ((rd_T50 l0 x3_2).f0), .int .i64 ((rd_T50 l0 x3_2).f1), .int .i64 0]) ?_ 2 _ rfl; (with_reducible repeat (first | refine blk_drewN ?_ _ | refine blk_drew ?_ | refine blk_alloc ?_ _)); refine blk_put (cs := #[.int .i64 ((rd_T50 l0 x3_2).f0), .int .i64 0, .int .i64 0]) ?_ 1 _ rfl; (with_reducible repeat (first | refine blk_drewN ?_ _ | refine blk_drew ?_ | refine blk_alloc ?_ _)); refine blk_put (cs := #[.int .i64 0, .int .i64 0, .int .i64 0]) ?_ 0 _ rfl; exact bk⟩, ⟨bb⟩⟩
            ·rw [if_neg c16] at H
             have c16b0 : (((rd_T50 l0 ((rd_T50 l0 x3_2).f0)).f2) == 0) = false := beq_eq_false_iff_ne.mpr c16
             have c16b1 : (((rd_T50 l0 ((rd_T50 l0 x3_2).f0)).f2) != 0) = true := bne_iff_ne.mpr c16
             have H' := Aside0.mk H
             clear H
             obtain ⟨hcz22_0, hcz22_1, hcz22_2, hfz22_0, hfz22_1, hfz22_2⟩ := bx3 BK314.out
             go_wp2_with (first | (go_at_call 103; (with_reducible refine (spec_l01In.calls ((rd_T50 l0 x3_2).f0) 0 (wrap64 (x3_2 - 1)) true _ A12.out).mono ?_); rintro e w' ⟨rfl, ⟨nd, rfl⟩⟩; (try first | exact ⟨rfl, _, World.drewN_drewN _ _ _⟩ | exact ⟨rfl, _, Eq.trans (World.drewN_drewN _ _ _) (congrArg (World.drewN _) (Nat.add_assoc _ _ _))⟩); have p316 : 0 ≤ (((rd_T50 l0 x3_2).f0) : Int) := of_decide_eq_true as_; have q316 : ((rd_T50 l0 x3_2).f0) < (l0.length : Int) := of_decide_eq_true as_; obtain ⟨ad316, e316, hx316_0, hx316_1, hx316_2⟩ := at_T50 HR0.out ((rd_T50 l0 x3_2).f0) p316 q316; obtain rfl : ad313 = ad316 := (by injection e316); have hn316_0 : ad313.block ≠ gb314 := Nat.ne_of_lt (Nat.lt_of_lt_of_le (by have := World.block_lt_of_cell? _ _ hx316_0; first | rwa [add_block] at this | exact this) GW314.out); have hn316_1 : ad313.block ≠ gb314 := Nat.ne_of_lt (Nat.lt_of_lt_of_le (by have := World.block_lt_of_cell? _ _ hx316_0; first | rwa [add_block] at this | exact this) GW314.out); have hn316_2 : ad313.block ≠ gb314 := Nat.ne_of_lt (Nat.lt_of_lt_of_le (by have := World.block_lt_of_cell? _ _ hx316_0; first | rwa [add_block] at this | exact this) GW314.out); replace hx316_0 := pw_cell_below HB.out hx316_0; replace hx316_1 := pw_cell_below HB.out hx316_1; replace hx316_2 := pw_cell_below HB.out hx316_2; replace hx316_0 := (cell_far (p := ⟨gb314, 0, none⟩) (by first | (rw [add_block]; exact hn316_0) | (show (Addr.add _ _).block ≠ _; rw [add_block]; exact hn316_0) | exact hn316_0) (.int .i64 ((rd_T50 l0 x3_2).f0))).trans hx316_0; replace hx316_1 := (cell_far (p := ⟨gb314, 0, none⟩) (by first | (rw [add_block]; exact hn316_0) | (show (Addr.add _ _).block ≠ _; rw [add_block]; exact hn316_0) | exact hn316_0) (.int .i64 ((rd_T50 l0 x3_2).f0))).trans hx316_1; replace hx316_2 := (cell_far (p := ⟨gb314, 0, none⟩) (by first | (rw [add_block]; exact hn316_0) | (show (Addr.add _ _).block ≠ _; rw [add_block]; exact hn316_0) | exact hn316_0) (.int .i64 ((rd_T50 l0 x3_2).f0))).trans hx316_2; replace hx316_0 := (cell_far (p := ⟨gb314, 1, none⟩) (by first | (rw [add_block]; exact hn316_1) | (show (Addr.add _ _).block ≠ _; rw [add_block]; exact hn316_1) | exact hn316_1) (.int .i64 ((rd_T50 l0 x3_2).f1))).trans hx316_0; replace hx316_1 := (cell_far (p := ⟨gb314, 1, none⟩) (by first | (rw [add_block]; exact hn316_1) | (show (Addr.add _ _).block ≠ _; rw [add_block]; exact hn316_1) | exact hn316_1) (.int .i64 ((rd_T50 l0 x3_2).f1))).trans hx316_1; replace hx316_2 := (cell_far (p := ⟨gb314, 1, none⟩) (by first | (rw [add_block]; exact hn316_1) | (show (Addr.add _ _).block ≠ _; rw [add_block]; exact hn316_1) | exact hn316_1) (.int .i64 ((rd_T50 l0 x3_2).f1))).trans hx316_2; replace hx316_0 := (cell_far (p := ⟨gb314, 2, none⟩) (by first | (rw [add_block]; exact hn316_2) | (show (Addr.add _ _).block ≠ _; rw [add_block]; exact hn316_2) | exact hn316_2) (.int .i64 ((rd_T50 l0 x3_2).f2))).trans hx316_0; replace hx316_1 := (cell_far (p := ⟨gb314, 2, none⟩) (by first | (rw [add_block]; exact hn316_2) | (show (Addr.add _ _).block ≠ _; rw [add_block]; exact hn316_2) | exact hn316_2) (.int .i64 ((rd_T50 l0 x3_2).f2))).trans hx316_1; replace hx316_2 := (cell_far (p := ⟨gb314, 2, none⟩) (by first | (rw [add_block]; exact hn316_2) | (show (Addr.add _ _).block ≠ _; rw [add_block]; exact hn316_2) | exact hn316_2) (.int .i64 ((rd_T50 l0 x3_2).f2))).trans hx316_2; (try have hy316_0 := fun (n_ : Nat) => (show (((((w10.drewN n_).setCell ⟨gb314, 0, none⟩ (.int .i64 ((rd_T50 l0 x3_2).f0))).setCell ⟨gb314, 1, none⟩ (.int .i64 ((rd_T50 l0 x3_2).f1))).setCell ⟨gb314, 2, none⟩ (.int .i64 ((rd_T50 l0 x3_2).f2)))).cell? _ = some _ from hx316_0)); (try have hy316_1 := fun (n_ : Nat) => (show (((((w10.drewN n_).setCell ⟨gb314, 0, none⟩ (.int .i64 ((rd_T50 l0 x3_2).f0))).setCell ⟨gb314, 1, none⟩ (.int .i64 ((rd_T50 l0 x3_2).f1))).setCell ⟨gb314, 2, none⟩ (.int .i64 ((rd_T50 l0 x3_2).f2)))).cell? _ = some _ from hx316_1)); (try have hy316_2 := fun (n_ : Nat) => (show (((((w10.drewN n_).setCell ⟨gb314, 0, none⟩ (.int .i64 ((rd_T50 l0 x3_2).f0))).setCell ⟨gb314, 1, none⟩ (.int .i64 ((rd_T50 l0 x3_2).f1))).setCell ⟨gb314, 2, none⟩ (.int .i64 ((rd_T50 l0 x3_2).f2)))).cell? _ = some _ from hx316_2)); clear hn316_0; clear hn316_1; clear hn316_2; replace p316 := eq_true p316; replace q316 := eq_true q316))
             repeat (go_quiet (first | (go_at_call 103; (with_reducible refine (spec_l01In.calls ((rd_T50 l0 x3_2).f0) 0 (wrap64 (x3_2 - 1)) true _ A12.out).mono ?_); rintro e w' ⟨rfl, ⟨nd, rfl⟩⟩; (try first | exact ⟨rfl, _, World.drewN_drewN _ _ _⟩ | exact ⟨rfl, _, Eq.trans (World.drewN_drewN _ _ _) (congrArg (World.drewN _) (Nat.add_assoc _ _ _))⟩); have p316 : 0 ≤ (((rd_T50 l0 x3_2).f0) : Int) := of_decide_eq_true as_; have q316 : ((rd_T50 l0 x3_2).f0) < (l0.length : Int) := of_decide_eq_true as_; obtain ⟨ad316, e316, hx316_0, hx316_1, hx316_2⟩ := at_T50 HR0.out ((rd_T50 l0 x3_2).f0) p316 q316; obtain rfl : ad313 = ad316 := (by injection e316); have hn316_0 : ad313.block ≠ gb314 := Nat.ne_of_lt (Nat.lt_of_lt_of_le (by have := World.block_lt_of_cell? _ _ hx316_0; first | rwa [add_block] at this | exact this) GW314.out); have hn316_1 : ad313.block ≠ gb314 := Nat.ne_of_lt (Nat.lt_of_lt_of_le (by have := World.block_lt_of_cell? _ _ hx316_0; first | rwa [add_block] at this | exact this) GW314.out); have hn316_2 : ad313.block ≠ gb314 := Nat.ne_of_lt (Nat.lt_of_lt_of_le (by have := World.block_lt_of_cell? _ _ hx316_0; first | rwa [add_block] at this | exact this) GW314.out); replace hx316_0 := pw_cell_below HB.out hx316_0; replace hx316_1 := pw_cell_below HB.out hx316_1; replace hx316_2 := pw_cell_below HB.out hx316_2; replace hx316_0 := (cell_far (p := ⟨gb314, 0, none⟩) (by first | (rw [add_block]; exact hn316_0) | (show (Addr.add _ _).block ≠ _; rw [add_block]; exact hn316_0) | exact hn316_0) (.int .i64 ((rd_T50 l0 x3_2).f0))).trans hx316_0; replace hx316_1 := (cell_far (p := ⟨gb314, 0, none⟩) (by first | (rw [add_block]; exact hn316_0) | (show (Addr.add _ _).block ≠ _; rw [add_block]; exact hn316_0) | exact hn316_0) (.int .i64 ((rd_T50 l0 x3_2).f0))).trans hx316_1; replace hx316_2 := (cell_far (p := ⟨gb314, 0, none⟩) (by first | (rw [add_block]; exact hn316_0) | (show (Addr.add _ _).block ≠ _; rw [add_block]; exact hn316_0) | exact hn316_0) (.int .i64 ((rd_T50 l0 x3_2).f0))).trans hx316_2; replace hx316_0 := (cell_far (p := ⟨gb314, 1, none⟩) (by first | (rw [add_block]; exact hn316_1) | (show (Addr.add _ _).block ≠ _; rw [add_block]; exact hn316_1) | exact hn316_1) (.int .i64 ((rd_T50 l0 x3_2).f1))).trans hx316_0; replace hx316_1 := (cell_far (p := ⟨gb314, 1, none⟩) (by first | (rw [add_block]; exact hn316_1) | (show (Addr.add _ _).block ≠ _; rw [add_block]; exact hn316_1) | exact hn316_1) (.int .i64 ((rd_T50 l0 x3_2).f1))).trans hx316_1; replace hx316_2 := (cell_far (p := ⟨gb314, 1, none⟩) (by first | (rw [add_block]; exact hn316_1) | (show (Addr.add _ _).block ≠ _; rw [add_block]; exact hn316_1) | exact hn316_1) (.int .i64 ((rd_T50 l0 x3_2).f1))).trans hx316_2; replace hx316_0 := (cell_far (p := ⟨gb314, 2, none⟩) (by first | (rw [add_block]; exact hn316_2) | (show (Addr.add _ _).block ≠ _; rw [add_block]; exact hn316_2) | exact hn316_2) (.int .i64 ((rd_T50 l0 x3_2).f2))).trans hx316_0; replace hx316_1 := (cell_far (p := ⟨gb314, 2, none⟩) (by first | (rw [add_block]; exact hn316_2) | (show (Addr.add _ _).block ≠ _; rw [add_block]; exact hn316_2) | exact hn316_2) (.int .i64 ((rd_T50 l0 x3_2).f2))).trans hx316_1; replace hx316_2 := (cell_far (p := ⟨gb314, 2, none⟩) (by first | (rw [add_block]; exact hn316_2) | (show (Addr.add _ _).block ≠ _; rw [add_block]; exact hn316_2) | exact hn316_2) (.int .i64 ((rd_T50 l0 x3_2).f2))).trans hx316_2; (try have hy316_0 := fun (n_ : Nat) => (show (((((w10.drewN n_).setCell ⟨gb314, 0, none⟩ (.int .i64 ((rd_T50 l0 x3_2).f0))).setCell ⟨gb314, 1, none⟩ (.int .i64 ((rd_T50 l0 x3_2).f1))).setCell ⟨gb314, 2, none⟩ (.int .i64 ((rd_T50 l0 x3_2).f2)))).cell? _ = some _ from hx316_0)); (try have hy316_1 := fun (n_ : Nat) => (show (((((w10.drewN n_).setCell ⟨gb314, 0, none⟩ (.int .i64 ((rd_T50 l0 x3_2).f0))).setCell ⟨gb314, 1, none⟩ (.int .i64 ((rd_T50 l0 x3_2).f1))).setCell ⟨gb314, 2, none⟩ (.int .i64 ((rd_T50 l0 x3_2).f2)))).cell? _ = some _ from hx316_1)); (try have hy316_2 := fun (n_ : Nat) => (show (((((w10.drewN n_).setCell ⟨gb314, 0, none⟩ (.int .i64 ((rd_T50 l0 x3_2).f0))).setCell ⟨gb314, 1, none⟩ (.int .i64 ((rd_T50 l0 x3_2).f1))).setCell ⟨gb314, 2, none⟩ (.int .i64 ((rd_T50 l0 x3_2).f2)))).cell? _ = some _ from hx316_2)); clear hn316_0; clear hn316_1; clear hn316_2; replace p316 := eq_true p316; replace q316 := eq_true q316)); try go_wp2_with (first | (go_at_call 103; (with_reducible refine (spec_l01In.calls ((rd_T50 l0 x3_2).f0) 0 (wrap64 (x3_2 - 1)) true _ A12.out).mono ?_); rintro e w' ⟨rfl, ⟨nd, rfl⟩⟩; (try first | exact ⟨rfl, _, World.drewN_drewN _ _ _⟩ | exact ⟨rfl, _, Eq.trans (World.drewN_drewN _ _ _) (congrArg (World.drewN _) (Nat.add_assoc _ _ _))⟩); have p316 : 0 ≤ (((rd_T50 l0 x3_2).f0) : Int) := of_decide_eq_true as_; have q316 : ((rd_T50 l0 x3_2).f0) < (l0.length : Int) := of_decide_eq_true as_; obtain ⟨ad316, e316, hx316_0, hx316_1, hx316_2⟩ := at_T50 HR0.out ((rd_T50 l0 x3_2).f0) p316 q316; obtain rfl : ad313 = ad316 := (by injection e316); have hn316_0 : ad313.block ≠ gb314 := Nat.ne_of_lt (Nat.lt_of_lt_of_le (by have := World.block_lt_of_cell? _ _ hx316_0; first | rwa [add_block] at this | exact this) GW314.out); have hn316_1 : ad313.block ≠ gb314 := Nat.ne_of_lt (Nat.lt_of_lt_of_le (by have := World.block_lt_of_cell? _ _ hx316_0; first | rwa [add_block] at this | exact this) GW314.out); have hn316_2 : ad313.block ≠ gb314 := Nat.ne_of_lt (Nat.lt_of_lt_of_le (by have := World.block_lt_of_cell? _ _ hx316_0; first | rwa [add_block] at this | exact this) GW314.out); replace hx316_0 := pw_cell_below HB.out hx316_0; replace hx316_1 := pw_cell_below HB.out hx316_1; replace hx316_2 := pw_cell_below HB.out hx316_2; replace hx316_0 := (cell_far (p := ⟨gb314, 0, none⟩) (by first | (rw [add_block]; exact hn316_0) | (show (Addr.add _ _).block ≠ _; rw [add_block]; exact hn316_0) | exact hn316_0) (.int .i64 ((rd_T50 l0 x3_2).f0))).trans hx316_0; replace hx316_1 := (cell_far (p := ⟨gb314, 0, none⟩) (by first | (rw [add_block]; exact hn316_0) | (show (Addr.add _ _).block ≠ _; rw [add_block]; exact hn316_0) | exact hn316_0) (.int .i64 ((rd_T50 l0 x3_2).f0))).trans hx316_1; replace hx316_2 := (cell_far (p := ⟨gb314, 0, none⟩) (by first | (rw [add_block]; exact hn316_0) | (show (Addr.add _ _).block ≠ _; rw [add_block]; exact hn316_0) | exact hn316_0) (.int .i64 ((rd_T50 l0 x3_2).f0))).trans hx316_2; replace hx316_0 := (cell_far (p := ⟨gb314, 1, none⟩) (by first | (rw [add_block]; exact hn316_1) | (show (Addr.add _ _).block ≠ _; rw [add_block]; exact hn316_1) | exact hn316_1) (.int .i64 ((rd_T50 l0 x3_2).f1))).trans hx316_0; replace hx316_1 := (cell_far (p := ⟨gb314, 1, none⟩) (by first | (rw [add_block]; exact hn316_1) | (show (Addr.add _ _).block ≠ _; rw [add_block]; exact hn316_1) | exact hn316_1) (.int .i64 ((rd_T50 l0 x3_2).f1))).trans hx316_1; replace hx316_2 := (cell_far (p := ⟨gb314, 1, none⟩) (by first | (rw [add_block]; exact hn316_1) | (show (Addr.add _ _).block ≠ _; rw [add_block]; exact hn316_1) | exact hn316_1) (.int .i64 ((rd_T50 l0 x3_2).f1))).trans hx316_2; replace hx316_0 := (cell_far (p := ⟨gb314, 2, none⟩) (by first | (rw [add_block]; exact hn316_2) | (show (Addr.add _ _).block ≠ _; rw [add_block]; exact hn316_2) | exact hn316_2) (.int .i64 ((rd_T50 l0 x3_2).f2))).trans hx316_0; replace hx316_1 := (cell_far (p := ⟨gb314, 2, none⟩) (by first | (rw [add_block]; exact hn316_2) | (show (Addr.add _ _).block ≠ _; rw [add_block]; exact hn316_2) | exact hn316_2) (.int .i64 ((rd_T50 l0 x3_2).f2))).trans hx316_1; replace hx316_2 := (cell_far (p := ⟨gb314, 2, none⟩) (by first | (rw [add_block]; exact hn316_2) | (show (Addr.add _ _).block ≠ _; rw [add_block]; exact hn316_2) | exact hn316_2) (.int .i64 ((rd_T50 l0 x3_2).f2))).trans hx316_2; (try have hy316_0 := fun (n_ : Nat) => (show (((((w10.drewN n_).setCell ⟨gb314, 0, none⟩ (.int .i64 ((rd_T50 l0 x3_2).f0))).setCell ⟨gb314, 1, none⟩ (.int .i64 ((rd_T50 l0 x3_2).f1))).setCell ⟨gb314, 2, none⟩ (.int .i64 ((rd_T50 l0 x3_2).f2)))).cell? _ = some _ from hx316_0)); (try have hy316_1 := fun (n_ : Nat) => (show (((((w10.drewN n_).setCell ⟨gb314, 0, none⟩ (.int .i64 ((rd_T50 l0 x3_2).f0))).setCell ⟨gb314, 1, none⟩ (.int .i64 ((rd_T50 l0 x3_2).f1))).setCell ⟨gb314, 2, none⟩ (.int .i64 ((rd_T50 l0 x3_2).f2)))).cell? _ = some _ from hx316_1)); (try have hy316_2 := fun (n_ : Nat) => (show (((((w10.drewN n_).setCell ⟨gb314, 0, none⟩ (.int .i64 ((rd_T50 l0 x3_2).f0))).setCell ⟨gb314, 1, none⟩ (.int .i64 ((rd_T50 l0 x3_2).f1))).setCell ⟨gb314, 2, none⟩ (.int .i64 ((rd_T50 l0 x3_2).f2)))).cell? _ = some _ from hx316_2)); clear hn316_0; clear hn316_1; clear hn316_2; replace p316 := eq_true p316; replace q316 := eq_true q316)))
             go_meet
             case rel => exact ⟨_, (true), (by first | rfl | (simp; done) | (simp [*]; done)), H', ⟨by have := HJ1.out; have := HK2.out; first | omega | exact Nat.le_refl _⟩, ⟨by (with_reducible repeat (first | refine blk_drewN ?_ _ | refine blk_drew ?_ | refine blk_alloc ?_ _)); refine blk_put (cs := #[.int .i64 ((rd_T50 l0 x3_2).f0), .int .i64 ((rd_T50 l0 x3_2).f1), .int .i64 0]) ?_ 2 _ rfl; (with_reducible repeat (first | refine blk_drewN ?_ _ | refine blk_drew ?_ | refine blk_alloc ?_ _)); refine blk_put (cs := #[.int .i64 ((rd_T50 l0 x3_2).f0), .int .i64 0, .int .i64 0]) ?_ 1 _ rfl; (with_reducible repeat (first | refine blk_drewN ?_ _ | refine blk_drew ?_ | refine blk_alloc ?_ _)); refine blk_put (cs := #[.int .i64 0, .int .i64 0, .int .i64 0]) ?_ 0 _ rfl; exact bk⟩, ⟨bb⟩⟩
           ·rw [if_neg c15] at H
            exact absurd H (by simp)
          ·rw [if_neg c14] at H
           exact absurd H (by simp)
         ·replace c13 := Bool.eq_false_iff.mpr c13
          subst c13
          have H1 : (spec_TreeOk.j2 k2 l0 x3_2 true ((rd_T50 l0 x3_2).f0) ((rd_T50 l0 x3_2).f1) ((rd_T50 l0 x3_2).f2)) = some r := by rw [if_neg (show ¬ (false = true) by decide)] at H; exact H
          clear H
          have H := H1
          clear H1
          have H' := Aside0.mk H
          clear H
          obtain ⟨hcz23_0, hcz23_1, hcz23_2, hfz23_0, hfz23_1, hfz23_2⟩ := bx3 BK314.out
          go_wp2_with (first | (go_at_call 103; (with_reducible refine (spec_l01In.calls ((rd_T50 l0 x3_2).f0) 0 (wrap64 (x3_2 - 1)) false _ A12.out).mono ?_); rintro e w' ⟨rfl, ⟨nd, rfl⟩⟩; (try first | exact ⟨rfl, _, World.drewN_drewN _ _ _⟩ | exact ⟨rfl, _, Eq.trans (World.drewN_drewN _ _ _) (congrArg (World.drewN _) (Nat.add_assoc _ _ _))⟩)))
          repeat (go_quiet (first | (go_at_call 103; (with_reducible refine (spec_l01In.calls ((rd_T50 l0 x3_2).f0) 0 (wrap64 (x3_2 - 1)) false _ A12.out).mono ?_); rintro e w' ⟨rfl, ⟨nd, rfl⟩⟩; (try first | exact ⟨rfl, _, World.drewN_drewN _ _ _⟩ | exact ⟨rfl, _, Eq.trans (World.drewN_drewN _ _ _) (congrArg (World.drewN _) (Nat.add_assoc _ _ _))⟩))); try go_wp2_with (first | (go_at_call 103; (with_reducible refine (spec_l01In.calls ((rd_T50 l0 x3_2).f0) 0 (wrap64 (x3_2 - 1)) false _ A12.out).mono ?_); rintro e w' ⟨rfl, ⟨nd, rfl⟩⟩; (try first | exact ⟨rfl, _, World.drewN_drewN _ _ _⟩ | exact ⟨rfl, _, Eq.trans (World.drewN_drewN _ _ _) (congrArg (World.drewN _) (Nat.add_assoc _ _ _))⟩))))
          go_meet
          case rel => exact ⟨_, (true), (by first | rfl | (simp; done) | (simp [*]; done)), H', ⟨by have := HJ1.out; have := HK2.out; first | omega | exact Nat.le_refl _⟩, ⟨by (with_reducible repeat (first | refine blk_drewN ?_ _ | refine blk_drew ?_ | refine blk_alloc ?_ _)); refine blk_put (cs := #[.int .i64 ((rd_T50 l0 x3_2).f0), .int .i64 ((rd_T50 l0 x3_2).f1), .int .i64 0]) ?_ 2 _ rfl; (with_reducible repeat (first | refine blk_drewN ?_ _ | refine blk_drew ?_ | refine blk_alloc ?_ _)); refine blk_put (cs := #[.int .i64 ((rd_T50 l0 x3_2).f0), .int .i64 0, .int .i64 0]) ?_ 1 _ rfl; (with_reducible repeat (first | refine blk_drewN ?_ _ | refine blk_drew ?_ | refine blk_alloc ?_ _)); refine blk_put (cs := #[.int .i64 0, .int .i64 0, .int .i64 0]) ?_ 0 _ rfl; exact bk⟩, ⟨bb⟩⟩
        case rest =>
         clear HC9
         try clear c1
         try clear p2
         try clear p3
         try clear q3
         try clear hx3
         try clear qi3
         try clear c4
         try clear c5
         try clear c5b0
         try clear c5b1
         try clear c6
         try clear p6
         try clear c7
         try clear c7b0
         try clear c8
         try clear c8b0
         try clear c10
         try clear c13
         try clear c14
         try clear c14b0
         try clear c15
         try clear c15b0
         try clear c16
         try clear c16b0
         try clear c16b1
         try clear c18
         try clear hcz11_0
         try clear hcz11_1
         try clear hcz11_2
         try clear hcz20_0
         try clear hcz20_1
         try clear hcz20_2
         try clear hcz21_0
         try clear hcz21_1
         try clear hcz21_2
         try clear hcz22_0
         try clear hcz22_1
         try clear hcz22_2
         try clear hcz23_0
         try clear hcz23_1
         try clear hcz23_2
         try clear hfz11_0
         try clear hfz11_1
         try clear hfz11_2
         try clear hfz20_0
         try clear hfz20_1
         try clear hfz20_2
         try clear hfz21_0
         try clear hfz21_1
         try clear hfz21_2
         try clear hfz22_0
         try clear hfz22_1
         try clear hfz22_2
         try clear hfz23_0
         try clear hfz23_1
         try clear hfz23_2
         try clear hx312_0
         try clear hx312_1
         try clear hx312_2
         try clear hx313_0
         try clear hx313_1
         try clear hx313_2
         try clear hx316_0
         try clear hx316_1
         try clear hx316_2
         try clear p2
         try clear p3
         try clear p312
         try clear p313
         try clear p316
         try clear q3
         try clear q312
         try clear q313
         try clear q316
         obtain ⟨kq, x53_8, rfl, HA, HJ8, BK314, HB⟩ := hcut
         cases kq with
         | zero => exact absurd HA.out (by simp [spec_TreeOk.j2])
         | succ kj8 =>
          have H := HA.out
          clear HA
          simp only [spec_TreeOk.j2] at H
          by_cases c24 : x53_8 = true
          ·subst c24
           have H1 : (some false) = some r := by rw [if_pos rfl] at H; exact H
           clear H
           have H := H1
           clear H1
           obtain rfl := Option.some.inj H
           go_wp2
           repeat (go_quiet (fail); try go_wp2)
           go_ret
           exact ⟨er, bb⟩
          ·replace c24 := Bool.eq_false_iff.mpr c24
           subst c24
           have H1 : (spec_TreeOk.l1 kj8 l0 x3_2 1 ((rd_T50 l0 x3_2).f0) ((rd_T50 l0 x3_2).f1) ((rd_T50 l0 x3_2).f2)) = some r := by rw [if_neg (show ¬ (false = true) by decide)] at H; exact H
           clear H
           have H := H1
           clear H1
           have H' := Aside0.mk H
           clear H
           go_wp2
           repeat (go_quiet (fail); try go_wp2)
           go_loopg [5] kj8 (fun kq v5 w' => ∃ (x5_4 : Int), v5 = .int .i64 x5_4 ∧ Aside0 (spec_TreeOk.l1 kq l0 x3_2 x5_4 ((rd_T50 l0 x3_2).f0) ((rd_T50 l0 x3_2).f1) ((rd_T50 l0 x3_2).f2) = some r) ∧ Aside0 (kq ≤ kj8) ∧ Aside0 (w'.heap[gb314]? = some (.cells #[.int .i64 ((rd_T50 l0 x3_2).f0), .int .i64 ((rd_T50 l0 x3_2).f1), .int .i64 ((rd_T50 l0 x3_2).f2)] 50 (0, 0))) ∧ Aside0 (Below w.heap.size w w'))
           case atStart => exact ⟨(1), (by first | rfl | (simp; done) | (simp [*]; done)), H', ⟨Nat.le_refl _⟩, ⟨by exact bk⟩, ⟨bb⟩⟩
           case round =>
            clear H'
            try clear c1
            try clear c2
            try clear p2
            try clear p3
            try clear q3
            try clear hx3
            try clear qi3
            try clear c4
            try clear c5
            try clear c5b0
            try clear c5b1
            try clear c6
            try clear p6
            try clear c7
            try clear c7b0
            try clear c8
            try clear c8b0
            try clear c10
            try clear c13
            try clear c14
            try clear c14b0
            try clear c15
            try clear c15b0
            try clear c16
            try clear c16b0
            try clear c16b1
            try clear c18
            try clear c24
            try clear hcz11_0
            try clear hcz11_1
            try clear hcz11_2
            try clear hcz20_0
            try clear hcz20_1
            try clear hcz20_2
            try clear hcz21_0
            try clear hcz21_1
            try clear hcz21_2
            try clear hcz22_0
            try clear hcz22_1
            try clear hcz22_2
            try clear hcz23_0
            try clear hcz23_1
            try clear hcz23_2
            try clear hfz11_0
            try clear hfz11_1
            try clear hfz11_2
            try clear hfz20_0
            try clear hfz20_1
            try clear hfz20_2
            try clear hfz21_0
            try clear hfz21_1
            try clear hfz21_2
            try clear hfz22_0
            try clear hfz22_1
            try clear hfz22_2
            try clear hfz23_0
            try clear hfz23_1
            try clear hfz23_2
            try clear hx312_0
            try clear hx312_1
            try clear hx312_2
            try clear hx313_0
            try clear hx313_1
            try clear hx313_2
            try clear hx316_0
            try clear hx316_1
            try clear hx316_2
            try clear p2
            try clear p3
            try clear p312
            try clear p313
            try clear p316
            try clear p6
            try clear q3
            try clear q312
            try clear q313
            try clear q316
            obtain ⟨x5_4, rfl, HA, HK4, BK314, HB⟩ := hrel
            cases gk with
            | zero => exact absurd HA.out (by simp [spec_TreeOk.l1])
            | succ k4 =>
             have H := HA.out
             clear HA
             simp only [spec_TreeOk.l1] at H
             by_cases c25 : x5_4 < x3_2
             ·rw [if_pos c25] at H
              have c25b0 : decide (x5_4 < x3_2) = true := decide_eq_true c25
              clear c25
              by_cases c26 : 0 ≤ x5_4
              ·rw [if_pos c26] at H
               have c26b0 : decide (0 ≤ x5_4) = true := decide_eq_true c26
               clear c26
               by_cases c27 : x5_4 < (l0.length : Int)
               ·rw [if_pos c27] at H
                have c27b0 : decide (x5_4 < (l0.length : Int)) = true := decide_eq_true c27
                clear c27
                by_cases c28 : ((rd_T50 l0 x5_4).f0) = ((rd_T50 l0 x3_2).f0)
                ·rw [if_pos c28] at H
                 have c28b0 : (((rd_T50 l0 x5_4).f0) == ((rd_T50 l0 x3_2).f0)) = true := beq_iff_eq.mpr c28
                 have c28b1 : (((rd_T50 l0 x5_4).f0) != ((rd_T50 l0 x3_2).f0)) = false := bne_eq_false_iff_eq.mpr c28
                 clear c28
                 by_cases c29 : ((rd_T50 l0 x5_4).f1) = ((rd_T50 l0 x3_2).f1)
                 ·rw [if_pos c29] at H
                  have c29b0 : (((rd_T50 l0 x5_4).f1) == ((rd_T50 l0 x3_2).f1)) = true := beq_iff_eq.mpr c29
                  have c29b1 : (((rd_T50 l0 x5_4).f1) != ((rd_T50 l0 x3_2).f1)) = false := bne_eq_false_iff_eq.mpr c29
                  clear c29
                  obtain rfl := Option.some.inj H
                  have p319 : 0 ≤ (x5_4 : Int) := of_decide_eq_true as_
                  have q319 : x5_4 < (l0.length : Int) := of_decide_eq_true as_
                  obtain ⟨ad319, e319, hx319_0, hx319_1, hx319_2⟩ := at_T50 HR0.out x5_4 p319 q319
                  obtain rfl : ad313 = ad319 := (by injection e319)
                  replace hx319_0 := pw_cell_below HB.out hx319_0
                  replace hx319_1 := pw_cell_below HB.out hx319_1
                  replace hx319_2 := pw_cell_below HB.out hx319_2
                  replace p319 := eq_true p319
                  replace q319 := eq_true q319
                  obtain ⟨hcz30_0, hcz30_1, hcz30_2, hfz30_0, hfz30_1, hfz30_2⟩ := bx3 BK314.out
                  have p320 : 0 ≤ (x5_4 : Int) := of_decide_eq_true as_
                  have q320 : x5_4 < (l0.length : Int) := of_decide_eq_true as_
                  obtain ⟨ad320, e320, hx320_0, hx320_1, hx320_2⟩ := at_T50 HR0.out x5_4 p320 q320
                  obtain rfl : ad313 = ad320 := (by injection e320)
                  replace hx320_0 := pw_cell_below HB.out hx320_0
                  replace hx320_1 := pw_cell_below HB.out hx320_1
                  replace hx320_2 := pw_cell_below HB.out hx320_2
                  replace p320 := eq_true p320
                  replace q320 := eq_true q320
                  go_wp2
                  repeat (go_quiet (fail); try go_wp2)
                  go_ret
                  exact ⟨er, bb⟩
                 ·rw [if_neg c29] at H
                  have c29b0 : (((rd_T50 l0 x5_4).f1) == ((rd_T50 l0 x3_2).f1)) = false := beq_eq_false_iff_ne.mpr c29
                  have c29b1 : (((rd_T50 l0 x5_4).f1) != ((rd_T50 l0 x3_2).f1)) = true := bne_iff_ne.mpr c29
                  have H' := Aside0.mk H
                  clear H
                  have p319 : 0 ≤ (x5_4 : Int) := of_decide_eq_true as_
                  have q319 : x5_4 < (l0.length : Int) := of_decide_eq_true as_
                  obtain ⟨ad319, e319, hx319_0, hx319_1, hx319_2⟩ := at_T50 HR0.out x5_4 p319 q319
                  obtain rfl : ad313 = ad319 := (by injection e319)
                  replace hx319_0 := pw_cell_below HB.out hx319_0
                  replace hx319_1 := pw_cell_below HB.out hx319_1
                  replace hx319_2 := pw_cell_below HB.out hx319_2
                  replace p319 := eq_true p319
                  replace q319 := eq_true q319
                  obtain ⟨hcz31_0, hcz31_1, hcz31_2, hfz31_0, hfz31_1, hfz31_2⟩ := bx3 BK314.out
                  have p320 : 0 ≤ (x5_4 : Int) := of_decide_eq_true as_
                  have q320 : x5_4 < (l0.length : Int) := of_decide_eq_true as_
                  obtain ⟨ad320, e320, hx320_0, hx320_1, hx320_2⟩ := at_T50 HR0.out x5_4 p320 q320
                  obtain rfl : ad313 = ad320 := (by injection e320)
                  replace hx320_0 := pw_cell_below HB.out hx320_0
                  replace hx320_1 := pw_cell_below HB.out hx320_1
                  replace hx320_2 := pw_cell_below HB.out hx320_2
                  replace p320 := eq_true p320
                  replace q320 := eq_true q320
                  go_wp2
                  repeat (go_quiet (fail); try go_wp2)
                  go_roundg k4
                  case measure => have := HJ1.out; have := HK2.out; have := HJ8.out; have := HK4.out; omega
                  case rel => exact ⟨(wrap64 (x5_4 + 1)), (by first | rfl | (simp; done) | (simp [*]; done)), H', ⟨by have := HJ1.out; have := HK2.out; have := HJ8.out; have := HK4.out; omega⟩, ⟨by exact bk⟩, ⟨bb⟩⟩
                ·rw [if_neg c28] at H
                 have c28b0 : (((rd_T50 l0 x5_4).f0) == ((rd_T50 l0 x3_2).f0)) = false := beq_eq_false_iff_ne.mpr c28
                 have c28b1 : (((rd_T50 l0 x5_4).f0) != ((rd_T50 l0 x3_2).f0)) = true := bne_iff_ne.mpr c28
                 have H' := Aside0.mk H
                 clear H
                 have p319 : 0 ≤ (x5_4 : Int) := of_decide_eq_true as_
                 have q319 : x5_4 < (l0.length : Int) := of_decide_eq_true as_
                 obtain ⟨ad319, e319, hx319_0, hx319_1, hx319_2⟩ := at_T50 HR0.out x5_4 p319 q319
                 obtain rfl : ad313 = ad319 := (by injection e319)
                 replace hx319_0 := pw_cell_below HB.out hx319_0
                 replace hx319_1 := pw_cell_below HB.out hx319_1
                 replace hx319_2 := pw_cell_below HB.out hx319_2
                 replace p319 := eq_true p319
                 replace q319 := eq_true q319
                 obtain ⟨hcz32_0, hcz32_1, hcz32_2, hfz32_0, hfz32_1, hfz32_2⟩ := bx3 BK314.out
                 go_wp2
                 repeat (go_quiet (fail); try go_wp2)
                 go_roundg k4
                 case measure => have := HJ1.out; have := HK2.out; have := HJ8.out; have := HK4.out; omega
                 case rel => exact ⟨(wrap64 (x5_4 + 1)), (by first | rfl | (simp; done) | (simp [*]; done)), H', ⟨by have := HJ1.out; have := HK2.out; have := HJ8.out; have := HK4.out; omega⟩, ⟨by exact bk⟩, ⟨bb⟩⟩
               ·rw [if_neg c27] at H
                exact absurd H (by simp)
              ·rw [if_neg c26] at H
               exact absurd H (by simp)
             ·rw [if_neg c25] at H
              have c25b0 : decide (x5_4 < x3_2) = false := decide_eq_false c25
              clear c25
              have H' := Aside0.mk H
              clear H
              go_wp2
              repeat (go_quiet (fail); try go_wp2)
              go_roundg k4
              case measure => have := HJ1.out; have := HK2.out; have := HJ8.out; have := HK4.out; omega
              case rel => exact ⟨(wrap64 (x3_2 + 1)), (by first | rfl | (simp; done) | (simp [*]; done)), H', ⟨by have := HJ1.out; have := HK2.out; have := HJ8.out; have := HK4.out; omega⟩, ⟨bb⟩⟩
       ·rw [if_neg c8] at H
        exact absurd H (by simp)
      ·rw [if_neg c7] at H
       have c7b0 : decide (x3_2 < (l0.length : Int)) = false := decide_eq_false c7
       clear c7
       obtain rfl := Option.some.inj H
       go_wp2
       repeat (go_quiet (fail); try go_wp2)
       go_ret
       exact ⟨er, bb⟩

/-- A state of type 109 at block g of W; what its slices lead to came in by w0. -/
def IsS109 (w0 W : World) (g : Nat) (f0 : List Int) (f1 : Int) (f2 : Int) : Prop := ∃ A0 c0, W.heap[g]? = some (.cells #[.slice A0 f0.length c0, .int .i64 f1, .int .i64 f2] 109 (0, 0)) ∧ w0.heap.size ≤ g ∧ Kd.C (Kd.int .u8) w0 A0 f0.length f0
theorem IsS109.grown {w0 W : World} {g : Nat} {f0 : List Int} {f1 : Int} {f2 : Int} {W1 : World} {row : Option Nat} (h : IsS109 w0 W g f0 f1 f2) (hw : W.grownBy W1 row) (hne : some g ≠ row) : IsS109 w0 W1 g f0 f1 f2 := by
 obtain ⟨A0, c0, hb, hg, hr0⟩ := h
 exact ⟨A0, c0, blk_grown hb hw hne, hg, hr0⟩
theorem IsS109.own_neN {w0 W : World} {g : Nat} {f0 : List Int} {f1 : Int} {f2 : Int} {α : Type} {d : Kd α} {e : Nat} {base : Nat} {ok : Nat → Prop} {v : Value} {xs : List α} (h : IsS109 w0 W g f0 f1 f2) (ho : Kd.N d e W base ok v xs) (ht : e ≠ 109) : some g ≠ v.ownBlock := by
 obtain ⟨A0, c0, hb, hg, hr0⟩ := h
 exact Kd.N_ne ho hb ht
theorem IsS109.fresh {w0 W : World} {g : Nat} {f0 : List Int} {f1 : Int} {f2 : Int} (h : IsS109 w0 W g f0 f1 f2) : ∀ k, W.heap.size ≤ k → k ≠ g := by
 obtain ⟨A0, c0, hb, hg, hr0⟩ := h
 exact Kd.freshB hb
theorem IsS109.kept {w0 W : World} {g : Nat} {f0 : List Int} {f1 : Int} {f2 : Int} {W1 : World} {S : Nat → Prop} (h : IsS109 w0 W g f0 f1 f2) (hk : Kept W W1 S) (hne : ¬ S g) : IsS109 w0 W1 g f0 f1 f2 := by
 obtain ⟨A0, c0, hb, hg, hr0⟩ := h
 exact ⟨A0, c0, blk_kept hb hk hne, hg, hr0⟩
theorem IsS109.below {w0 W : World} {g : Nat} {f0 : List Int} {f1 : Int} {f2 : Int} {W1 : World} (h : IsS109 w0 W g f0 f1 f2) (hw : Below W.heap.size W W1) : IsS109 w0 W1 g f0 f1 f2 := h.grown (grown_of_below hw none) (by simp)
theorem IsS109.alloc {w0 W : World} {g : Nat} {f0 : List Int} {f1 : Int} {f2 : Int} (h : IsS109 w0 W g f0 f1 f2) (o : Obj) : IsS109 w0 (W.alloc o) g f0 f1 f2 := h.below (below_alloc (Below.refl _ _) o)
theorem IsS109.drewN {w0 W : World} {g : Nat} {f0 : List Int} {f1 : Int} {f2 : Int} (h : IsS109 w0 W g f0 f1 f2) (m : Nat) : IsS109 w0 (W.drewN m) g f0 f1 f2 := h
theorem IsS109.drew {w0 W : World} {g : Nat} {f0 : List Int} {f1 : Int} {f2 : Int} (h : IsS109 w0 W g f0 f1 f2) : IsS109 w0 W.drew g f0 f1 f2 := h
theorem IsS109.at_ {w0 W : World} {g : Nat} {f0 : List Int} {f1 : Int} {f2 : Int} {w' : World} {m : Nat} (hq : W.drewN m = w') (h : IsS109 w0 W g f0 f1 f2) : IsS109 w0 w' g f0 f1 f2 := by subst hq; exact IsS109.drewN h m
theorem IsS109.apart {w0 W : World} {g : Nat} {f0 : List Int} {f1 : Int} {f2 : Int} {α : Type} {d : Kd α} {e : Nat} {base : Nat} {ok : Nat → Prop} {v : Value} {xs : List α} (h : IsS109 w0 W g f0 f1 f2) (ho : d.R e W base ok v xs) (ht : ∀ q, q ∈ e :: d.E → q ≠ 109) : d.R e W base (fun k => ok k ∧ k ≠ g) v xs := by
 obtain ⟨A0, c0, hb, hg, hr0⟩ := h
 exact Kd.R_types ho hb ht
theorem IsS109.own_ne {w0 W : World} {g : Nat} {f0 : List Int} {f1 : Int} {f2 : Int} {α : Type} {d : Kd α} {e : Nat} {base : Nat} {ok : Nat → Prop} {v : Value} {xs : List α} (h : IsS109 w0 W g f0 f1 f2) (ho : d.R e W base ok v xs) (ht : e ≠ 109) : some g ≠ v.ownBlock := by
 obtain ⟨A0, c0, hb, hg, hr0⟩ := h
 exact Kd.R_ne ho hb ht
theorem IsS109.apartQ {w0 W : World} {g : Nat} {f0 : List Int} {f1 : Int} {f2 : Int} {α : Type} {d : Kd α} {e : Nat} {base : Nat} {ok : Nat → Prop} {v : Value} {xs : List α} (h : IsS109 w0 W g f0 f1 f2) (ho : d.Q e W base ok v xs) (ht : ∀ q, q ∈ e :: d.E → q ≠ 109) : d.Q e W base (fun k => ok k ∧ k ≠ g) v xs := by
 obtain ⟨A0, c0, hb, hg, hr0⟩ := h
 exact Kd.Q_types ho hb ht
theorem IsS109.own_neQ {w0 W : World} {g : Nat} {f0 : List Int} {f1 : Int} {f2 : Int} {α : Type} {d : Kd α} {e : Nat} {base : Nat} {ok : Nat → Prop} {v : Value} {xs : List α} (h : IsS109 w0 W g f0 f1 f2) (ho : d.Q e W base ok v xs) (ht : e ≠ 109) : some g ≠ v.ownBlock := by
 obtain ⟨A0, c0, hb, hg, hr0⟩ := h
 exact Kd.Q_ne ho hb ht
theorem IsS109.apartS {w0 W : World} {g : Nat} {f0 : List Int} {f1 : Int} {f2 : Int} {α : Type} {d : Kd α} {e : Nat} {base : Nat} {ok : Nat → Prop} {v : Value} {xs : List α} (h : IsS109 w0 W g f0 f1 f2) (ho : d.S e W base ok v xs) (ht : ∀ q, q ∈ e :: d.E → q ≠ 109) : d.S e W base (fun k => ok k ∧ k ≠ g) v xs := by
 obtain ⟨A0, c0, hb, hg, hr0⟩ := h
 exact Kd.S_types ho hb ht
theorem IsS109.own_neS {w0 W : World} {g : Nat} {f0 : List Int} {f1 : Int} {f2 : Int} {α : Type} {d : Kd α} {e : Nat} {base : Nat} {ok : Nat → Prop} {v : Value} {xs : List α} (h : IsS109 w0 W g f0 f1 f2) (ho : d.S e W base ok v xs) (ht : e ≠ 109) : some g ≠ v.ownBlock := by
 obtain ⟨A0, c0, hb, hg, hr0⟩ := h
 exact Kd.S_ne ho hb ht
theorem IsS109.lt {w0 W : World} {g : Nat} {f0 : List Int} {f1 : Int} {f2 : Int} (h : IsS109 w0 W g f0 f1 f2) : g < W.heap.size := by
 obtain ⟨A0, c0, hb, hg, hr0⟩ := h
 exact blk_lt hb
theorem IsS109.ge {w0 W : World} {g : Nat} {f0 : List Int} {f1 : Int} {f2 : Int} (h : IsS109 w0 W g f0 f1 f2) : w0.heap.size ≤ g := by
 obtain ⟨A0, c0, hb, hg, hr0⟩ := h
 exact hg
theorem IsS109.ne_blk {w0 W : World} {g : Nat} {f0 : List Int} {f1 : Int} {f2 : Int} {a : Nat} {cs : Array Value} {t : TypeId} {fr : Nat × Nat} (h : IsS109 w0 W g f0 f1 f2) (hb2 : W.heap[a]? = some (.cells cs t fr)) (ht : t ≠ 109) : g ≠ a := by
 obtain ⟨A0, c0, hb, hg, hr0⟩ := h
 rintro rfl
 rw [hb] at hb2
 injection hb2 with hb2
 injection hb2 with _ ht2
 exact ht ht2.symm
theorem IsS109.far {w0 W : World} {g : Nat} {f0 : List Int} {f1 : Int} {f2 : Int} {p : Addr} (h : IsS109 w0 W g f0 f1 f2) (hne : g ≠ p.block) (u : Value) : IsS109 w0 (W.setCell p u) g f0 f1 f2 := by
 obtain ⟨A0, c0, hb, hg, hr0⟩ := h
 exact ⟨A0, c0, blk_far hb hne u, hg, hr0⟩
theorem cellS109_0 {W : World} {g : Nat} {A0 : Option Addr} {c0 : Nat} {f0 : List Int} {f1 : Int} {f2 : Int} (h : W.heap[g]? = some (.cells #[.slice A0 f0.length c0, .int .i64 f1, .int .i64 f2] 109 (0, 0))) : W.cell? ⟨g, 0, none⟩ = some (.slice A0 f0.length c0) := (blk_cell h 0).trans rfl
theorem cellS109_1 {W : World} {g : Nat} {A0 : Option Addr} {c0 : Nat} {f0 : List Int} {f1 : Int} {f2 : Int} (h : W.heap[g]? = some (.cells #[.slice A0 f0.length c0, .int .i64 f1, .int .i64 f2] 109 (0, 0))) : W.cell? ⟨g, 1, none⟩ = some (.int .i64 f1) := (blk_cell h 1).trans rfl
theorem IsS109.set_1 {w0 W : World} {g : Nat} {f0 : List Int} {f1 : Int} {f2 : Int} (h : IsS109 w0 W g f0 f1 f2) (x : Int) : IsS109 w0 (W.setCell ⟨g, 1, none⟩ (.int .i64 x)) g f0 x f2 := by
 obtain ⟨A0, c0, hb, hg, hr0⟩ := h
 exact ⟨A0, c0, by simpa using blk_set hb 1 (.int .i64 x), hg, hr0⟩
theorem cellS109_2 {W : World} {g : Nat} {A0 : Option Addr} {c0 : Nat} {f0 : List Int} {f1 : Int} {f2 : Int} (h : W.heap[g]? = some (.cells #[.slice A0 f0.length c0, .int .i64 f1, .int .i64 f2] 109 (0, 0))) : W.cell? ⟨g, 2, none⟩ = some (.int .i64 f2) := (blk_cell h 2).trans rfl
theorem IsS109.set_2 {w0 W : World} {g : Nat} {f0 : List Int} {f1 : Int} {f2 : Int} (h : IsS109 w0 W g f0 f1 f2) (x : Int) : IsS109 w0 (W.setCell ⟨g, 2, none⟩ (.int .i64 x)) g f0 f1 x := by
 obtain ⟨A0, c0, hb, hg, hr0⟩ := h
 exact ⟨A0, c0, by simpa using blk_set hb 2 (.int .i64 x), hg, hr0⟩
theorem IsS109.new (w0 W : World) (A0 : Option Addr) (c0 : Nat) (f0 : List Int) (f1 : Int) (f2 : Int) (hB : Below w0.heap.size w0 W) (hr0 : Kd.C (Kd.int .u8) w0 A0 f0.length f0) : IsS109 w0 (W.alloc (.cells #[.slice A0 f0.length c0, .int .i64 f1, .int .i64 f2] 109)) W.heap.size f0 f1 f2 := ⟨A0, c0, by simpa using heap_alloc_new W _, hB.size, hr0⟩

/-! ### spec_l01Byte: function 135 -/
def spec_l01Byte.f (s0_0 : List Int) (s0_1 : Int) (s0_2 : Int) : Option (Int × Int × Int) := if s0_1 < (s0_0.length : Int) then (if 0 ≤ s0_1 then (some (Go.bits .and .i64 (wrap64 ((Go.bits .and .i64 (Go.bits .xor .i64 ((wrap64 ((wrap64 (s0_2 * 6364136223846793005)) + 1442695040888963407)) / 8589934592) ((wrap64 ((wrap64 (s0_2 * 6364136223846793005)) + 1442695040888963407)) / 35184372088832)) 255) + (wrap64 (rd s0_0 s0_1)))) 255, wrap64 (s0_1 + 1), wrap64 ((wrap64 (s0_2 * 6364136223846793005)) + 1442695040888963407))) else (none)) else (some (Go.bits .and .i64 (Go.bits .xor .i64 ((wrap64 ((wrap64 (s0_2 * 6364136223846793005)) + 1442695040888963407)) / 8589934592) ((wrap64 ((wrap64 (s0_2 * 6364136223846793005)) + 1442695040888963407)) / 35184372088832)) 255, s0_1, wrap64 ((wrap64 (s0_2 * 6364136223846793005)) + 1442695040888963407)))
set_option maxHeartbeats 8000000 in
set_option maxRecDepth 100000 in
theorem spec_l01Byte.calls (g : Nat) (s0_0 : List Int) (s0_1 : Int) (s0_2 : Int) (r1 : Int) (r2 : Int) (r3 : Int) (w0 w : World) (hI : IsS109 w0 w g s0_0 s0_1 s0_2) (hB : Below w0.heap.size w0 w) (h : spec_l01Byte.f s0_0 s0_1 s0_2 = some (r1, r2, r3)) :
  Calls Try.prog 135 #[.pointer (some ⟨g, 0, none⟩)] w fun e w' => e = .returned (.int .i64 r1) ∧ IsS109 w0 w' g s0_0 r2 r3 ∧ Below w0.heap.size w0 w' ∧ KeepBut w w' g none := by
 have HI0 := Aside0.mk hI
 have HK := Aside0.mk (KeepBut.refl w g none)
 have HL := Aside0.mk hB.size
 clear hI
 have HW0 := Aside0.mk hB.size
 have HB := Aside0.mk hB
 clear hB
 have H : (if s0_1 < (s0_0.length : Int) then (if 0 ≤ s0_1 then (some (Go.bits .and .i64 (wrap64 ((Go.bits .and .i64 (Go.bits .xor .i64 ((wrap64 ((wrap64 (s0_2 * 6364136223846793005)) + 1442695040888963407)) / 8589934592) ((wrap64 ((wrap64 (s0_2 * 6364136223846793005)) + 1442695040888963407)) / 35184372088832)) 255) + (wrap64 (rd s0_0 s0_1)))) 255, wrap64 (s0_1 + 1), wrap64 ((wrap64 (s0_2 * 6364136223846793005)) + 1442695040888963407))) else (none)) else (some (Go.bits .and .i64 (Go.bits .xor .i64 ((wrap64 ((wrap64 (s0_2 * 6364136223846793005)) + 1442695040888963407)) / 8589934592) ((wrap64 ((wrap64 (s0_2 * 6364136223846793005)) + 1442695040888963407)) / 35184372088832)) 255, s0_1, wrap64 ((wrap64 (s0_2 * 6364136223846793005)) + 1442695040888963407)))) = some (r1, r2, r3) := h
 clear h
 by_cases c2 : s0_1 < (s0_0.length : Int)
 ·rw [if_pos c2] at H
  have c2b0 : decide (s0_1 < (s0_0.length : Int)) = true := decide_eq_true c2
  clear c2
  by_cases c3 : 0 ≤ s0_1
  ·rw [if_pos c3] at H
   have c3b0 : decide (0 ≤ s0_1) = true := decide_eq_true c3
   clear c3
   simp only [Option.some.injEq, Prod.mk.injEq] at H
   obtain ⟨rfl, rfl, rfl⟩ := H
   obtain ⟨ASz4_0, cSz4_0, HGz4, hgz4, HSz4_0⟩ := HI0.out
   have hcz4_0 := cellS109_0 HGz4
   have hcz4_1 := cellS109_1 HGz4
   have hcz4_2 := cellS109_2 HGz4
   have hfz4_1 := blk_frozen HGz4 1
   have hfz4_2 := blk_frozen HGz4 2
   clear HGz4 hgz4
   have p321 : 0 ≤ (s0_1 : Int) := of_decide_eq_true as_
   have q321 : s0_1 < (s0_0.length : Int) := of_decide_eq_true as_
   obtain ⟨ad321, e321, hx321_0⟩ := Kd.at_int HSz4_0 s0_1 p321 q321
   cases e321
   have hn321_0 : ad321.block ≠ g := Nat.ne_of_lt (Nat.lt_of_lt_of_le (by have := World.block_lt_of_cell? _ _ hx321_0; first | rwa [add_block] at this | exact this) (IsS109.ge HI0.out))
   replace hx321_0 := pw_cell_below HB.out hx321_0
   replace hx321_0 := (cell_far (p := ⟨g, 2, none⟩) (by first | (rw [add_block]; exact hn321_0) | (show (Addr.add _ _).block ≠ _; rw [add_block]; exact hn321_0) | exact hn321_0) (.int .i64 (wrap64 ((wrap64 (s0_2 * 6364136223846793005)) + 1442695040888963407)))).trans hx321_0
   (try have hy321_0 := fun (n_ : Nat) => (show (((w.drewN n_).setCell ⟨g, 2, none⟩ (.int .i64 (wrap64 ((wrap64 (s0_2 * 6364136223846793005)) + 1442695040888963407))))).cell? _ = some _ from hx321_0))
   clear hn321_0
   replace p321 := eq_true p321
   replace q321 := eq_true q321
   go_enter Try.func135, Try.ntmps135
   go_wp2
   repeat (go_quiet (fail); try go_wp2)
   go_ret
   exact ⟨er, by repeat (first | (with_reducible first | exact HI0.out | apply IsS109.alloc | apply IsS109.drewN | apply IsS109.drew | apply IsS109.set_1 | apply IsS109.set_2) | exact HI0.out), by repeat (first | (with_reducible first | exact HB.out | apply below_alloc | apply pw_below_drewN | apply below_drew1 | refine below_set ?_ (IsS109.ge HI0.out)) | exact HB.out), by repeat (first | (with_reducible first | exact HK.out | apply KeepBut.set_ | apply keep_drewN | apply keep_drew | apply keep_alloc) | exact HK.out)⟩
  ·rw [if_neg c3] at H
   exact absurd H (by simp)
 ·rw [if_neg c2] at H
  have c2b0 : decide (s0_1 < (s0_0.length : Int)) = false := decide_eq_false c2
  clear c2
  simp only [Option.some.injEq, Prod.mk.injEq] at H
  obtain ⟨rfl, rfl, rfl⟩ := H
  obtain ⟨ASz5_0, cSz5_0, HGz5, hgz5, HSz5_0⟩ := HI0.out
  have hcz5_0 := cellS109_0 HGz5
  have hcz5_1 := cellS109_1 HGz5
  have hcz5_2 := cellS109_2 HGz5
  have hfz5_1 := blk_frozen HGz5 1
  have hfz5_2 := blk_frozen HGz5 2
  clear HGz5 hgz5
  go_enter Try.func135, Try.ntmps135
  go_wp2
  repeat (go_quiet (fail); try go_wp2)
  go_ret
  exact ⟨er, by repeat (first | (with_reducible first | exact HI0.out | apply IsS109.alloc | apply IsS109.drewN | apply IsS109.drew | apply IsS109.set_1 | apply IsS109.set_2) | exact HI0.out), by repeat (first | (with_reducible first | exact HB.out | apply below_alloc | apply pw_below_drewN | apply below_drew1 | refine below_set ?_ (IsS109.ge HI0.out)) | exact HB.out), by repeat (first | (with_reducible first | exact HK.out | apply KeepBut.set_ | apply keep_drewN | apply keep_drew | apply keep_alloc) | exact HK.out)⟩

end Go.Proofs.Ytbbppknnkghkjaa.PFnIdRoutes
