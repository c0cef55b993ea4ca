/- Printed: each Go function as a Lean function, with the proof that Go comes to just its answer (squeezed) -/
import Derived.Test.YtbbppknnkghkjaaPFnExactIsLocalx0
import Derived.Test.YtbbppknnkghkjaaPFnExactIsLocalx3
import Derived.Test.YtbbppknnkghkjaaPFnExactIsLocalx12
namespace Go.Proofs.Ytbbppknnkghkjaa.PFnExactIsLocal
open Go.RowKit Go.Proofs.YtbbppknnkghkjaaW.PrintWords Go.Proofs.YtbbppknnkghkjaaW.PrintLast Go.Proofs.YtbbppknnkghkjaaW.PrintMore Go.Proofs.Ytbbppknnkghkjaa.Kit Go.Proofs.Ytbbppknnkghkjaa.Kit2 Go.Proofs.Ytbbppknnkghkjaa.Kit3
attribute [local go_sem] max2_int min2_int max_two min_two max_three min_three max_four min_four   -- for this text's walks alone
set_option linter.unusedVariables false
set_option linter.unusedSimpArgs false
open Go.Proofs.YtbbppknnkghkjaaW.PrintWords.Kd (R_mono C_alloc C_drew C_drewN)
attribute [local go_sem high] eqA50
mutual
def impl_TreeOk.j0 : Nat → List (S50) → Bool → Option (Bool)
 | 0, _, _ => none
 | k + 1, x0, x16 => if x16 = true then (some false) else (if 1 ≤ (x0.length : Int) then ((some (x0.drop 1 : List (S50))).bind fun y331 => (impl_TreeOk.l0 k x0 y331 (y331.length : Int) 0)) else (none))
def impl_TreeOk.l0 : Nat → List (S50) → List (S50) → Int → Int → Option (Bool)
 | 0, _, _, _, _ => none
 | k + 1, x0, x18, x19, x20 => if x20 < x19 then (if 0 ≤ x20 then (if x20 < (x18.length : Int) then (if 0 ≤ (wrap64 (x20 + 1)) then (if (wrap64 (x20 + 1)) ≤ (x0.length : Int) then ((some (x0.take ((wrap64 (x20 + 1)) : Int).toNat : List (S50))).bind fun y337 => ((impl_within.f ((rd_T50 x18 x20).f0) 0 x20).bind fun t341 => (if t341 = true then (if 0 ≤ ((rd_T50 x18 x20).f0) then (if ((rd_T50 x18 x20).f0) < (y337.length : Int) then (if ((rd_T50 y337 ((rd_T50 x18 x20).f0)).f2) = 0 then ((impl_within.f ((rd_T50 x18 x20).f1) 0 3).bind fun t343 => (if t343 = true then ((impl_within.f ((rd_T50 x18 x20).f2) 0 4).bind fun t344 => (impl_TreeOk.j2 k x0 y337 x18 x19 x20 (!t344) ((rd_T50 x18 x20).f0) ((rd_T50 x18 x20).f1) ((rd_T50 x18 x20).f2))) else (impl_TreeOk.j2 k x0 y337 x18 x19 x20 true ((rd_T50 x18 x20).f0) ((rd_T50 x18 x20).f1) ((rd_T50 x18 x20).f2)))) else (impl_TreeOk.j2 k x0 y337 x18 x19 x20 true ((rd_T50 x18 x20).f0) ((rd_T50 x18 x20).f1) ((rd_T50 x18 x20).f2))) else (none)) else (none)) else (impl_TreeOk.j2 k x0 y337 x18 x19 x20 true ((rd_T50 x18 x20).f0) ((rd_T50 x18 x20).f1) ((rd_T50 x18 x20).f2))))) else (none)) else (none)) else (none)) else (none)) else (some true)
def impl_TreeOk.j2 : Nat → List (S50) → List (S50) → List (S50) → Int → Int → Bool → Int → Int → Int → Option (Bool)
 | 0, _, _, _, _, _, _, _, _, _ => none
 | k + 1, x0, x5, x18, x19, x20, x54, x337000, x337001, x337002 => if x54 = true then (some false) else ((impl_Node_impl_TreeOk_1.f x5 x337000 x337001 x337002).bind fun t345 => (if t345 = true then (some false) else (impl_TreeOk.l0 k x0 x18 x19 (wrap64 (x20 + 1)))))
end
def impl_TreeOk.f (k : Nat) (l0 : List (S50)) : Option (Bool) := (impl_within.f (l0.length : Int) 1 12).bind fun t329 => (if t329 = true then (if 0 < (l0.length : Int) then (impl_TreeOk.j0 k l0 (!(((rd_T50 l0 0).f0) == (-1)) || (!(((rd_T50 l0 0).f1) == 0) || (!(((rd_T50 l0 0).f2) == 0))))) else (none)) else (impl_TreeOk.j0 k l0 true))
set_option maxHeartbeats 8000000 in
set_option maxRecDepth 100000 in
theorem impl_TreeOk.calls (k : Nat) (A0 : Option Addr) (c0 : Nat) (l0 : List (S50)) (r : Bool) (w : World) (hr0 : Kd.C k50 w A0 l0.length l0) (hc0 : l0.length ≤ c0) (h : impl_TreeOk.f k l0 = some r) :
  Calls Try.prog 40 #[.slice A0 l0.length c0] w fun e w' => e = .returned (.bool r) ∧ Below w.heap.size w w' := by
 have hu50 := Try.underlying50; have HR0 := Aside0.mk hr0; have HC0 := Aside0.mk hc0; clear hr0 hc0; have HB := Aside0.mk (Below.refl w.heap.size w); have H : ((impl_within.f (l0.length : Int) 1 12).bind fun t329 => (if t329 = true then (if 0 < (l0.length : Int) then (impl_TreeOk.j0 k l0 (!(((rd_T50 l0 0).f0) == (-1)) || (!(((rd_T50 l0 0).f1) == 0) || (!(((rd_T50 l0 0).f2) == 0))))) else (none)) else (impl_TreeOk.j0 k l0 true))) = some r := h; clear h; have HC2 := Aside0.mk H; clear H; go_enter Try.func40, Try.ntmps40
 go_upto_region 1 with (fail)
 go_cut [16] (fun v16 wc => ∃ (kq : Nat) (x16_1 : Bool), v16 = .bool x16_1 ∧ Aside0 (impl_TreeOk.j0 kq l0 x16_1 = some r) ∧ Aside0 (kq ≤ k) ∧ Aside0 (Below w.heap.size w wc))
 case first =>
  have H := HC2.out; clear HC2; replace H := bi_ H; obtain ⟨t329, A30, H⟩ := H; replace H : (if t329 = true then (if 0 < (l0.length : Int) then (impl_TreeOk.j0 k l0 (!(((rd_T50 l0 0).f0) == (-1)) || (!(((rd_T50 l0 0).f1) == 0) || (!(((rd_T50 l0 0).f2) == 0))))) else (none)) else (impl_TreeOk.j0 k l0 true)) = some r := H; have A3 := Aside0.mk A30; clear A30
  by_cases c4 : t329 = true
  ·subst c4
   (have H1 : (if 0 < (l0.length : Int) then (impl_TreeOk.j0 k l0 (!(((rd_T50 l0 0).f0) == (-1)) || (!(((rd_T50 l0 0).f1) == 0) || (!(((rd_T50 l0 0).f2) == 0))))) else (none)) = some r := by rw [if_pos rfl] at H; exact H); clear H; have H := H1; clear H1
   by_cases c5 : 0 < (l0.length : Int)
   ·rw [if_pos c5] at H
    have c5b0 : decide (0 < (l0.length : Int)) = true := decide_eq_true c5; have c5b1 : decide (0 < l0.length) = true := decide_eq_true (by omega); clear c5; (first | rw [c5b0] | (simp only [i64_w, i32_w]; rw [c5b0]) | skip); have H' := Aside0.mk H; clear H; go_wp2_with (first | ((with_reducible refine gate_callee (f := 94) rfl ?_); refine goesL_ (some 8) rfl rfl Try.func94 (by kernel_rfl) rfl #[.int .i64 (l0.length : Int), .int .i64 1, .int .i64 12] rfl ms ?_; (with_reducible refine (impl_within.calls (l0.length : Int) 1 12 true _ A3.out).mono ?_); rintro e w' ⟨rfl, ⟨nd, rfl⟩⟩; refine ⟨_, rfl, ?_⟩; have p330 : 0 ≤ (0 : Int) := (by omega); have q330 : 0 < (l0.length : Int) := od_; obtain ⟨ad330, e330, hx330_0, hx330_1, hx330_2⟩ := at_T50 HR0.out 0 p330 q330; cases e330; have qi330 : (0 < l0.length) = True := eq_true (by omega); (try rw [show ((0 : Int)).toNat = 0 from rfl] at hx330_0); (try rw [show 0 * 3 = 0 from rfl] at hx330_0); (try rw [Addr.add_zero'] at hx330_0); (try rw [show ((0 : Int)).toNat = 0 from rfl] at hx330_1); (try rw [show 0 * 3 = 0 from rfl] at hx330_1); (try rw [Addr.add_zero'] at hx330_1); (try rw [show ((0 : Int)).toNat = 0 from rfl] at hx330_2); (try rw [show 0 * 3 = 0 from rfl] at hx330_2); (try rw [Addr.add_zero'] at hx330_2); replace hx330_0 := pb_ HB.out hx330_0; replace hx330_1 := pb_ HB.out hx330_1; replace hx330_2 := pb_ HB.out hx330_2; replace p330 := eq_true p330; replace q330 := eq_true q330))
    go_meet
    case rel => exact ⟨_, ((!(((rd_T50 l0 0).f0) == (-1)) || (!(((rd_T50 l0 0).f1) == 0) || (!(((rd_T50 l0 0).f2) == 0))))), sd_, H', ⟨by first | omega | exact Nat.le_refl _⟩, ⟨bb⟩⟩
   ·rw [if_neg c5] at H
    exact absurd H (by simp)
  ·replace c4 := Bool.eq_false_iff.mpr c4
   subst c4; (have H1 : (impl_TreeOk.j0 k l0 true) = some r := by rw [if_neg (show ¬ (false = true) by decide)] at H; exact H); clear H; have H := H1; clear H1; have H' := Aside0.mk H; clear H; go_wp2_with (first | ((with_reducible refine gate_callee (f := 94) rfl ?_); refine goesL_ (some 8) rfl rfl Try.func94 (by kernel_rfl) rfl #[.int .i64 (l0.length : Int), .int .i64 1, .int .i64 12] rfl ms ?_; (with_reducible refine (impl_within.calls (l0.length : Int) 1 12 false _ A3.out).mono ?_); rintro e w' ⟨rfl, ⟨nd, rfl⟩⟩; refine ⟨_, rfl, ?_⟩))
   go_meet
   case rel => exact ⟨_, (true), sd_, H', ⟨by first | omega | exact Nat.le_refl _⟩, ⟨bb⟩⟩
 case rest =>
  clear HC2; (try clear p2); (try clear p3); (try clear q3); (try clear hx3); (try clear qi3); (try clear c4); (try clear c5); (try clear c5b0); (try clear c5b1); (try clear hx330_0); (try clear hx330_1); (try clear hx330_2); (try clear p330); (try clear q330); obtain ⟨kq, x16_1, rfl, HA, HJ1, HB⟩ := hcut
  cases kq with
  | zero => exact absurd HA.out (by simp [impl_TreeOk.j0])
  | succ kj1 =>
   have H := HA.out; clear HA; simp only [impl_TreeOk.j0] at H
   by_cases c6 : x16_1 = true
   ·subst c6
    (have H1 : (some false) = some r := by rw [if_pos rfl] at H; exact H); clear H; have H := H1; clear H1; obtain rfl := Option.some.inj H; go_wp2; go_ret; exact ⟨er, bb⟩
   ·replace c6 := Bool.eq_false_iff.mpr c6
    subst c6; (have H1 : (if 1 ≤ (l0.length : Int) then ((some (l0.drop 1 : List (S50))).bind fun y331 => (impl_TreeOk.l0 kj1 l0 y331 (y331.length : Int) 0)) else (none)) = some r := by rw [if_neg (show ¬ (false = true) by decide)] at H; exact H); clear H; have H := H1; clear H1
    by_cases c7 : 1 ≤ (l0.length : Int)
    ·rw [if_pos c7] at H
     have c7b0 := eq_true c7; have c7b1 : decide (1 ≤ (l0.length : Int)) = true := decide_eq_true c7; clear c7
     obtain ⟨y331, hy331⟩ : ∃ y_ : List (S50), y_ = (l0.drop 1) := ⟨_, rfl⟩
     (replace H : (impl_TreeOk.l0 kj1 l0 y331 (y331.length : Int) 0) = some r := by first | (rw [hy331]; with_reducible exact H) | (have H2_ := bs_ H; rw [hy331]; with_reducible exact H2_) | (have H2_ := bs_ H; with_reducible exact H2_) | with_reducible exact H | (rw [hy331]; exact H) | exact H); have Ny331 := Aside0.mk hy331; clear hy331; have H' := Aside0.mk H; clear H; have q8 : (1 : Int) ≤ ((l0.length : Int) : Int) := od_; obtain ⟨i08, hi08, _, hsz8, _⟩ := info_parts info50; have hroom8 : l0.length ≤ c0 := HC0.out; have hC8 : Kd.C k50 _ A0 l0.length l0 := HR0.out; have hcut8 := cut_from (P := Try.prog) 29 50 .i64 Try.underlying29 hi08 3 hsz8 A0 l0.length c0 1 (by omega) q8; have hr8 := Kd.C_drop (m := (1 : Int).toNat) (c := c0) hC8 (by omega) hroom8
     obtain ⟨A8, hA8⟩ : ∃ A1, A1 = (if c0 = (1 : Int).toNat then A0 else (A0 : Option Addr).map (·.add ((1 : Int).toNat * 3))) := ⟨_, rfl⟩
     obtain ⟨c8, hc8⟩ : ∃ c1, c1 = c0 - (1 : Int).toNat := ⟨_, rfl⟩
     have hy8 : y331.length = l0.length - (1 : Int).toNat := (by rw [Ny331.out, List.length_drop] <;> omega)
     rw [show (l0).drop (1 : Int).toNat = y331 from Ny331.out.symm] at hr8
     replace hr8 : Kd.C k50 _ A8 y331.length y331 := (by rw [hA8]; exact hr8)
     rw [← hy8, ← hA8, ← hc8] at hcut8; have HR334 := Aside0.mk hr8; have HC334 := Aside0.mk (show y331.length ≤ c8 from by rw [hy8, hc8]; exact Nat.sub_le_sub_right hroom8 _); clear hr8 hC8 hroom8 hi08 hsz8 hc8; have KY8 := Aside0.mk hy8; have KA8 := Aside0.mk hA8; clear hy8 hA8; replace q8 := eq_true q8; go_wp2
     go_loopg [20] kj1 (fun kq v20 w' => ∃ (x20_2 : Int), v20 = .int .i64 x20_2 ∧ Aside0 (impl_TreeOk.l0 kq l0 y331 (y331.length : Int) x20_2 = some r) ∧ Aside0 (kq ≤ kj1) ∧ Aside0 (Below w.heap.size w w'))
     case atStart => exact ⟨(0), sd_, H', ⟨Nat.le_refl _⟩, ⟨bb⟩⟩
     case round =>
      clear H'; (try clear c1); (try clear p2); (try clear p3); (try clear q3); (try clear hx3); (try clear qi3); (try clear c4); (try clear c5); (try clear c5b0); (try clear c5b1); (try clear c6); (try clear c7); (try clear c7b0); (try clear c7b1); (try clear c8); (try clear q8); (try clear hx330_0); (try clear hx330_1); (try clear hx330_2); (try clear p2); (try clear p3); (try clear p330); (try clear q3); (try clear q330); (try clear q8); obtain ⟨x20_2, rfl, HA, HK2, HB⟩ := hrel
      cases gk with
      | zero => exact absurd HA.out (by simp [impl_TreeOk.l0])
      | succ k2 =>
       have H := HA.out; clear HA; simp only [impl_TreeOk.l0] at H
       by_cases c9 : x20_2 < (y331.length : Int)
       ·rw [if_pos c9] at H
        have c9b0 : decide (x20_2 < (y331.length : Int)) = true := decide_eq_true c9; clear c9
        by_cases c10 : 0 ≤ x20_2
        ·rw [if_pos c10] at H
         have c10b0 : decide (0 ≤ x20_2) = true := decide_eq_true c10; clear c10
         by_cases c11 : x20_2 < (y331.length : Int)
         ·rw [if_pos c11] at H
          have c11b0 : decide (x20_2 < (y331.length : Int)) = true := decide_eq_true c11; clear c11
          obtain ⟨ji12, hji12⟩ : ∃ j_ : Int, (wrap64 (x20_2 + 1)) = j_ := ⟨_, rfl⟩
          replace H : (if 0 ≤ (ji12) then (if (ji12) ≤ (l0.length : Int) then ((some (l0.take ((ji12) : Int).toNat : List (S50))).bind fun y337 => ((impl_within.f ((rd_T50 y331 x20_2).f0) 0 x20_2).bind fun t341 => (if t341 = true then (if 0 ≤ ((rd_T50 y331 x20_2).f0) then (if ((rd_T50 y331 x20_2).f0) < (y337.length : Int) then (if ((rd_T50 y337 ((rd_T50 y331 x20_2).f0)).f2) = 0 then ((impl_within.f ((rd_T50 y331 x20_2).f1) 0 3).bind fun t343 => (if t343 = true then ((impl_within.f ((rd_T50 y331 x20_2).f2) 0 4).bind fun t344 => (impl_TreeOk.j2 k2 l0 y337 y331 (y331.length : Int) x20_2 (!t344) ((rd_T50 y331 x20_2).f0) ((rd_T50 y331 x20_2).f1) ((rd_T50 y331 x20_2).f2))) else (impl_TreeOk.j2 k2 l0 y337 y331 (y331.length : Int) x20_2 true ((rd_T50 y331 x20_2).f0) ((rd_T50 y331 x20_2).f1) ((rd_T50 y331 x20_2).f2)))) else (impl_TreeOk.j2 k2 l0 y337 y331 (y331.length : Int) x20_2 true ((rd_T50 y331 x20_2).f0) ((rd_T50 y331 x20_2).f1) ((rd_T50 y331 x20_2).f2))) else (none)) else (none)) else (impl_TreeOk.j2 k2 l0 y337 y331 (y331.length : Int) x20_2 true ((rd_T50 y331 x20_2).f0) ((rd_T50 y331 x20_2).f1) ((rd_T50 y331 x20_2).f2))))) else (none)) else (none)) = some r := by first | (rw [hji12] at H; exact H) | (simp only [hji12] at H ⊢; exact H)
          have hji12w : (IntKind.i64.wrap (x20_2 + 1)) = ji12 := (i64_w _).trans hji12
          by_cases c13 : 0 ≤ (ji12)
          ·rw [if_pos c13] at H
           have c13b0 := eq_true c13; have c13b1 : decide (0 ≤ (ji12)) = true := decide_eq_true c13; clear c13
           by_cases c14 : (ji12) ≤ (l0.length : Int)
           ·rw [if_pos c14] at H
            have c14b0 := eq_true c14; have c14b1 : decide ((ji12) ≤ (l0.length : Int)) = true := decide_eq_true c14; clear c14
            obtain ⟨y337, hy337⟩ : ∃ y_ : List (S50), y_ = (l0.take ((ji12) : Int).toNat) := ⟨_, rfl⟩
            (replace H : ((impl_within.f ((rd_T50 y331 x20_2).f0) 0 x20_2).bind fun t341 => (if t341 = true then (if 0 ≤ ((rd_T50 y331 x20_2).f0) then (if ((rd_T50 y331 x20_2).f0) < (y337.length : Int) then (if ((rd_T50 y337 ((rd_T50 y331 x20_2).f0)).f2) = 0 then ((impl_within.f ((rd_T50 y331 x20_2).f1) 0 3).bind fun t343 => (if t343 = true then ((impl_within.f ((rd_T50 y331 x20_2).f2) 0 4).bind fun t344 => (impl_TreeOk.j2 k2 l0 y337 y331 (y331.length : Int) x20_2 (!t344) ((rd_T50 y331 x20_2).f0) ((rd_T50 y331 x20_2).f1) ((rd_T50 y331 x20_2).f2))) else (impl_TreeOk.j2 k2 l0 y337 y331 (y331.length : Int) x20_2 true ((rd_T50 y331 x20_2).f0) ((rd_T50 y331 x20_2).f1) ((rd_T50 y331 x20_2).f2)))) else (impl_TreeOk.j2 k2 l0 y337 y331 (y331.length : Int) x20_2 true ((rd_T50 y331 x20_2).f0) ((rd_T50 y331 x20_2).f1) ((rd_T50 y331 x20_2).f2))) else (none)) else (none)) else (impl_TreeOk.j2 k2 l0 y337 y331 (y331.length : Int) x20_2 true ((rd_T50 y331 x20_2).f0) ((rd_T50 y331 x20_2).f1) ((rd_T50 y331 x20_2).f2)))) = some r := by first | (rw [hy337]; with_reducible exact H) | (have H2_ := bs_ H; rw [hy337]; with_reducible exact H2_) | (have H2_ := bs_ H; with_reducible exact H2_) | with_reducible exact H | (rw [hy337]; exact H) | exact H); have Ny337 := Aside0.mk hy337; clear hy337; have HC15 := Aside0.mk H; clear H; have p335 : 0 ≤ (x20_2 : Int) := od_; have q335 : x20_2 < (y331.length : Int) := od_; obtain ⟨ad335, e335, hx335_0, hx335_1, hx335_2⟩ := at_T50 HR334.out x20_2 p335 q335; cases e335; replace hx335_0 := pb_ HB.out hx335_0; replace hx335_1 := pb_ HB.out hx335_1; replace hx335_2 := pb_ HB.out hx335_2; replace p335 := eq_true p335; replace q335 := eq_true q335
            go_upto_region 7 with (first | ((with_reducible refine gate_dst (N := 4) rfl ?_); refine box_event ?hg (N := 4) ?hd (cs := #[.int .i64 0, .int .i64 0, .int .i64 0]) (t := 50) ?hr ?_; (case hd => rfl); (case hg => rfl); (case hr => exact hr_); intro gb336 hg w16 hbox hb; have t_ := fc4 (below_step bb hb) (hbox) (bg hg : w.heap.size ≤ gb336) (bg hg : w.heap.size ≤ gb336); clear HB; obtain ⟨HB, BK336, GW336, GE336⟩ := t_; clear hb hbox hg; obtain ⟨hcz17_0, hcz17_1, hcz17_2, hfz17_0, hfz17_1, hfz17_2⟩ := bx3 BK336.out) | ((with_reducible refine gate_store (t := 50) (p := 4) rfl ?_); refine store_event (t := 50) (p := 4) (v := ?vo_w18) (w1 := (((w16.setCell ⟨gb336, 0, none⟩ (.int .i64 ((rd_T50 y331 x20_2).f0))).setCell ⟨gb336, 1, none⟩ (.int .i64 ((rd_T50 y331 x20_2).f1))).setCell ⟨gb336, 2, none⟩ (.int .i64 ((rd_T50 y331 x20_2).f2)))) ?hg ?ho ?hn ?hr ?_; (case ho => rfl); (case hg => rfl); (case hn => rfl); (case hr => exact hr_); intro w18 hw; have n0_ : Aside0 (w18.heap[gb336]? = some (.cells #[.int .i64 ((rd_T50 y331 x20_2).f0), .int .i64 ((rd_T50 y331 x20_2).f1), .int .i64 ((rd_T50 y331 x20_2).f2)] 50 (0, 0))) := ⟨(by rw [hw]; exact (by refine blk_put (cs := #[.int .i64 ((rd_T50 y331 x20_2).f0), .int .i64 ((rd_T50 y331 x20_2).f1), .int .i64 0]) ?_ 2 _ rfl; refine blk_put (cs := #[.int .i64 ((rd_T50 y331 x20_2).f0), .int .i64 0, .int .i64 0]) ?_ 1 _ rfl; refine blk_put (cs := #[.int .i64 0, .int .i64 0, .int .i64 0]) ?_ 0 _ rfl; exact bk))⟩; have n1_ : Aside0 (Below w.heap.size w w18) := ⟨(by rw [hw]; exact bb)⟩; clear hw; clear BK336; clear HB; have BK336 := n0_; have HB := n1_; clear n0_ n1_; have q19 : ((ji12) : Int) ≤ ((l0.length : Int) : Int) := od_; obtain ⟨i019, hi019, _, hsz19, _⟩ := info_parts info50; have hroom19 : l0.length ≤ c0 := HC0.out; have hC19 : Kd.C k50 _ A0 l0.length l0 := HR0.out; have hcut19 := cut_to (P := Try.prog) 29 50 .i64 Try.underlying29 hi019 A0 l0.length c0 (ji12) (od_) q19 hroom19; have hr19 := Kd.C_take (m := ((ji12) : Int).toNat) hC19 (by omega); have hy19 : y337.length = ((ji12) : Int).toNat := (by rw [Ny337.out, List.length_take]; omega); rw [← Ny337.out] at hr19; rw [← hy19] at hcut19; have HR340 := Aside0.mk hr19; have HC340 := Aside0.mk (show y337.length ≤ c0 from by omega); clear hr19 hC19 hroom19 hi019 hsz19; have KY19 := Aside0.mk hy19; clear hy19; replace q19 := eq_true q19))
            (try simp only [Act.put, List.setIfInBounds_toArray, List.set_cons_zero, List.set_cons_succ])
            go_cut [54] (fun v54 wc => ∃ (kq : Nat) (x54_14 : Bool), v54 = .bool x54_14 ∧ Aside0 (impl_TreeOk.j2 kq l0 y337 y331 (y331.length : Int) x20_2 x54_14 ((rd_T50 y331 x20_2).f0) ((rd_T50 y331 x20_2).f1) ((rd_T50 y331 x20_2).f2) = some r) ∧ Aside0 (kq ≤ k2) ∧ Aside0 (wc.heap[gb336]? = some (.cells #[.int .i64 ((rd_T50 y331 x20_2).f0), .int .i64 ((rd_T50 y331 x20_2).f1), .int .i64 ((rd_T50 y331 x20_2).f2)] 50 (0, 0))) ∧ Aside0 (Below w.heap.size w wc))
            case first =>
             have H := HC15.out; clear HC15; replace H := bi_ H; obtain ⟨t341, A200, H⟩ := H; replace H : (if t341 = true then (if 0 ≤ ((rd_T50 y331 x20_2).f0) then (if ((rd_T50 y331 x20_2).f0) < (y337.length : Int) then (if ((rd_T50 y337 ((rd_T50 y331 x20_2).f0)).f2) = 0 then ((impl_within.f ((rd_T50 y331 x20_2).f1) 0 3).bind fun t343 => (if t343 = true then ((impl_within.f ((rd_T50 y331 x20_2).f2) 0 4).bind fun t344 => (impl_TreeOk.j2 k2 l0 y337 y331 (y331.length : Int) x20_2 (!t344) ((rd_T50 y331 x20_2).f0) ((rd_T50 y331 x20_2).f1) ((rd_T50 y331 x20_2).f2))) else (impl_TreeOk.j2 k2 l0 y337 y331 (y331.length : Int) x20_2 true ((rd_T50 y331 x20_2).f0) ((rd_T50 y331 x20_2).f1) ((rd_T50 y331 x20_2).f2)))) else (impl_TreeOk.j2 k2 l0 y337 y331 (y331.length : Int) x20_2 true ((rd_T50 y331 x20_2).f0) ((rd_T50 y331 x20_2).f1) ((rd_T50 y331 x20_2).f2))) else (none)) else (none)) else (impl_TreeOk.j2 k2 l0 y337 y331 (y331.length : Int) x20_2 true ((rd_T50 y331 x20_2).f0) ((rd_T50 y331 x20_2).f1) ((rd_T50 y331 x20_2).f2))) = some r := H; have A20 := Aside0.mk A200; clear A200
             by_cases c21 : t341 = true
             ·subst c21
              (have H1 : (if 0 ≤ ((rd_T50 y331 x20_2).f0) then (if ((rd_T50 y331 x20_2).f0) < (y337.length : Int) then (if ((rd_T50 y337 ((rd_T50 y331 x20_2).f0)).f2) = 0 then ((impl_within.f ((rd_T50 y331 x20_2).f1) 0 3).bind fun t343 => (if t343 = true then ((impl_within.f ((rd_T50 y331 x20_2).f2) 0 4).bind fun t344 => (impl_TreeOk.j2 k2 l0 y337 y331 (y331.length : Int) x20_2 (!t344) ((rd_T50 y331 x20_2).f0) ((rd_T50 y331 x20_2).f1) ((rd_T50 y331 x20_2).f2))) else (impl_TreeOk.j2 k2 l0 y337 y331 (y331.length : Int) x20_2 true ((rd_T50 y331 x20_2).f0) ((rd_T50 y331 x20_2).f1) ((rd_T50 y331 x20_2).f2)))) else (impl_TreeOk.j2 k2 l0 y337 y331 (y331.length : Int) x20_2 true ((rd_T50 y331 x20_2).f0) ((rd_T50 y331 x20_2).f1) ((rd_T50 y331 x20_2).f2))) else (none)) else (none)) = some r := by rw [if_pos rfl] at H; exact H); clear H; have H := H1; clear H1
              by_cases c22 : 0 ≤ ((rd_T50 y331 x20_2).f0)
              ·rw [if_pos c22] at H
               have c22b0 : decide (0 ≤ ((rd_T50 y331 x20_2).f0)) = true := decide_eq_true c22; clear c22; (first | rw [c22b0] | (simp only [i64_w, i32_w]; rw [c22b0]) | skip)
               by_cases c23 : ((rd_T50 y331 x20_2).f0) < (y337.length : Int)
               ·rw [if_pos c23] at H
                have c23b0 : decide (((rd_T50 y331 x20_2).f0) < (y337.length : Int)) = true := decide_eq_true c23; clear c23
                by_cases c24 : ((rd_T50 y337 ((rd_T50 y331 x20_2).f0)).f2) = 0
                ·rw [if_pos c24] at H
                 have c24b0 : (((rd_T50 y337 ((rd_T50 y331 x20_2).f0)).f2) == 0) = true := beq_iff_eq.mpr c24; have c24b1 : (((rd_T50 y337 ((rd_T50 y331 x20_2).f0)).f2) != 0) = false := bne_eq_false_iff_eq.mpr c24; clear c24; replace H := bi_ H; obtain ⟨t343, A250, H⟩ := H; replace H : (if t343 = true then ((impl_within.f ((rd_T50 y331 x20_2).f2) 0 4).bind fun t344 => (impl_TreeOk.j2 k2 l0 y337 y331 (y331.length : Int) x20_2 (!t344) ((rd_T50 y331 x20_2).f0) ((rd_T50 y331 x20_2).f1) ((rd_T50 y331 x20_2).f2))) else (impl_TreeOk.j2 k2 l0 y337 y331 (y331.length : Int) x20_2 true ((rd_T50 y331 x20_2).f0) ((rd_T50 y331 x20_2).f1) ((rd_T50 y331 x20_2).f2))) = some r := H; have A25 := Aside0.mk A250; clear A250
                 by_cases c26 : t343 = true
                 ·subst c26
                  (have H1 : ((impl_within.f ((rd_T50 y331 x20_2).f2) 0 4).bind fun t344 => (impl_TreeOk.j2 k2 l0 y337 y331 (y331.length : Int) x20_2 (!t344) ((rd_T50 y331 x20_2).f0) ((rd_T50 y331 x20_2).f1) ((rd_T50 y331 x20_2).f2))) = some r := by rw [if_pos rfl] at H; exact H); clear H; have H := H1; clear H1; replace H := bi_ H; obtain ⟨t344, A270, H⟩ := H; replace H : (impl_TreeOk.j2 k2 l0 y337 y331 (y331.length : Int) x20_2 (!t344) ((rd_T50 y331 x20_2).f0) ((rd_T50 y331 x20_2).f1) ((rd_T50 y331 x20_2).f2)) = some r := H; have A27 := Aside0.mk A270; clear A270; have H' := Aside0.mk H; clear H; obtain ⟨hcz28_0, hcz28_1, hcz28_2, hfz28_0, hfz28_1, hfz28_2⟩ := bx3 BK336.out; go_wp2_with (first | ((with_reducible refine gate_callee (f := 94) rfl ?_); refine goesL_ (some 32) rfl rfl Try.func94 (by kernel_rfl) rfl #[.int .i64 ((rd_T50 y331 x20_2).f0), .int .i64 0, .int .i64 x20_2] rfl ms ?_; (with_reducible refine (impl_within.calls ((rd_T50 y331 x20_2).f0) 0 x20_2 true _ A20.out).mono ?_); rintro e w' ⟨rfl, ⟨nd, rfl⟩⟩; refine ⟨_, rfl, ?_⟩; have p342 : 0 ≤ (((rd_T50 y331 x20_2).f0) : Int) := od_; have q342 : ((rd_T50 y331 x20_2).f0) < (y337.length : Int) := od_; obtain ⟨ad342, e342, hx342_0, hx342_1, hx342_2⟩ := at_T50 HR340.out ((rd_T50 y331 x20_2).f0) p342 q342; cases e342; replace hx342_0 := pb_ HB.out hx342_0; replace hx342_1 := pb_ HB.out hx342_1; replace hx342_2 := pb_ HB.out hx342_2; replace p342 := eq_true p342; replace q342 := eq_true q342) | (go_at_call 94; (with_reducible refine (impl_within.calls ((rd_T50 y331 x20_2).f1) 0 3 true _ A25.out).mono ?_); rintro e w' ⟨rfl, ⟨nd, rfl⟩⟩) | (go_at_call 94; (with_reducible refine (impl_within.calls ((rd_T50 y331 x20_2).f2) 0 4 t344 _ A27.out).mono ?_); rintro e w' ⟨rfl, ⟨nd, rfl⟩⟩))
                  go_meet
                  case rel => exact ⟨_, (!t344), sd_, H', ⟨by have := HJ1.out; have := HK2.out; first | omega | exact Nat.le_refl _⟩, ⟨by exact bk⟩, ⟨bb⟩⟩
                 ·replace c26 := Bool.eq_false_iff.mpr c26
                  subst c26; (have H1 : (impl_TreeOk.j2 k2 l0 y337 y331 (y331.length : Int) x20_2 true ((rd_T50 y331 x20_2).f0) ((rd_T50 y331 x20_2).f1) ((rd_T50 y331 x20_2).f2)) = some r := by rw [if_neg (show ¬ (false = true) by decide)] at H; exact H); clear H; have H := H1; clear H1; have H' := Aside0.mk H; clear H; obtain ⟨hcz29_0, hcz29_1, hcz29_2, hfz29_0, hfz29_1, hfz29_2⟩ := bx3 BK336.out; go_wp2_with (first | ((with_reducible refine gate_callee (f := 94) rfl ?_); refine goesL_ (some 32) rfl rfl Try.func94 (by kernel_rfl) rfl #[.int .i64 ((rd_T50 y331 x20_2).f0), .int .i64 0, .int .i64 x20_2] rfl ms ?_; (with_reducible refine (impl_within.calls ((rd_T50 y331 x20_2).f0) 0 x20_2 true _ A20.out).mono ?_); rintro e w' ⟨rfl, ⟨nd, rfl⟩⟩; refine ⟨_, rfl, ?_⟩; have p342 : 0 ≤ (((rd_T50 y331 x20_2).f0) : Int) := od_; have q342 : ((rd_T50 y331 x20_2).f0) < (y337.length : Int) := od_; obtain ⟨ad342, e342, hx342_0, hx342_1, hx342_2⟩ := at_T50 HR340.out ((rd_T50 y331 x20_2).f0) p342 q342; cases e342; replace hx342_0 := pb_ HB.out hx342_0; replace hx342_1 := pb_ HB.out hx342_1; replace hx342_2 := pb_ HB.out hx342_2; replace p342 := eq_true p342; replace q342 := eq_true q342) | (go_at_call 94; (with_reducible refine (impl_within.calls ((rd_T50 y331 x20_2).f1) 0 3 false _ A25.out).mono ?_); rintro e w' ⟨rfl, ⟨nd, rfl⟩⟩))
                  go_meet
                  case rel => exact ⟨_, (true), sd_, H', ⟨by have := HJ1.out; have := HK2.out; first | omega | exact Nat.le_refl _⟩, ⟨by exact bk⟩, ⟨bb⟩⟩
                ·rw [if_neg c24] at H
                 have c24b0 : (((rd_T50 y337 ((rd_T50 y331 x20_2).f0)).f2) == 0) = false := beq_eq_false_iff_ne.mpr c24; have c24b1 : (((rd_T50 y337 ((rd_T50 y331 x20_2).f0)).f2) != 0) = true := bne_iff_ne.mpr c24; have H' := Aside0.mk H; clear H; obtain ⟨hcz30_0, hcz30_1, hcz30_2, hfz30_0, hfz30_1, hfz30_2⟩ := bx3 BK336.out; go_wp2_with (first | ((with_reducible refine gate_callee (f := 94) rfl ?_); refine goesL_ (some 32) rfl rfl Try.func94 (by kernel_rfl) rfl #[.int .i64 ((rd_T50 y331 x20_2).f0), .int .i64 0, .int .i64 x20_2] rfl ms ?_; (with_reducible refine (impl_within.calls ((rd_T50 y331 x20_2).f0) 0 x20_2 true _ A20.out).mono ?_); rintro e w' ⟨rfl, ⟨nd, rfl⟩⟩; refine ⟨_, rfl, ?_⟩; have p342 : 0 ≤ (((rd_T50 y331 x20_2).f0) : Int) := od_; have q342 : ((rd_T50 y331 x20_2).f0) < (y337.length : Int) := od_; obtain ⟨ad342, e342, hx342_0, hx342_1, hx342_2⟩ := at_T50 HR340.out ((rd_T50 y331 x20_2).f0) p342 q342; cases e342; replace hx342_0 := pb_ HB.out hx342_0; replace hx342_1 := pb_ HB.out hx342_1; replace hx342_2 := pb_ HB.out hx342_2; replace p342 := eq_true p342; replace q342 := eq_true q342))
                 go_meet
                 case rel => exact ⟨_, (true), sd_, H', ⟨by have := HJ1.out; have := HK2.out; first | omega | exact Nat.le_refl _⟩, ⟨by exact bk⟩, ⟨bb⟩⟩
               ·rw [if_neg c23] at H
                exact absurd H (by simp)
              ·rw [if_neg c22] at H
               exact absurd H (by simp)
             ·replace c21 := Bool.eq_false_iff.mpr c21
              subst c21; (have H1 : (impl_TreeOk.j2 k2 l0 y337 y331 (y331.length : Int) x20_2 true ((rd_T50 y331 x20_2).f0) ((rd_T50 y331 x20_2).f1) ((rd_T50 y331 x20_2).f2)) = some r := by rw [if_neg (show ¬ (false = true) by decide)] at H; exact H); clear H; have H := H1; clear H1; have H' := Aside0.mk H; clear H; obtain ⟨hcz31_0, hcz31_1, hcz31_2, hfz31_0, hfz31_1, hfz31_2⟩ := bx3 BK336.out; go_wp2_with (first | ((with_reducible refine gate_callee (f := 94) rfl ?_); refine goesL_ (some 32) rfl rfl Try.func94 (by kernel_rfl) rfl #[.int .i64 ((rd_T50 y331 x20_2).f0), .int .i64 0, .int .i64 x20_2] rfl ms ?_; (with_reducible refine (impl_within.calls ((rd_T50 y331 x20_2).f0) 0 x20_2 false _ A20.out).mono ?_); rintro e w' ⟨rfl, ⟨nd, rfl⟩⟩; refine ⟨_, rfl, ?_⟩))
              go_meet
              case rel => exact ⟨_, (true), sd_, H', ⟨by have := HJ1.out; have := HK2.out; first | omega | exact Nat.le_refl _⟩, ⟨by exact bk⟩, ⟨bb⟩⟩
            case rest =>
             clear HC15; (try clear c1); (try clear q1); (try clear c2); (try clear p2); (try clear p3); (try clear q3); (try clear hx3); (try clear qi3); (try clear c4); (try clear c5); (try clear c5b0); (try clear c5b1); (try clear c6); (try clear p6); (try clear c7); (try clear c7b0); (try clear c7b1); (try clear c8); (try clear q8); (try clear c9); (try clear c9b0); (try clear c10); (try clear c10b0); (try clear c11); (try clear c11b0); (try clear c13); (try clear c13b0); (try clear c13b1); (try clear c14); (try clear c14b0); (try clear c14b1); (try clear q19); (try clear c21); (try clear c22); (try clear c22b0); (try clear c23); (try clear c23b0); (try clear c24); (try clear c24b0); (try clear c24b1); (try clear c26); (try clear hcz17_0); (try clear hcz17_1); (try clear hcz17_2); (try clear hcz28_0); (try clear hcz28_1); (try clear hcz28_2); (try clear hcz29_0); (try clear hcz29_1); (try clear hcz29_2); (try clear hcz30_0); (try clear hcz30_1); (try clear hcz30_2); (try clear hcz31_0); (try clear hcz31_1); (try clear hcz31_2); (try clear hfz17_0); (try clear hfz17_1); (try clear hfz17_2); (try clear hfz28_0); (try clear hfz28_1); (try clear hfz28_2); (try clear hfz29_0); (try clear hfz29_1); (try clear hfz29_2); (try clear hfz30_0); (try clear hfz30_1); (try clear hfz30_2); (try clear hfz31_0); (try clear hfz31_1); (try clear hfz31_2); (try clear hx330_0); (try clear hx330_1); (try clear hx330_2); (try clear hx335_0); (try clear hx335_1); (try clear hx335_2); (try clear hx342_0); (try clear hx342_1); (try clear hx342_2); (try clear p2); (try clear p3); (try clear p330); (try clear p335); (try clear p342); (try clear q19); (try clear q3); (try clear q330); (try clear q335); (try clear q342); (try clear q8); obtain ⟨kq, x54_14, rfl, HA, HJ14, BK336, HB⟩ := hcut
             cases kq with
             | zero => exact absurd HA.out (by simp [impl_TreeOk.j2])
             | succ kj14 =>
              have H := HA.out; clear HA; simp only [impl_TreeOk.j2] at H
              by_cases c32 : x54_14 = true
              ·subst c32
               (have H1 : (some false) = some r := by rw [if_pos rfl] at H; exact H); clear H; have H := H1; clear H1; obtain rfl := Option.some.inj H; go_wp2; go_ret; exact ⟨by first | rfl | (simp [errW_none, errW_some] <;> rfl) | (simp only [← hji12]; first | rfl | (simp [errW_none, errW_some] <;> rfl)) | (simp [*, errW_none, errW_some] <;> rfl), bb⟩
              ·replace c32 := Bool.eq_false_iff.mpr c32
               subst c32; (have H1 : ((impl_Node_impl_TreeOk_1.f y337 ((rd_T50 y331 x20_2).f0) ((rd_T50 y331 x20_2).f1) ((rd_T50 y331 x20_2).f2)).bind fun t345 => (if t345 = true then (some false) else (impl_TreeOk.l0 kj14 l0 y331 (y331.length : Int) (wrap64 (x20_2 + 1))))) = some r := by rw [if_neg (show ¬ (false = true) by decide)] at H; exact H); clear H; have H := H1; clear H1; replace H := bi_ H; obtain ⟨t345, A330, H⟩ := H; replace H : (if t345 = true then (some false) else (impl_TreeOk.l0 kj14 l0 y331 (y331.length : Int) (wrap64 (x20_2 + 1)))) = some r := H; have A33 := Aside0.mk A330; clear A330
               by_cases c34 : t345 = true
               ·subst c34
                (have H1 : (some false) = some r := by rw [if_pos rfl] at H; exact H); clear H; have H := H1; clear H1; obtain rfl := Option.some.inj H; go_wp2_with (first | ((with_reducible refine gate_callee (f := 95) rfl ?_); refine goesL_ (some 57) rfl rfl Try.func95 (by kernel_rfl) rfl #[.slice A0 y337.length c0, .func (.func 96) #[] #[.pointer (some ⟨gb336, 0, none⟩)]] rfl ms ?_; (with_reducible refine (impl_Node_impl_TreeOk_1.calls _ _ y337 gb336 ((rd_T50 y331 x20_2).f0) ((rd_T50 y331 x20_2).f1) ((rd_T50 y331 x20_2).f2) true _ ?side1 ?side2 ?side3 A33.out).mono ?_); (case side1 => exact kc); (case side2 => exact HC340.out); (case side3 => exact bk); rintro e w35 ⟨rfl, hb⟩; refine ⟨_, rfl, ?_⟩; have t_ := fc2 (bw BK336 hb) (below_step bb hb); clear BK336 HB; obtain ⟨BK336, HB⟩ := t_; (try clear hb))); go_ret; exact ⟨by first | rfl | (simp [errW_none, errW_some] <;> rfl) | (simp only [← hji12]; first | rfl | (simp [errW_none, errW_some] <;> rfl)) | (simp [*, errW_none, errW_some] <;> rfl), bb⟩
               ·replace c34 := Bool.eq_false_iff.mpr c34
                subst c34; (have H1 : (impl_TreeOk.l0 kj14 l0 y331 (y331.length : Int) (wrap64 (x20_2 + 1))) = some r := by rw [if_neg (show ¬ (false = true) by decide)] at H; exact H); clear H; have H := H1; clear H1; have H' := Aside0.mk H; clear H; go_wp2_with (first | ((with_reducible refine gate_callee (f := 95) rfl ?_); refine goesL_ (some 57) rfl rfl Try.func95 (by kernel_rfl) rfl #[.slice A0 y337.length c0, .func (.func 96) #[] #[.pointer (some ⟨gb336, 0, none⟩)]] rfl ms ?_; (with_reducible refine (impl_Node_impl_TreeOk_1.calls _ _ y337 gb336 ((rd_T50 y331 x20_2).f0) ((rd_T50 y331 x20_2).f1) ((rd_T50 y331 x20_2).f2) false _ ?side1 ?side2 ?side3 A33.out).mono ?_); (case side1 => exact kc); (case side2 => exact HC340.out); (case side3 => exact bk); rintro e w36 ⟨rfl, hb⟩; refine ⟨_, rfl, ?_⟩; have t_ := fc2 (bw BK336 hb) (below_step bb hb); clear BK336 HB; obtain ⟨BK336, HB⟩ := t_; (try clear hb)))
                go_roundg kj14
                case measure => have := HJ1.out; have := HK2.out; have := HJ14.out; omega
                case rel => exact ⟨(wrap64 (x20_2 + 1)), sd_, H', ⟨by have := HJ1.out; have := HK2.out; have := HJ14.out; omega⟩, ⟨bb⟩⟩
           ·rw [if_neg c14] at H
            exact absurd H (by simp)
          ·rw [if_neg c13] at H
           exact absurd H (by simp)
         ·rw [if_neg c11] at H
          exact absurd H (by simp)
        ·rw [if_neg c10] at H
         exact absurd H (by simp)
       ·rw [if_neg c9] at H
        have c9b0 : decide (x20_2 < (y331.length : Int)) = false := decide_eq_false c9; clear c9; obtain rfl := Option.some.inj H; go_wp2; go_ret; exact ⟨er, bb⟩
    ·rw [if_neg c7] at H
     exact absurd H (by simp)

def impl_isNode.f (k : Nat) (l0 : List (S50)) (a1 : Int) : Option (Bool) := (impl_TreeOk.f k l0).bind fun t346 => (if t346 = true then ((impl_within.f a1 0 (wrap64 ((l0.length : Int) - 1))).bind fun t347 => (some t347)) else (some false))
set_option maxHeartbeats 8000000 in
set_option maxRecDepth 100000 in
theorem impl_isNode.calls (k : Nat) (A0 : Option Addr) (c0 : Nat) (l0 : List (S50)) (a1 : Int) (r : Bool) (w : World) (hr0 : Kd.C k50 w A0 l0.length l0) (hc0 : l0.length ≤ c0) (h : impl_isNode.f k l0 a1 = some r) :
  Calls Try.prog 90 #[.slice A0 l0.length c0, .int .i64 a1] w fun e w' => e = .returned (.bool r) ∧ Below w.heap.size w w' := by
 have HR0 := Aside0.mk hr0; have HC0 := Aside0.mk hc0; clear hr0 hc0; have HB := Aside0.mk (Below.refl w.heap.size w); have H : ((impl_TreeOk.f k l0).bind fun t346 => (if t346 = true then ((impl_within.f a1 0 (wrap64 ((l0.length : Int) - 1))).bind fun t347 => (some t347)) else (some false))) = some r := h; clear h; replace H := bi_ H; obtain ⟨t346, A30, H⟩ := H; replace H : (if t346 = true then ((impl_within.f a1 0 (wrap64 ((l0.length : Int) - 1))).bind fun t347 => (some t347)) else (some false)) = some r := H; have A3 := Aside0.mk A30; clear A30
 by_cases c4 : t346 = true
 ·subst c4
  (have H1 : ((impl_within.f a1 0 (wrap64 ((l0.length : Int) - 1))).bind fun t347 => (some t347)) = some r := by rw [if_pos rfl] at H; exact H); clear H; have H := H1; clear H1; replace H := bi_ H; obtain ⟨t347, A50, H⟩ := H; replace H : (some t347) = some r := H; have A5 := Aside0.mk A50; clear A50; obtain rfl := Option.some.inj H; go_enter Try.func90, Try.ntmps90; go_wp2_with (first | ((with_reducible refine gate_callee (f := 40) rfl ?_); refine goesL_ (some 6) rfl rfl Try.func40 (by kernel_rfl) rfl #[.slice A0 l0.length c0] rfl ms ?_; (with_reducible refine (impl_TreeOk.calls k _ _ l0 true _ ?side1 ?side2 A3.out).mono ?_); (case side1 => repeat (first | exact HR0.out | (with_reducible refine C_alloc ?_ _) | (with_reducible refine C_drewN ?_ _) | (with_reducible refine C_drew ?_))); (case side2 => exact HC0.out); rintro e w6 ⟨rfl, hb⟩; refine ⟨_, rfl, ?_⟩; replace HB := Aside0.mk (below_step bb hb); (try clear hb)) | (go_at_call 94; (with_reducible refine (impl_within.calls a1 0 (wrap64 ((l0.length : Int) - 1)) t347 _ A5.out).mono ?_); rintro e w' ⟨rfl, ⟨nd, rfl⟩⟩)); go_ret; exact ⟨er, bb⟩
 ·replace c4 := Bool.eq_false_iff.mpr c4
  subst c4; (have H1 : (some false) = some r := by rw [if_neg (show ¬ (false = true) by decide)] at H; exact H); clear H; have H := H1; clear H1; obtain rfl := Option.some.inj H; go_enter Try.func90, Try.ntmps90; go_wp2_with (first | ((with_reducible refine gate_callee (f := 40) rfl ?_); refine goesL_ (some 6) rfl rfl Try.func40 (by kernel_rfl) rfl #[.slice A0 l0.length c0] rfl ms ?_; (with_reducible refine (impl_TreeOk.calls k _ _ l0 false _ ?side1 ?side2 A3.out).mono ?_); (case side1 => repeat (first | exact HR0.out | (with_reducible refine C_alloc ?_ _) | (with_reducible refine C_drewN ?_ _) | (with_reducible refine C_drew ?_))); (case side2 => exact HC0.out); rintro e w7 ⟨rfl, hb⟩; refine ⟨_, rfl, ?_⟩; replace HB := Aside0.mk (below_step bb hb); (try clear hb))); go_ret; exact ⟨er, bb⟩

def cmp_isNaN_int.f (a0 : Int) : Option (Bool) := some (a0 != a0)
set_option maxHeartbeats 8000000 in
set_option maxRecDepth 100000 in
theorem cmp_isNaN_int.calls (a0 : Int) (r : Bool) (w : World) (h : cmp_isNaN_int.f a0 = some r) :
  Calls Try.prog 127 #[.int .i64 a0] w fun e w' => e = .returned (.bool r) ∧ Drawn0 w w' := by
 have H : (some (a0 != a0)) = some r := h; clear h; obtain rfl := Option.some.inj H; go_enter Try.func127, Try.ntmps127; go_wp2; go_ret; exact ⟨sd_, ds_⟩

def cmp_Compare_int.f (a0 : Int) (a1 : Int) : Option (Int) := (cmp_isNaN_int.f a0).bind fun t348 => ((cmp_isNaN_int.f a1).bind fun t349 => (if t348 = true then (if t349 = true then (some 0) else (some (-1))) else (if t349 = true then (some 1) else (if a0 < a1 then (some (-1)) else (if a0 > a1 then (some 1) else (some 0))))))
set_option maxHeartbeats 8000000 in
set_option maxRecDepth 100000 in
theorem cmp_Compare_int.calls (a0 : Int) (a1 : Int) (r : Int) (w : World) (h : cmp_Compare_int.f a0 a1 = some r) :
  Calls Try.prog 93 #[.int .i64 a0, .int .i64 a1] w fun e w' => e = .returned (.int .i64 r) ∧ Drawn0 w w' := by
 have H : ((cmp_isNaN_int.f a0).bind fun t348 => ((cmp_isNaN_int.f a1).bind fun t349 => (if t348 = true then (if t349 = true then (some 0) else (some (-1))) else (if t349 = true then (some 1) else (if a0 < a1 then (some (-1)) else (if a0 > a1 then (some 1) else (some 0))))))) = some r := h; clear h; replace H := bi_ H; obtain ⟨t348, A30, H⟩ := H; replace H : ((cmp_isNaN_int.f a1).bind fun t349 => (if t348 = true then (if t349 = true then (some 0) else (some (-1))) else (if t349 = true then (some 1) else (if a0 < a1 then (some (-1)) else (if a0 > a1 then (some 1) else (some 0)))))) = some r := H; have A3 := Aside0.mk A30; clear A30; replace H := bi_ H; obtain ⟨t349, A40, H⟩ := H; replace H : (if t348 = true then (if t349 = true then (some 0) else (some (-1))) else (if t349 = true then (some 1) else (if a0 < a1 then (some (-1)) else (if a0 > a1 then (some 1) else (some 0))))) = some r := H; have A4 := Aside0.mk A40; clear A40
 by_cases c5 : t348 = true
 ·subst c5
  (have H1 : (if t349 = true then (some 0) else (some (-1))) = some r := by rw [if_pos rfl] at H; exact H); clear H; have H := H1; clear H1
  by_cases c6 : t349 = true
  ·subst c6
   (have H1 : (some 0) = some r := by rw [if_pos rfl] at H; exact H); clear H; have H := H1; clear H1; obtain rfl := Option.some.inj H; go_enter Try.func93, Try.ntmps93; go_wp2_with (first | ((with_reducible refine gate_callee (f := 127) rfl ?_); refine goesL_ (some 8) rfl rfl Try.func127 (by kernel_rfl) rfl #[.int .i64 a0] rfl ms ?_; (with_reducible refine (cmp_isNaN_int.calls a0 true _ A3.out).mono ?_); rintro e w' ⟨rfl, ⟨nd, rfl⟩⟩; refine ⟨_, rfl, ?_⟩) | ((with_reducible refine gate_callee (f := 127) rfl ?_); refine goesL_ (some 10) rfl rfl Try.func127 (by kernel_rfl) rfl #[.int .i64 a1] rfl ms ?_; (with_reducible refine (cmp_isNaN_int.calls a1 true _ A4.out).mono ?_); rintro e w' ⟨rfl, ⟨nd, rfl⟩⟩; refine ⟨_, rfl, ?_⟩)); go_ret; exact ⟨sd_, ds_⟩
  ·replace c6 := Bool.eq_false_iff.mpr c6
   subst c6; (have H1 : (some (-1)) = some r := by rw [if_neg (show ¬ (false = true) by decide)] at H; exact H); clear H; have H := H1; clear H1; obtain rfl := Option.some.inj H; go_enter Try.func93, Try.ntmps93; go_wp2_with (first | ((with_reducible refine gate_callee (f := 127) rfl ?_); refine goesL_ (some 8) rfl rfl Try.func127 (by kernel_rfl) rfl #[.int .i64 a0] rfl ms ?_; (with_reducible refine (cmp_isNaN_int.calls a0 true _ A3.out).mono ?_); rintro e w' ⟨rfl, ⟨nd, rfl⟩⟩; refine ⟨_, rfl, ?_⟩) | ((with_reducible refine gate_callee (f := 127) rfl ?_); refine goesL_ (some 10) rfl rfl Try.func127 (by kernel_rfl) rfl #[.int .i64 a1] rfl ms ?_; (with_reducible refine (cmp_isNaN_int.calls a1 false _ A4.out).mono ?_); rintro e w' ⟨rfl, ⟨nd, rfl⟩⟩; refine ⟨_, rfl, ?_⟩)); go_ret; exact ⟨sd_, ds_⟩
 ·replace c5 := Bool.eq_false_iff.mpr c5
  subst c5; (have H1 : (if t349 = true then (some 1) else (if a0 < a1 then (some (-1)) else (if a0 > a1 then (some 1) else (some 0)))) = some r := by rw [if_neg (show ¬ (false = true) by decide)] at H; exact H); clear H; have H := H1; clear H1
  by_cases c7 : t349 = true
  ·subst c7
   (have H1 : (some 1) = some r := by rw [if_pos rfl] at H; exact H); clear H; have H := H1; clear H1; obtain rfl := Option.some.inj H; go_enter Try.func93, Try.ntmps93; go_wp2_with (first | ((with_reducible refine gate_callee (f := 127) rfl ?_); refine goesL_ (some 8) rfl rfl Try.func127 (by kernel_rfl) rfl #[.int .i64 a0] rfl ms ?_; (with_reducible refine (cmp_isNaN_int.calls a0 false _ A3.out).mono ?_); rintro e w' ⟨rfl, ⟨nd, rfl⟩⟩; refine ⟨_, rfl, ?_⟩) | ((with_reducible refine gate_callee (f := 127) rfl ?_); refine goesL_ (some 10) rfl rfl Try.func127 (by kernel_rfl) rfl #[.int .i64 a1] rfl ms ?_; (with_reducible refine (cmp_isNaN_int.calls a1 true _ A4.out).mono ?_); rintro e w' ⟨rfl, ⟨nd, rfl⟩⟩; refine ⟨_, rfl, ?_⟩)); go_ret; exact ⟨sd_, ds_⟩
  ·replace c7 := Bool.eq_false_iff.mpr c7
   subst c7; (have H1 : (if a0 < a1 then (some (-1)) else (if a0 > a1 then (some 1) else (some 0))) = some r := by rw [if_neg (show ¬ (false = true) by decide)] at H; exact H); clear H; have H := H1; clear H1
   by_cases c8 : a0 < a1
   ·rw [if_pos c8] at H
    have c8b0 : decide (a0 < a1) = true := decide_eq_true c8; clear c8; obtain rfl := Option.some.inj H; go_enter Try.func93, Try.ntmps93; go_wp2_with (first | ((with_reducible refine gate_callee (f := 127) rfl ?_); refine goesL_ (some 8) rfl rfl Try.func127 (by kernel_rfl) rfl #[.int .i64 a0] rfl ms ?_; (with_reducible refine (cmp_isNaN_int.calls a0 false _ A3.out).mono ?_); rintro e w' ⟨rfl, ⟨nd, rfl⟩⟩; refine ⟨_, rfl, ?_⟩) | ((with_reducible refine gate_callee (f := 127) rfl ?_); refine goesL_ (some 10) rfl rfl Try.func127 (by kernel_rfl) rfl #[.int .i64 a1] rfl ms ?_; (with_reducible refine (cmp_isNaN_int.calls a1 false _ A4.out).mono ?_); rintro e w' ⟨rfl, ⟨nd, rfl⟩⟩; refine ⟨_, rfl, ?_⟩)); go_ret; exact ⟨sd_, ds_⟩
   ·rw [if_neg c8] at H
    have c8b0 : decide (a0 < a1) = false := decide_eq_false c8; clear c8
    by_cases c9 : a0 > a1
    ·rw [if_pos c9] at H
     have c9b0 : decide (a1 < a0) = true := decide_eq_true c9; clear c9; obtain rfl := Option.some.inj H; go_enter Try.func93, Try.ntmps93; go_wp2_with (first | ((with_reducible refine gate_callee (f := 127) rfl ?_); refine goesL_ (some 8) rfl rfl Try.func127 (by kernel_rfl) rfl #[.int .i64 a0] rfl ms ?_; (with_reducible refine (cmp_isNaN_int.calls a0 false _ A3.out).mono ?_); rintro e w' ⟨rfl, ⟨nd, rfl⟩⟩; refine ⟨_, rfl, ?_⟩) | ((with_reducible refine gate_callee (f := 127) rfl ?_); refine goesL_ (some 10) rfl rfl Try.func127 (by kernel_rfl) rfl #[.int .i64 a1] rfl ms ?_; (with_reducible refine (cmp_isNaN_int.calls a1 false _ A4.out).mono ?_); rintro e w' ⟨rfl, ⟨nd, rfl⟩⟩; refine ⟨_, rfl, ?_⟩)); go_ret; exact ⟨sd_, ds_⟩
    ·rw [if_neg c9] at H
     have c9b0 : decide (a1 < a0) = false := decide_eq_false c9; clear c9; obtain rfl := Option.some.inj H; go_enter Try.func93, Try.ntmps93; go_wp2_with (first | ((with_reducible refine gate_callee (f := 127) rfl ?_); refine goesL_ (some 8) rfl rfl Try.func127 (by kernel_rfl) rfl #[.int .i64 a0] rfl ms ?_; (with_reducible refine (cmp_isNaN_int.calls a0 false _ A3.out).mono ?_); rintro e w' ⟨rfl, ⟨nd, rfl⟩⟩; refine ⟨_, rfl, ?_⟩) | ((with_reducible refine gate_callee (f := 127) rfl ?_); refine goesL_ (some 10) rfl rfl Try.func127 (by kernel_rfl) rfl #[.int .i64 a1] rfl ms ?_; (with_reducible refine (cmp_isNaN_int.calls a1 false _ A4.out).mono ?_); rintro e w' ⟨rfl, ⟨nd, rfl⟩⟩; refine ⟨_, rfl, ?_⟩)); go_ret; exact ⟨sd_, ds_⟩

def impl_ChildrenOf_1.f (a0 : Int) (a1 : Int) (l2_0 : List (S50)) : Option (Int) := if 0 ≤ a0 then (if a0 < (l2_0.length : Int) then (if 0 ≤ a1 then (if a1 < (l2_0.length : Int) then ((cmp_Compare_int.f ((rd_T50 l2_0 a0).f1) ((rd_T50 l2_0 a1).f1)).bind fun t352 => (some t352)) else (none)) else (none)) else (none)) else (none)
set_option maxHeartbeats 8000000 in
set_option maxRecDepth 100000 in
theorem impl_ChildrenOf_1.calls (a0 : Int) (a1 : Int) (gc2 : Nat) (A2_0 : Option Addr) (c2_0 : Nat) (l2_0 : List (S50)) (r : Int) (w : World) (hr2_0 : Kd.C k50 w A2_0 l2_0.length l2_0) (hc2_0 : l2_0.length ≤ c2_0) (hbx2 : w.heap[gc2]? = some (.cells #[.slice A2_0 l2_0.length c2_0] 29 (0, 0))) (h : impl_ChildrenOf_1.f a0 a1 l2_0 = some r) :
  Calls Try.prog 92 #[.int .i64 a0, .int .i64 a1, .pointer (some ⟨gc2, 0, none⟩)] w fun e w' => e = .returned (.int .i64 r) ∧ Drawn0 w w' := by
 have HR2_0 := Aside0.mk hr2_0; have HC2_0 := Aside0.mk hc2_0; clear hr2_0 hc2_0; have BK2 := Aside0.mk hbx2; clear hbx2; have H : (if 0 ≤ a0 then (if a0 < (l2_0.length : Int) then (if 0 ≤ a1 then (if a1 < (l2_0.length : Int) then ((cmp_Compare_int.f ((rd_T50 l2_0 a0).f1) ((rd_T50 l2_0 a1).f1)).bind fun t352 => (some t352)) else (none)) else (none)) else (none)) else (none)) = some r := h; clear h
 by_cases c4 : 0 ≤ a0
 ·rw [if_pos c4] at H
  have c4b0 : decide (0 ≤ a0) = true := decide_eq_true c4; clear c4
  by_cases c5 : a0 < (l2_0.length : Int)
  ·rw [if_pos c5] at H
   have c5b0 : decide (a0 < (l2_0.length : Int)) = true := decide_eq_true c5; clear c5
   by_cases c6 : 0 ≤ a1
   ·rw [if_pos c6] at H
    have c6b0 : decide (0 ≤ a1) = true := decide_eq_true c6; clear c6
    by_cases c7 : a1 < (l2_0.length : Int)
    ·rw [if_pos c7] at H
     have c7b0 : decide (a1 < (l2_0.length : Int)) = true := decide_eq_true c7; clear c7; replace H := bi_ H; obtain ⟨t352, A80, H⟩ := H; replace H : (some t352) = some r := H; have A8 := Aside0.mk A80; clear A80; obtain rfl := Option.some.inj H; obtain ⟨hcz9_0, hfz9_0⟩ := bx1 BK2.out; have p350 : 0 ≤ (a0 : Int) := od_; have q350 : a0 < (l2_0.length : Int) := od_; obtain ⟨ad350, e350, hx350_0, hx350_1, hx350_2⟩ := at_T50 HR2_0.out a0 p350 q350; cases e350; replace p350 := eq_true p350; replace q350 := eq_true q350; have p351 : 0 ≤ (a1 : Int) := od_; have q351 : a1 < (l2_0.length : Int) := od_; obtain ⟨ad351, e351, hx351_0, hx351_1, hx351_2⟩ := at_T50 HR2_0.out a1 p351 q351
     obtain rfl : ad350 = ad351 := (by injection e351)
     replace p351 := eq_true p351; replace q351 := eq_true q351; go_enter Try.func92, Try.ntmps92; go_wp2_with (first | (go_at_call 93; (with_reducible refine (cmp_Compare_int.calls ((rd_T50 l2_0 a0).f1) ((rd_T50 l2_0 a1).f1) t352 _ A8.out).mono ?_); rintro e w' ⟨rfl, ⟨nd, rfl⟩⟩; (try first | exact ⟨rfl, _, World.drewN_drewN _ _ _⟩ | exact ⟨rfl, _, d3_ _ _ _ _⟩)))
     repeat (go_quiet (first | (go_at_call 93; (with_reducible refine (cmp_Compare_int.calls ((rd_T50 l2_0 a0).f1) ((rd_T50 l2_0 a1).f1) t352 _ A8.out).mono ?_); rintro e w' ⟨rfl, ⟨nd, rfl⟩⟩; (try first | exact ⟨rfl, _, World.drewN_drewN _ _ _⟩ | exact ⟨rfl, _, d3_ _ _ _ _⟩))); try go_wp2_with (first | (go_at_call 93; (with_reducible refine (cmp_Compare_int.calls ((rd_T50 l2_0 a0).f1) ((rd_T50 l2_0 a1).f1) t352 _ A8.out).mono ?_); rintro e w' ⟨rfl, ⟨nd, rfl⟩⟩; (try first | exact ⟨rfl, _, World.drewN_drewN _ _ _⟩ | exact ⟨rfl, _, d3_ _ _ _ _⟩))))
     go_ret; exact ⟨sd_, ds_⟩
    ·rw [if_neg c7] at H
     exact absurd H (by simp)
   ·rw [if_neg c6] at H
    exact absurd H (by simp)
  ·rw [if_neg c5] at H
   exact absurd H (by simp)
 ·rw [if_neg c4] at H
  exact absurd H (by simp)

def slices_SortFunc_int_int_impl_ChildrenOf_1.key (lt : List S50) (x : Int) : Int := (rd_T50 lt x).f1
def slices_SortFunc_int_int_impl_ChildrenOf_1.f (l0 : List Int) (lt : List S50) : Option (List Int) := if (decide (l0.length ≤ 12) && (l0.all (fun x => decide (0 ≤ x ∧ x < (lt.length : Int) ∧ 0 ≤ slices_SortFunc_int_int_impl_ChildrenOf_1.key lt x ∧ slices_SortFunc_int_int_impl_ChildrenOf_1.key lt x ≤ 3)) && decide ((l0.map (slices_SortFunc_int_int_impl_ChildrenOf_1.key lt)).Nodup))) = true then some (l0.filter (fun x => decide (slices_SortFunc_int_int_impl_ChildrenOf_1.key lt x = 0)) ++ (l0.filter (fun x => decide (slices_SortFunc_int_int_impl_ChildrenOf_1.key lt x = 1)) ++ (l0.filter (fun x => decide (slices_SortFunc_int_int_impl_ChildrenOf_1.key lt x = 2)) ++ l0.filter (fun x => decide (slices_SortFunc_int_int_impl_ChildrenOf_1.key lt x = 3))))) else none
theorem slices_SortFunc_int_int_impl_ChildrenOf_1.calls (P0_ : Nat → Prop) (u9000_ : Value) (l0 : List Int) (gt : Nat) (At : Option Addr) (ct : Nat) (lt : List S50) (r : List Int) (w0 w : World) (hB : Below w0.heap.size w0 w) (ho0 : Kd.R (Kd.int .i64) 3 w w0.heap.size P0_ u9000_ l0)
  (hrt : ∀ W_, Kept w W_ (fun k_ => P0_ k_) → Kd.C k50 W_ At lt.length lt) (hct : lt.length ≤ ct) (hbt : w.heap[gt]? = some (.cells #[.slice At lt.length ct] 29 (0, 0))) (hnb : ¬ P0_ gt) (h : slices_SortFunc_int_int_impl_ChildrenOf_1.f l0 lt = some r) :
  Calls Try.prog 91 #[u9000_, .func (.func 92) #[] #[.pointer (some ⟨gt, 0, none⟩)]] w fun e w' => e = .returned (.tuple #[]) ∧ Kd.R (Kd.int .i64) 3 w' w0.heap.size (fun k_ => (P0_ k_ ∨ w.heap.size ≤ k_)) u9000_ r ∧ Below w0.heap.size w0 w' ∧ Kept w w' (fun k_ => P0_ k_) := by
 unfold slices_SortFunc_int_int_impl_ChildrenOf_1.f at h
 split at h
 next hs =>
  injection h with h; subst h; simp only [Bool.and_eq_true, decide_eq_true_eq, List.all_eq_true] at hs; obtain ⟨h12, hin, hnd⟩ := hs
  have hcf : ∀ x y, (0 ≤ x ∧ x < (lt.length : Int)) → (0 ≤ y ∧ y < (lt.length : Int)) → impl_ChildrenOf_1.f x y lt = some (if slices_SortFunc_int_int_impl_ChildrenOf_1.key lt x < slices_SortFunc_int_int_impl_ChildrenOf_1.key lt y then -1 else if slices_SortFunc_int_int_impl_ChildrenOf_1.key lt x > slices_SortFunc_int_int_impl_ChildrenOf_1.key lt y then 1 else 0) := by
   intro x y hx hy
   unfold impl_ChildrenOf_1.f cmp_Compare_int.f cmp_isNaN_int.f slices_SortFunc_int_int_impl_ChildrenOf_1.key
   rw [if_pos hx.1, if_pos hx.2, if_pos hy.1, if_pos hy.2]; generalize (rd_T50 lt x).f1 = a; generalize (rd_T50 lt y).f1 = b; simp only [bne_self_eq_false, Option.bind_some, Bool.false_eq_true, if_false]
   by_cases h1 : a < b
   ·simp [h1]
   ·by_cases h2 : a > b
    ·simp [h1, h2]
    ·simp [h1, h2]
  have hneg : ∀ x y, (0 ≤ x ∧ x < (lt.length : Int)) → (0 ≤ y ∧ y < (lt.length : Int)) → ((impl_ChildrenOf_1.f x y lt).getD 0 < 0 ↔ slices_SortFunc_int_int_impl_ChildrenOf_1.key lt x < slices_SortFunc_int_int_impl_ChildrenOf_1.key lt y) := by
   intro x y hx hy; rw [hcf x y hx hy]; simp only [Option.getD_some]
   split
   ·omega
   ·split <;> omega
  have hc := Fns.sort_int (fun x => 0 ≤ x ∧ x < (lt.length : Int)) (fun x y => (impl_ChildrenOf_1.f x y lt).getD 0) ⟨fun x => by rw [decide_eq_false_iff_not, hneg _ _ x.2 x.2]; omega, fun x y z h1 h2 => by rw [decide_eq_true_iff, hneg _ _ x.2 y.2] at h1; rw [decide_eq_true_iff, hneg _ _ y.2 z.2] at h2; rw [decide_eq_true_iff, hneg _ _ x.2 z.2]; omega, fun x y z h1 h2 => by rw [decide_eq_false_iff_not, hneg _ _ x.2 y.2] at h1; rw [decide_eq_false_iff_not, hneg _ _ y.2 z.2] at h2; rw [decide_eq_false_iff_not, hneg _ _ x.2 z.2]; omega⟩ 92 #[.pointer (some ⟨gt, 0, none⟩)] P0_ u9000_ l0 w0 w hB ho0 h12 (fun x hx => ⟨(hin x hx).1, (hin x hx).2.1⟩) (enters_of Try.func92 (by kernel_rfl) rfl)
   (fun W hW x y hx hy => by
    (have hf : impl_ChildrenOf_1.f x y lt = some ((impl_ChildrenOf_1.f x y lt).getD 0) := by rw [hcf x y hx hy]; rfl); refine (impl_ChildrenOf_1.calls x y gt At ct lt _ W (hrt W hW) hct (blk_kept hbt hW hnb) hf).mono ?_; rintro e w' ⟨rfl, ⟨q, rfl⟩⟩; exact ⟨rfl, q, rfl⟩)
  refine hc.mono ?_; rintro e w' ⟨rfl, l', hp, hsd, hR, hBl, hK⟩; (have hmem : ∀ x ∈ l', 0 ≤ x ∧ x < (lt.length : Int) := fun x hx => by have := hin x (hp.subset hx); exact ⟨this.1, this.2.1⟩); have hsd' : l'.Pairwise (fun x y => ¬ slices_SortFunc_int_int_impl_ChildrenOf_1.key lt y < slices_SortFunc_int_int_impl_ChildrenOf_1.key lt x) := List.Pairwise.imp_of_mem (fun {x y} hx hy hh => by rw [hneg y x (hmem y hy) (hmem x hx)] at hh; exact hh) hsd; rw [Fns.buckets_eq (slices_SortFunc_int_int_impl_ChildrenOf_1.key lt) l0 l' (fun x hx => ⟨(hin x hx).2.2.1, (hin x hx).2.2.2⟩) hnd hp hsd'] at hR; exact ⟨rfl, R_mono hR (fun k hk => .inl hk), hBl, hK⟩
 next => cases h
end Go.Proofs.Ytbbppknnkghkjaa.PFnExactIsLocal
