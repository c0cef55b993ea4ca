/- Printed by a program of this session out of the translation: each Go function as a Lean function, with the proof that Go comes to just its answer (no condition beyond what each theorem says). (squeezed) -/
import Derived.Test.YtbbppknnkghkjaaPFnIdRoutesx0
import Derived.Test.YtbbppknnkghkjaaPFnIdRoutesx2
namespace Go.Proofs.Ytbbppknnkghkjaa.PFnIdRoutes
open Go.RowKit Go.Proofs.YtbbppknnkghkjaaW.PrintWords Go.Proofs.YtbbppknnkghkjaaW.PrintLast Go.Proofs.YtbbppknnkghkjaaW.PrintMore Go.Proofs.Ytbbppknnkghkjaa.Kit Go.Proofs.Ytbbppknnkghkjaa.Kit2
attribute [local go_sem] max2_int min2_int max_two min_two max_three min_three max_four min_four   -- for this text's walks alone
set_option linter.unusedVariables false
set_option linter.unusedSimpArgs false

/-! ### impl_ChildrenOf: function 39 -/
def impl_ChildrenOf.l0 : Nat → Int → List Int → List (S50) → Int → Int → List (S50) → Option (List Int)
 | 0, _, _, _, _, _, _ => none
 | k + 1, x1, x5, x14, x15, x16, x126000 => if x16 < x15 then (if 0 ≤ x16 then (if x16 < (x14.length : Int) then (if ((rd_T50 x14 x16).f0) = x1 then (if x5.length < 17592186044416 then (impl_ChildrenOf.l0 k x1 (x5 ++ [x16]) x14 x15 (wrap64 (x16 + 1)) x126000) else (none)) else (impl_ChildrenOf.l0 k x1 x5 x14 x15 (wrap64 (x16 + 1)) x126000)) else (none)) else (none)) else ((slices_SortFunc_int_int_impl_ChildrenOf_1.f x5 x126000).bind fun t135 => (some t135))
def impl_ChildrenOf.f (k : Nat) (l0 : List (S50)) (a1 : Int) : Option (List Int) := (some (([] : List Int) : List Int)).bind fun y126 => ((impl_isNode.f k l0 a1).bind fun t129 => (if t129 = true then (impl_ChildrenOf.l0 k a1 y126 l0 (l0.length : Int) 0 l0) else (some y126)))
set_option maxHeartbeats 8000000 in
set_option maxRecDepth 100000 in
theorem impl_ChildrenOf.calls (k : Nat) (A0 : Option Addr) (c0 : Nat) (l0 : List (S50)) (a1 : Int) (r : List Int) (w : World) (hr0 : Kd.C k50 w A0 l0.length l0) (hc0 : l0.length ≤ c0) (h : impl_ChildrenOf.f k l0 a1 = some r) :
  Calls Try.prog 39 #[.slice A0 l0.length c0, .int .i64 a1] w fun e w' => ∃ v0_ : Value, e = .returned (v0_) ∧ Kd.R (Kd.int .i64) 3 w' w.heap.size (fun _ => True) v0_ r ∧ Below w.heap.size w w' := by
 have hu50 := Try.underlying50
 have HR0 := Aside0.mk hr0
 have HC0 := Aside0.mk hc0
 clear hr0 hc0
 have HB := Aside0.mk (Below.refl w.heap.size w)
 have H : ((some (([] : List Int) : List Int)).bind fun y126 => ((impl_isNode.f k l0 a1).bind fun t129 => (if t129 = true then (impl_ChildrenOf.l0 k a1 y126 l0 (l0.length : Int) 0 l0) else (some y126)))) = some r := h
 clear h
 obtain ⟨y126, hy126⟩ : ∃ y_ : List Int, y_ = (([] : List Int)) := ⟨_, rfl⟩
 replace H : ((impl_isNode.f k l0 a1).bind fun t129 => (if t129 = true then (impl_ChildrenOf.l0 k a1 y126 l0 (l0.length : Int) 0 l0) else (some y126))) = some r := by first | (rw [hy126]; with_reducible exact H) | (have H2_ := (Option.bind_some _ _).symm.trans H; rw [hy126]; with_reducible exact H2_) | (have H2_ := (Option.bind_some _ _).symm.trans H; with_reducible exact H2_) | with_reducible exact H | (rw [hy126]; exact H) | exact H
 have Ny126 := Aside0.mk hy126
 clear hy126
 replace H := Option.bind_eq_some_iff.mp H
 obtain ⟨t129, A30, H⟩ := H
 replace H : (if t129 = true then (impl_ChildrenOf.l0 k a1 y126 l0 (l0.length : Int) 0 l0) else (some y126)) = some r := H
 have A3 := Aside0.mk A30
 clear A30
 by_cases c4 : t129 = true
 ·subst c4
  have H1 : (impl_ChildrenOf.l0 k a1 y126 l0 (l0.length : Int) 0 l0) = some r := by rw [if_pos rfl] at H; exact H
  clear H
  have H := H1
  clear H1
  have H' := Aside0.mk H
  clear H
  go_enter Try.func39, Try.ntmps39
  go_wp2_with (first | ((with_reducible refine gate_dst (N := 2) rfl ?_); refine box_event ?hg (N := 2) ?hd (cs := #[.slice A0 l0.length c0]) (t := 29) ?hr ?_; (case hd => rfl); (case hg => rfl); (case hr => first | (go_simp; done) | (go_simp; rfl)); intro gb125 hg w5 hbox hb; have t_ := fc4 (below_step bb hb) (hbox) (bg hg : w.heap.size ≤ gb125) (bg hg : w.heap.size ≤ gb125); clear HB; obtain ⟨HB, BK125, GW125, GE125⟩ := t_; clear hb hbox hg) | ((with_reducible refine gate_dst (N := 8) rfl ?_); refine Kd.R_lit (Kd.int .i64) _ 3 ?hg (N := 8) ?hd (xs := ([] : List Int)) (inner := []) (ok := fun _ => True) (okp := fun _ => True) ?hr ?hp (fun _ hk => hk) trivial (Below.refl _ _) (Nat.le_refl _) (by simp) ?_; (case hd => rfl); (case hg => rfl); (case hr => first | (go_simp; done) | (go_simp; rfl)); (case hp => exact (Reps.none _ _)); intro v127 w6 ho7 hb hg_ hnew_; clear hg_ hnew_; (first | rw [← Ny126.out] at ho7 | (simp only [Int.reduceToNat] at ho7; rw [← Ny126.out] at ho7)); have t_ := fc3 (Kd.R_lower ho7 (below_size bb)) (bw BK125 hb) (below_step bb hb); clear BK125 HB; obtain ⟨HO128, BK125, HB⟩ := t_; clear hb ho7; obtain ⟨hcz8_0, hfz8_0⟩ := bx1 BK125.out) | ((with_reducible refine gate_callee (f := 90) rfl ?_); refine goesL_ (some 11) rfl rfl Try.func90 (by kernel_rfl) rfl #[.slice A0 l0.length c0, .int .i64 a1] rfl ms ?_; (with_reducible refine (impl_isNode.calls k _ _ l0 a1 true _ ?side1 ?side2 A3.out).mono ?_); (case side1 => exact kc); (case side2 => exact HC0.out); rintro e w9 ⟨rfl, hb⟩; refine ⟨_, rfl, ?_⟩; have t_ := fc3 (Kd.R_below (ra HO128.out) hb) (bw BK125 hb) (below_step bb hb); clear HO128 BK125 HB; obtain ⟨HO128, BK125, HB⟩ := t_; (try clear hb); (try clear hk); (try clear hi); obtain ⟨hcz10_0, hfz10_0⟩ := bx1 BK125.out))
  go_loopg [5, 16] k (fun kq v5 v16 w' => ∃ (x5_1 : List Int) (x16_1 : Int), v16 = .int .i64 x16_1 ∧ Aside0 (impl_ChildrenOf.l0 kq a1 x5_1 l0 (l0.length : Int) x16_1 l0 = some r) ∧ Aside0 (kq ≤ k) ∧ Aside0 (Kd.R (Kd.int .i64) 3 w' w.heap.size (fun _ => True) v5 x5_1) ∧ Aside0 (w'.heap[gb125]? = some (.cells #[(.slice A0 l0.length c0)] 29 (0, 0))) ∧ Aside0 (Below w.heap.size w w'))
  case atStart => exact ⟨(y126), (0), (by first | rfl | (simp; done) | (simp [*]; done)), H', ⟨Nat.le_refl _⟩, ⟨by (with_reducible repeat (first | apply Kd.R_alloc | apply Kd.R_drewN | apply Kd.R_drew)); exact HO128.out⟩, ⟨by exact bk⟩, ⟨bb⟩⟩
  case round =>
   clear H'
   try clear p2
   try clear c3
   try clear c4
   try clear c9
   try clear hcz10_0
   try clear hcz8_0
   try clear hfz10_0
   try clear hfz8_0
   obtain ⟨x5_1, x16_1, rfl, HA, HK1, HO_5, BK125, HB⟩ := hrel
   cases gk with
   | zero => exact absurd HA.out (by simp [impl_ChildrenOf.l0])
   | succ k1 =>
    have H := HA.out
    clear HA
    simp only [impl_ChildrenOf.l0] at H
    by_cases c11 : x16_1 < (l0.length : Int)
    ·rw [if_pos c11] at H
     have c11b0 : decide (x16_1 < (l0.length : Int)) = true := decide_eq_true c11
     clear c11
     by_cases c12 : 0 ≤ x16_1
     ·rw [if_pos c12] at H
      have c12b0 : decide (0 ≤ x16_1) = true := decide_eq_true c12
      clear c12
      by_cases c13 : x16_1 < (l0.length : Int)
      ·rw [if_pos c13] at H
       have c13b0 : decide (x16_1 < (l0.length : Int)) = true := decide_eq_true c13
       clear c13
       by_cases c14 : ((rd_T50 l0 x16_1).f0) = a1
       ·rw [if_pos c14] at H
        have c14b0 : (((rd_T50 l0 x16_1).f0) == a1) = true := beq_iff_eq.mpr c14
        have c14b1 : (((rd_T50 l0 x16_1).f0) != a1) = false := bne_eq_false_iff_eq.mpr c14
        clear c14
        by_cases c15 : x5_1.length < 17592186044416
        ·rw [if_pos c15] at H
         have LMc15 := Aside0.mk c15
         clear c15
         obtain ⟨y132, hy132⟩ : ∃ y_ : List Int, y_ = (x5_1 ++ [x16_1]) := ⟨_, rfl⟩
         replace H : (impl_ChildrenOf.l0 k1 a1 y132 l0 (l0.length : Int) (wrap64 (x16_1 + 1)) l0) = some r := by first | (rw [hy132]; with_reducible exact H) | (have H2_ := (Option.bind_some _ _).symm.trans H; rw [hy132]; with_reducible exact H2_) | (have H2_ := (Option.bind_some _ _).symm.trans H; with_reducible exact H2_) | with_reducible exact H | (rw [hy132]; exact H) | exact H
         have Ny132 := Aside0.mk hy132
         clear hy132
         have H' := Aside0.mk H
         clear H
         have p130 : 0 ≤ (x16_1 : Int) := of_decide_eq_true as_
         have q130 : x16_1 < (l0.length : Int) := of_decide_eq_true as_
         obtain ⟨ad130, e130, hx130_0, hx130_1, hx130_2⟩ := at_T50 HR0.out x16_1 p130 q130
         cases e130
         replace hx130_0 := pw_cell_below HB.out hx130_0
         replace hx130_1 := pw_cell_below HB.out hx130_1
         replace hx130_2 := pw_cell_below HB.out hx130_2
         replace p130 := eq_true p130
         replace q130 := eq_true q130
         go_wp2_with (first | ((with_reducible refine gate_dst (N := 7) rfl ?_); refine box_event ?hg (N := 7) ?hd (cs := #[.int .i64 0, .int .i64 0, .int .i64 0]) (t := 50) ?hr ?_; (case hd => rfl); (case hg => rfl); (case hr => first | (go_simp; done) | (go_simp; rfl)); intro gb131 hg w16 hbox hb; have t_ := fc8 (Kd.R_below (ra HO_5.out) hb) (bw BK125 hb) (below_step bb hb) (hbox) (bg hg : w.heap.size ≤ gb131) (bg hg : w.heap.size ≤ gb131) ((nl BK125 hg : gb125 ≠ gb131)) ((ng BK125 hg : gb131 ≠ gb125)); clear HO_5 BK125 HB; obtain ⟨HO_5, BK125, HB, BK131, GW131, GE131, NB125_131, NB131_125⟩ := t_; clear hb hbox hg; have hnb17 := NB131_125.out; have hnc17 := NB125_131.out; obtain ⟨hcz18_0, hcz18_1, hcz18_2, hfz18_0, hfz18_1, hfz18_2⟩ := bx3 BK131.out) | ((with_reducible refine gate_builtin (b := .append) (xs := #[.tmp 25, .tmp 27]) rfl ?_); at_builtin; refine Kd.R_append (Kd.int .i64) (w0 := w) w.heap.size rfl (.tmp 25) (.tmp 27) 23 3 (.int .i64 0) 8 rfl Try.underlying23 info3 rfl (by decide) (by omega) u5 x5_1 x16_1 [.int .i64 x16_1] (fun _ => True) (fun _ => False) rfl (by first | (go_simp; done) | (go_simp; rfl)) ?aP (fun _ hk => hk.elim) ?aF ?aO ?aB ?aS ?aL ?_; (case aP => exact rfl); (case aB => exact bb); (case aF => exact (fun _ _ => trivial)); (case aO => exact (ra (Kd.R_mono (Kd.R_far (p := ⟨gb131, 2, none⟩) (Kd.R_far (p := ⟨gb131, 1, none⟩) (Kd.R_far (p := ⟨gb131, 0, none⟩) (Kd.R_types HO_5.out BK131.out (by decide)) fk (.int .i64 ((rd_T50 l0 x16_1).f0))) fk (.int .i64 ((rd_T50 l0 x16_1).f1))) fk (.int .i64 ((rd_T50 l0 x16_1).f2))) (fun _ hk => trivial)))); (case aS => exact (below_size bb)); (case aL => have := LMc15.out; omega); intro v133 w19 ho hb hg hat; rw [← Ny132.out] at ho; have t_ := fc4 (blk_grown (g := gb125) (o := .cells #[.slice (some ad130) l0.length c0] 29 (0, 0)) (by (with_reducible repeat (first | refine blk_drewN ?_ _ | refine blk_drew ?_ | refine blk_alloc ?_ _)); refine blk_far ?_ NB125_131.out _; (with_reducible repeat (first | refine blk_drewN ?_ _ | refine blk_drew ?_ | refine blk_alloc ?_ _)); refine blk_far ?_ NB125_131.out _; (with_reducible repeat (first | refine blk_drewN ?_ _ | refine blk_drew ?_ | refine blk_alloc ?_ _)); refine blk_far ?_ NB125_131.out _; exact bk) hg (Kd.R_ne HO_5.out BK125.out (by decide))) (blk_grown (g := gb131) (o := .cells #[.int .i64 ((rd_T50 l0 x16_1).f0), .int .i64 ((rd_T50 l0 x16_1).f1), .int .i64 ((rd_T50 l0 x16_1).f2)] 50 (0, 0)) (by (with_reducible repeat (first | refine blk_drewN ?_ _ | refine blk_drew ?_ | refine blk_alloc ?_ _)); refine blk_put (cs := #[.int .i64 ((rd_T50 l0 x16_1).f0), .int .i64 ((rd_T50 l0 x16_1).f1), .int .i64 0]) ?_ 2 _ rfl; (with_reducible repeat (first | refine blk_drewN ?_ _ | refine blk_drew ?_ | refine blk_alloc ?_ _)); refine blk_put (cs := #[.int .i64 ((rd_T50 l0 x16_1).f0), .int .i64 0, .int .i64 0]) ?_ 1 _ rfl; (with_reducible repeat (first | refine blk_drewN ?_ _ | refine blk_drew ?_ | refine blk_alloc ?_ _)); refine blk_put (cs := #[.int .i64 0, .int .i64 0, .int .i64 0]) ?_ 0 _ rfl; exact bk) hg (Kd.R_ne HO_5.out BK131.out (by decide))) (hb) (ho); clear BK125 BK131 HB HO_5; obtain ⟨BK125, BK131, HB, HO134⟩ := t_; clear ho hb hg hat))
         go_roundg k1
         case measure => have := HK1.out; omega
         case rel => exact ⟨(y132), (wrap64 (x16_1 + 1)), (by first | rfl | (simp; done) | (simp [*]; done)), H', ⟨by have := HK1.out; omega⟩, ⟨by (with_reducible repeat (first | apply Kd.R_alloc | apply Kd.R_drewN | apply Kd.R_drew)); exact HO134.out⟩, ⟨by exact bk⟩, ⟨bb⟩⟩
        ·rw [if_neg c15] at H
         exact absurd H (by simp)
       ·rw [if_neg c14] at H
        have c14b0 : (((rd_T50 l0 x16_1).f0) == a1) = false := beq_eq_false_iff_ne.mpr c14
        have c14b1 : (((rd_T50 l0 x16_1).f0) != a1) = true := bne_iff_ne.mpr c14
        have H' := Aside0.mk H
        clear H
        have p130 : 0 ≤ (x16_1 : Int) := of_decide_eq_true as_
        have q130 : x16_1 < (l0.length : Int) := of_decide_eq_true as_
        obtain ⟨ad130, e130, hx130_0, hx130_1, hx130_2⟩ := at_T50 HR0.out x16_1 p130 q130
        cases e130
        replace hx130_0 := pw_cell_below HB.out hx130_0
        replace hx130_1 := pw_cell_below HB.out hx130_1
        replace hx130_2 := pw_cell_below HB.out hx130_2
        replace p130 := eq_true p130
        replace q130 := eq_true q130
        go_wp2_with (first | ((with_reducible refine gate_dst (N := 7) rfl ?_); refine box_event ?hg (N := 7) ?hd (cs := #[.int .i64 0, .int .i64 0, .int .i64 0]) (t := 50) ?hr ?_; (case hd => rfl); (case hg => rfl); (case hr => first | (go_simp; done) | (go_simp; rfl)); intro gb131 hg w20 hbox hb; have t_ := fc8 (Kd.R_below (ra HO_5.out) hb) (bw BK125 hb) (below_step bb hb) (hbox) (bg hg : w.heap.size ≤ gb131) (bg hg : w.heap.size ≤ gb131) ((nl BK125 hg : gb125 ≠ gb131)) ((ng BK125 hg : gb131 ≠ gb125)); clear HO_5 BK125 HB; obtain ⟨HO_5, BK125, HB, BK131, GW131, GE131, NB125_131, NB131_125⟩ := t_; clear hb hbox hg; have hnb21 := NB131_125.out; have hnc21 := NB125_131.out; obtain ⟨hcz22_0, hcz22_1, hcz22_2, hfz22_0, hfz22_1, hfz22_2⟩ := bx3 BK131.out))
        go_roundg k1
        case measure => have := HK1.out; omega
        case rel => exact ⟨(x5_1), (wrap64 (x16_1 + 1)), (by first | rfl | (simp; done) | (simp [*]; done)), H', ⟨by have := HK1.out; omega⟩, ⟨by (with_reducible repeat (first | apply Kd.R_alloc | apply Kd.R_drewN | apply Kd.R_drew)); exact Kd.R_mono (Kd.R_far (p := ⟨gb131, 2, none⟩) (Kd.R_far (p := ⟨gb131, 1, none⟩) (Kd.R_far (p := ⟨gb131, 0, none⟩) (Kd.R_types HO_5.out BK131.out (by decide)) fk (.int .i64 ((rd_T50 l0 x16_1).f0))) fk (.int .i64 ((rd_T50 l0 x16_1).f1))) fk (.int .i64 ((rd_T50 l0 x16_1).f2))) (fun _ hk => trivial)⟩, ⟨by (with_reducible repeat (first | refine blk_drewN ?_ _ | refine blk_drew ?_ | refine blk_alloc ?_ _)); refine blk_far ?_ NB125_131.out _; (with_reducible repeat (first | refine blk_drewN ?_ _ | refine blk_drew ?_ | refine blk_alloc ?_ _)); refine blk_far ?_ NB125_131.out _; (with_reducible repeat (first | refine blk_drewN ?_ _ | refine blk_drew ?_ | refine blk_alloc ?_ _)); refine blk_far ?_ NB125_131.out _; exact bk⟩, ⟨bb⟩⟩
      ·rw [if_neg c13] at H
       exact absurd H (by simp)
     ·rw [if_neg c12] at H
      exact absurd H (by simp)
    ·rw [if_neg c11] at H
     have c11b0 : decide (x16_1 < (l0.length : Int)) = false := decide_eq_false c11
     clear c11
     replace H := Option.bind_eq_some_iff.mp H
     obtain ⟨t135, A230, H⟩ := H
     replace H : (some t135) = some r := H
     have A23 := Aside0.mk A230
     clear A230
     obtain rfl := Option.some.inj H
     obtain ⟨Ao24, co24, eo24⟩ := Kd.R_slice HO_5.out
     subst eo24
     go_wp2_with (first | ((with_reducible refine gate_callee (f := 91) rfl ?_); refine goesL_ (some 32) rfl rfl Try.func91 (by kernel_rfl) rfl #[.slice Ao24 x5_1.length co24, .func (.func 92) #[] #[.pointer (some ⟨gb125, 0, none⟩)]] rfl ms ?_; (with_reducible refine (slices_SortFunc_int_int_impl_ChildrenOf_1.calls (fun k_ => some k_ = (.slice Ao24 x5_1.length co24 : Value).ownBlock) (.slice Ao24 x5_1.length co24) x5_1 gb125 A0 c0 l0 t135 w _ ?side1 ?side2 ?side3 ?side4 ?side5 ?side6 A23.out).mono ?_); (case side1 => exact bb); (case side2 => exact Kd.R_tight rfl HO_5.out); (case side3 => exact Kd.C_kept_came k50_heap HR0.out bb (fun k_ hs_ => (fun e_ => Kd.R_base HO_5.out k_ e_.symm) hs_)); (case side4 => exact HC0.out); (case side5 => exact bk); (case side6 => exact fun hs_ => (fun e_ => (Kd.R_ne HO_5.out BK125.out (by decide)) e_) hs_); rintro e w25 ⟨rfl, hy0, hb, hkp⟩; refine ⟨_, rfl, ?_⟩; have t_ := fc3 (Kd.R_reok rfl hy0 (fun k_ e_ => HO_5.out.1 k_ e_)) (blk_kept bk hkp (fun hs_ => (fun e_ => (Kd.R_ne HO_5.out BK125.out (by decide)) e_) hs_)) (hb); clear HO_5 BK125 HB; obtain ⟨HO_5, BK125, HB⟩ := t_; (try clear hb); (try clear hkp); (try clear hy0)))
     go_ret
     exact ⟨_, er, by (with_reducible repeat (first | apply Kd.R_alloc | apply Kd.R_drewN | apply Kd.R_drew)); exact HO_5.out, bb⟩
 ·replace c4 := Bool.eq_false_iff.mpr c4
  subst c4
  have H1 : (some y126) = some r := by rw [if_neg (show ¬ (false = true) by decide)] at H; exact H
  clear H
  have H := H1
  clear H1
  obtain rfl := Option.some.inj H
  go_enter Try.func39, Try.ntmps39
  go_wp2_with (first | ((with_reducible refine gate_dst (N := 2) rfl ?_); refine box_event ?hg (N := 2) ?hd (cs := #[.slice A0 l0.length c0]) (t := 29) ?hr ?_; (case hd => rfl); (case hg => rfl); (case hr => first | (go_simp; done) | (go_simp; rfl)); intro gb125 hg w26 hbox hb; have t_ := fc4 (below_step bb hb) (hbox) (bg hg : w.heap.size ≤ gb125) (bg hg : w.heap.size ≤ gb125); clear HB; obtain ⟨HB, BK125, GW125, GE125⟩ := t_; clear hb hbox hg) | ((with_reducible refine gate_dst (N := 8) rfl ?_); refine Kd.R_lit (Kd.int .i64) _ 3 ?hg (N := 8) ?hd (xs := ([] : List Int)) (inner := []) (ok := fun _ => True) (okp := fun _ => True) ?hr ?hp (fun _ hk => hk) trivial (Below.refl _ _) (Nat.le_refl _) (by simp) ?_; (case hd => rfl); (case hg => rfl); (case hr => first | (go_simp; done) | (go_simp; rfl)); (case hp => exact (Reps.none _ _)); intro v127 w27 ho28 hb hg_ hnew_; clear hg_ hnew_; (first | rw [← Ny126.out] at ho28 | (simp only [Int.reduceToNat] at ho28; rw [← Ny126.out] at ho28)); have t_ := fc3 (Kd.R_lower ho28 (below_size bb)) (bw BK125 hb) (below_step bb hb); clear BK125 HB; obtain ⟨HO128, BK125, HB⟩ := t_; clear hb ho28; obtain ⟨hcz29_0, hfz29_0⟩ := bx1 BK125.out) | ((with_reducible refine gate_callee (f := 90) rfl ?_); refine goesL_ (some 11) rfl rfl Try.func90 (by kernel_rfl) rfl #[.slice A0 l0.length c0, .int .i64 a1] rfl ms ?_; (with_reducible refine (impl_isNode.calls k _ _ l0 a1 false _ ?side1 ?side2 A3.out).mono ?_); (case side1 => exact kc); (case side2 => exact HC0.out); rintro e w30 ⟨rfl, hb⟩; refine ⟨_, rfl, ?_⟩; have t_ := fc3 (Kd.R_below (ra HO128.out) hb) (bw BK125 hb) (below_step bb hb); clear HO128 BK125 HB; obtain ⟨HO128, BK125, HB⟩ := t_; (try clear hb); (try clear hk); (try clear hi)))
  go_ret
  exact ⟨_, er, by (with_reducible repeat (first | apply Kd.R_alloc | apply Kd.R_drewN | apply Kd.R_drew)); exact HO128.out, bb⟩

/-! ### impl_IsId: function 47 -/
def impl_IsId.f (a0 : Int) : Option (Bool) := (impl_within.f a0 0 255).bind fun t136 => (some t136)
set_option maxHeartbeats 8000000 in
set_option maxRecDepth 100000 in
theorem impl_IsId.calls (a0 : Int) (r : Bool) (w : World) (h : impl_IsId.f a0 = some r) :
  Calls Try.prog 47 #[.int .i64 a0] w fun e w' => e = .returned (.bool r) ∧ Drawn0 w w' := by
 have H : ((impl_within.f a0 0 255).bind fun t136 => (some t136)) = some r := h
 clear h
 replace H := Option.bind_eq_some_iff.mp H
 obtain ⟨t136, A20, H⟩ := H
 replace H : (some t136) = some r := H
 have A2 := Aside0.mk A20
 clear A20
 obtain rfl := Option.some.inj H
 go_enter Try.func47, Try.ntmps47
 go_wp2_with (first | ((with_reducible refine gate_callee (f := 94) rfl ?_); refine goesL_ (some 4) rfl rfl Try.func94 (by kernel_rfl) rfl #[.int .i64 a0, .int .i64 0, .int .i64 255] rfl ms ?_; (with_reducible refine (impl_within.calls a0 0 255 t136 _ A2.out).mono ?_); rintro e w' ⟨rfl, ⟨nd, rfl⟩⟩; refine ⟨_, rfl, ?_⟩))
 go_ret
 exact ⟨by first | rfl | (simp; done) | (simp [*]; done), by repeat (first | exact Drawn0.refl _ | apply Drawn0.step)⟩

/-! ### slices_Repeat_int_int: function 98 -/
def slices_Repeat_int_int.f (l0 : List Int) (a1 : Int) : Option (List Int) := if l0.length = 1 ∧ 0 ≤ a1 ∧ a1 ≤ 12 then some (List.replicate a1.toNat (rd l0 0)) else none
theorem slices_Repeat_int_int.calls (A0 : Option Addr) (c0 : Nat) (l0 : List Int) (a1 : Int) (r : List Int) (w : World) (hr0 : Kd.C (Kd.int .i64) w A0 l0.length l0) (hc0 : l0.length ≤ c0) (h : slices_Repeat_int_int.f l0 a1 = some r) :
  Calls Try.prog 98 #[.slice A0 l0.length c0, .int .i64 a1] w fun e w' => ∃ v0_ : Value, e = .returned (v0_) ∧ Kd.R (Kd.int .i64) 3 w' w.heap.size (fun _ => True) v0_ r ∧ Below w.heap.size w w' := by
 unfold slices_Repeat_int_int.f at h
 split at h
 next hs =>
  injection h with h
  subst h
  exact Fns.repeat_int A0 c0 l0 a1 w hr0 hc0 hs.1 hs.2.1 hs.2.2
 next => cases h

/-! ### slices_Clone_int_int: function 99 -/
def slices_Clone_int_int.f (l0 : List Int) : Option (List Int) := if l0.length ≤ 17592186044416 then some l0 else none
theorem slices_Clone_int_int.calls (A0 : Option Addr) (c0 : Nat) (l0 : List Int) (r : List Int) (w : World) (hr0 : Kd.C (Kd.int .i64) w A0 l0.length l0) (hc0 : l0.length ≤ c0) (h : slices_Clone_int_int.f l0 = some r) :
  Calls Try.prog 99 #[.slice A0 l0.length c0] w fun e w' => ∃ v0_ : Value, e = .returned (v0_) ∧ Kd.R (Kd.int .i64) 3 w' w.heap.size (fun _ => True) v0_ r ∧ Below w.heap.size w w' := by
 unfold slices_Clone_int_int.f at h
 split at h
 ·injection h with h
  subst h
  exact Fns.clone_int A0 c0 l0 w hr0 hc0 (by assumption)
 ·cases h

/-! ### impl_isBridge: function 81 -/
def impl_isBridge.f (l0 : List (S50)) (a1 : Int) : Option (Bool) := if 0 ≤ a1 then (if a1 < (l0.length : Int) then (some (((rd_T50 l0 a1).f2) == 0)) else (none)) else (none)
set_option maxHeartbeats 8000000 in
set_option maxRecDepth 100000 in
theorem impl_isBridge.calls (A0 : Option Addr) (c0 : Nat) (l0 : List (S50)) (a1 : Int) (r : Bool) (w : World) (hr0 : Kd.C k50 w A0 l0.length l0) (hc0 : l0.length ≤ c0) (h : impl_isBridge.f l0 a1 = some r) :
  Calls Try.prog 81 #[.slice A0 l0.length c0, .int .i64 a1] w fun e w' => e = .returned (.bool r) ∧ Drawn0 w w' := by
 have HR0 := Aside0.mk hr0
 have HC0 := Aside0.mk hc0
 clear hr0 hc0
 have H : (if 0 ≤ a1 then (if a1 < (l0.length : Int) then (some (((rd_T50 l0 a1).f2) == 0)) else (none)) else (none)) = some r := h
 clear h
 by_cases c3 : 0 ≤ a1
 ·rw [if_pos c3] at H
  have c3b0 : decide (0 ≤ a1) = true := decide_eq_true c3
  clear c3
  by_cases c4 : a1 < (l0.length : Int)
  ·rw [if_pos c4] at H
   have c4b0 : decide (a1 < (l0.length : Int)) = true := decide_eq_true c4
   clear c4
   obtain rfl := Option.some.inj H
   have p137 : 0 ≤ (a1 : Int) := of_decide_eq_true as_
   have q137 : a1 < (l0.length : Int) := of_decide_eq_true as_
   obtain ⟨ad137, e137, hx137_0, hx137_1, hx137_2⟩ := at_T50 HR0.out a1 p137 q137
   cases e137
   replace p137 := eq_true p137
   replace q137 := eq_true q137
   go_enter Try.func81, Try.ntmps81
   go_wp2
   go_ret
   exact ⟨by first | rfl | (simp; done) | (simp [*]; done), by repeat (first | exact Drawn0.refl _ | apply Drawn0.step)⟩
  ·rw [if_neg c4] at H
   exact absurd H (by simp)
 ·rw [if_neg c3] at H
  exact absurd H (by simp)

/-! ### impl_numberer_visit: function 100 -/
mutual
def impl_numberer_visit.l0 : Nat → Int → Int → Int → List Int → Int → Int → List (S50) → List Int → List Int → List Int → Int → Option (Int × Int × List Int × List Int × List Int)
 | 0, _, _, _, _, _, _, _, _, _, _, _ => none
 | k + 1, x1, x2, x7, x24, x25, x26, x1000, x1001, x1002, x1003, x1004 => if x26 < x25 then (if 0 ≤ x26 then (if x26 < (x24.length : Int) then (if 0 ≤ (rd x24 x26) then (if (rd x24 x26) < (x1001.length : Int) then ((some (x1001.set ((rd x24 x26) : Int).toNat x2 : List Int)).bind fun y144 => ((impl_isBridge.f x1000 (rd x24 x26)).bind fun t145 => (if t145 = true then ((impl_numberer_visit.f k x1000 y144 x1002 x1003 (wrap64 (x1004 + 1)) (rd x24 x26) (wrap64 (x1004 + 1))).bind fun bt146 => (impl_numberer_visit.l0 k x1 x2 (mx x7 bt146.1) x24 x25 (wrap64 (x26 + 1)) x1000 bt146.2.2.1 bt146.2.2.2.1 bt146.2.2.2.2 bt146.2.1)) else (impl_numberer_visit.l0 k x1 x2 x7 x24 x25 (wrap64 (x26 + 1)) x1000 y144 x1002 x1003 x1004)))) else (none)) else (none)) else (none)) else (none)) else (if 0 ≤ x1 then (if x1 < (x1003.length : Int) then (some (x7, x1004, x1001, x1002, (x1003.set (x1 : Int).toNat x7))) else (none)) else (none))
def impl_numberer_visit.f : Nat → List (S50) → List Int → List Int → List Int → Int → Int → Int → Option (Int × Int × List Int × List Int × List Int)
 | 0, _, _, _, _, _, _, _ => none
 | k + 1, l0_0, l0_1, l0_2, l0_3, a0_4, a1, a2 => if 0 ≤ a1 then (if a1 < (l0_2.length : Int) then ((impl_ChildrenOf.f k l0_0 a1).bind fun t139 => (impl_numberer_visit.l0 k a1 a2 a2 t139 (t139.length : Int) 0 l0_0 l0_1 (l0_2.set (a1 : Int).toNat a2) l0_3 a0_4)) else (none)) else (none)
end
set_option maxHeartbeats 8000000 in
set_option maxRecDepth 100000 in
theorem impl_numberer_visit.calls (k : Nat) : ∀ (gc0 : Nat) (A0_0 : Option Addr) (c0_0 : Nat) (l0_0 : List (S50)) (P0_1_ : Nat → Prop) (u9000_ : Value) (l0_1 : List Int) (P0_2_ : Nat → Prop) (u9001_ : Value) (l0_2 : List Int) (P0_3_ : Nat → Prop) (u9002_ : Value) (l0_3 : List Int) (a0_4 : Int) (a1 : Int) (a2 : Int) (r1 : Int) (r2 : Int) (r3 : List Int) (r4 : List Int) (r5 : List Int) (w0 w : World) (hB : Below w0.heap.size w0 w) (hr0_0 : ∀ W_, Kept w W_ (fun k_ => (P0_1_ k_ ∨ P0_2_ k_ ∨ P0_3_ k_) ∨ k_ = gc0) → Kd.C k50 W_ A0_0 l0_0.length l0_0) (hc0_0 : l0_0.length ≤ c0_0) (ho0_1 : Kd.R (Kd.int .i64) 3 w w0.heap.size P0_1_ u9000_ l0_1) (hp0_1_0_2 : ∀ k_, P0_1_ k_ → ¬ P0_2_ k_) (hp0_1_0_3 : ∀ k_, P0_1_ k_ → ¬ P0_3_ k_) (ho0_2 : Kd.R (Kd.int .i64) 3 w w0.heap.size P0_2_ u9001_ l0_2) (hp0_2_0_1 : ∀ k_, P0_2_ k_ → ¬ P0_1_ k_) (hp0_2_0_3 : ∀ k_, P0_2_ k_ → ¬ P0_3_ k_) (ho0_3 : Kd.R (Kd.int .i64) 3 w w0.heap.size P0_3_ u9002_ l0_3) (hp0_3_0_1 : ∀ k_, P0_3_ k_ → ¬ P0_1_ k_) (hp0_3_0_2 : ∀ k_, P0_3_ k_ → ¬ P0_2_ k_) (hbx0 : w.heap[gc0]? = some (.cells #[.slice A0_0 l0_0.length c0_0, u9000_, u9001_, u9002_, .int .i64 a0_4] 99 (0, 0))) (hgx0 : w0.heap.size ≤ gc0) (h : impl_numberer_visit.f k l0_0 l0_1 l0_2 l0_3 a0_4 a1 a2 = some (r1, r2, r3, r4, r5)),
  Calls Try.prog 100 #[.pointer (some ⟨gc0, 0, none⟩), .int .i64 a1, .int .i64 a2] w fun e w' => e = .returned (.int .i64 r1) ∧ w'.heap[gc0]? = some (.cells #[.slice A0_0 l0_0.length c0_0, u9000_, u9001_, u9002_, .int .i64 r2] 99 (0, 0)) ∧ Kd.R (Kd.int .i64) 3 w' w0.heap.size (fun k_ => ((P0_1_ k_ ∨ P0_2_ k_ ∨ P0_3_ k_) ∨ w.heap.size ≤ k_)) u9000_ r3 ∧ Kd.R (Kd.int .i64) 3 w' w0.heap.size (fun k_ => ((P0_1_ k_ ∨ P0_2_ k_ ∨ P0_3_ k_) ∨ w.heap.size ≤ k_)) u9001_ r4 ∧ Kd.R (Kd.int .i64) 3 w' w0.heap.size (fun k_ => ((P0_1_ k_ ∨ P0_2_ k_ ∨ P0_3_ k_) ∨ w.heap.size ≤ k_)) u9002_ r5 ∧ Below w0.heap.size w0 w' ∧ Kept w w' (fun k_ => (P0_1_ k_ ∨ P0_2_ k_ ∨ P0_3_ k_) ∨ k_ = gc0) := by
 induction k using Nat.strongRecOn with
 | _ k ih =>
 intro gc0 A0_0 c0_0 l0_0 P0_1_ u9000_ l0_1 P0_2_ u9001_ l0_2 P0_3_ u9002_ l0_3 a0_4 a1 a2 r1 r2 r3 r4 r5 w0 w hB hr0_0 hc0_0 ho0_1 hp0_1_0_2 hp0_1_0_3 ho0_2 hp0_2_0_1 hp0_2_0_3 ho0_3 hp0_3_0_1 hp0_3_0_2 hbx0 hgx0 h
 cases k with
 | zero => exact absurd h (by simp [impl_numberer_visit.f])
 | succ k =>
 simp only [impl_numberer_visit.f] at h
 have HR0_0 := Aside0.mk hr0_0
 have HC0_0 := Aside0.mk hc0_0
 clear hr0_0 hc0_0
 have HO0_1 := Aside0.mk (show Kd.R (Kd.int .i64) 3 w w0.heap.size (fun k_ => ((P0_1_ k_ ∨ P0_2_ k_ ∨ P0_3_ k_) ∨ w.heap.size ≤ k_) ∧ some k_ ≠ (u9001_ : Value).ownBlock ∧ some k_ ≠ (u9002_ : Value).ownBlock) u9000_ l0_1 from Kd.R_mono ho0_1 (fun k_ hk => ⟨(.inl (.inl hk)), fun e_ => hp0_1_0_2 k_ hk (ho0_2.1 k_ e_.symm), fun e_ => hp0_1_0_3 k_ hk (ho0_3.1 k_ e_.symm)⟩))
 have HO0_2 := Aside0.mk (show Kd.R (Kd.int .i64) 3 w w0.heap.size (fun k_ => ((P0_1_ k_ ∨ P0_2_ k_ ∨ P0_3_ k_) ∨ w.heap.size ≤ k_) ∧ some k_ ≠ (u9000_ : Value).ownBlock ∧ some k_ ≠ (u9002_ : Value).ownBlock) u9001_ l0_2 from Kd.R_mono ho0_2 (fun k_ hk => ⟨(.inl (.inr (.inl hk))), fun e_ => hp0_2_0_1 k_ hk (ho0_1.1 k_ e_.symm), fun e_ => hp0_2_0_3 k_ hk (ho0_3.1 k_ e_.symm)⟩))
 have HO0_3 := Aside0.mk (show Kd.R (Kd.int .i64) 3 w w0.heap.size (fun k_ => ((P0_1_ k_ ∨ P0_2_ k_ ∨ P0_3_ k_) ∨ w.heap.size ≤ k_) ∧ some k_ ≠ (u9000_ : Value).ownBlock ∧ some k_ ≠ (u9001_ : Value).ownBlock) u9002_ l0_3 from Kd.R_mono ho0_3 (fun k_ hk => ⟨(.inl (.inr (.inr hk))), fun e_ => hp0_3_0_1 k_ hk (ho0_1.1 k_ e_.symm), fun e_ => hp0_3_0_2 k_ hk (ho0_2.1 k_ e_.symm)⟩))
 have BK0 := Aside0.mk hbx0
 clear hbx0
 have GE0 := Aside0.mk hgx0
 clear hgx0
 have HK := Aside0.mk (Kept.refl w (fun k_ => (P0_1_ k_ ∨ P0_2_ k_ ∨ P0_3_ k_) ∨ k_ = gc0))
 have HW0 := Aside0.mk hB.size
 have HB := Aside0.mk hB
 clear hB
 have H : (if 0 ≤ a1 then (if a1 < (l0_2.length : Int) then ((impl_ChildrenOf.f k l0_0 a1).bind fun t139 => (impl_numberer_visit.l0 k a1 a2 a2 t139 (t139.length : Int) 0 l0_0 l0_1 (l0_2.set (a1 : Int).toNat a2) l0_3 a0_4)) else (none)) else (none)) = some (r1, r2, r3, r4, r5) := h
 clear h
 by_cases c4 : 0 ≤ a1
 ·rw [if_pos c4] at H
  have c4b0 : decide (0 ≤ a1) = true := decide_eq_true c4
  clear c4
  by_cases c5 : a1 < (l0_2.length : Int)
  ·rw [if_pos c5] at H
   have c5b0 : decide (a1 < (l0_2.length : Int)) = true := decide_eq_true c5
   clear c5
   obtain ⟨y138, hy138⟩ : ∃ y_ : List Int, y_ = (l0_2.set (a1 : Int).toNat a2) := ⟨_, rfl⟩
   replace H : ((impl_ChildrenOf.f k l0_0 a1).bind fun t139 => (impl_numberer_visit.l0 k a1 a2 a2 t139 (t139.length : Int) 0 l0_0 l0_1 y138 l0_3 a0_4)) = some (r1, r2, r3, r4, r5) := by first | (rw [hy138]; with_reducible exact H) | (have H2_ := (Option.bind_some _ _).symm.trans H; rw [hy138]; with_reducible exact H2_) | (have H2_ := (Option.bind_some _ _).symm.trans H; with_reducible exact H2_) | with_reducible exact H | (rw [hy138]; exact H) | exact H
   have Ny138 := Aside0.mk hy138
   clear hy138
   replace H := Option.bind_eq_some_iff.mp H
   obtain ⟨t139, A70, H⟩ := H
   replace H : (impl_numberer_visit.l0 k a1 a2 a2 t139 (t139.length : Int) 0 l0_0 l0_1 y138 l0_3 a0_4) = some (r1, r2, r3, r4, r5) := H
   have A7 := Aside0.mk A70
   clear A70
   have H' := Aside0.mk H
   clear H
   obtain ⟨hcz8_0, hcz8_1, hcz8_2, hcz8_3, hcz8_4, hfz8_0, hfz8_1, hfz8_2, hfz8_3, hfz8_4⟩ := bx5 BK0.out
   have p6 : 0 ≤ (a1 : Int) := of_decide_eq_true as_
   have q6 : (a1 : Int) < ((l0_2.length : Int) : Int) := of_decide_eq_true as_
   obtain ⟨go6, co6, eo6, gb6, gl6, cl6, HG6⟩ := Kd.R_form HO0_2.out (by omega)
   (first | cases eo6 | (injection eo6 with ea_ en_ ec_; (first | subst ea_ | (injection ea_ with ea_; subst ea_)); subst ec_; clear en_))
   have GB6 := Aside0.mk gb6
   have GG6 := Aside0.mk HG6
   clear gb6 gl6 HG6
   have HMgo6 := Aside0.mk (show ((P0_1_ go6 ∨ P0_2_ go6 ∨ P0_3_ go6) ∨ w.heap.size ≤ go6) from (HO0_2.out.1 _ rfl).1)
   obtain ⟨hx6_0, hf6_0⟩ := Kd.R_celln 0 HO0_2.out (a1 : Int) p6 q6
   replace p6 := eq_true p6
   replace q6 := eq_true q6
   have HP9 := Kd.R_putg HO0_2.out (a1 : Int) a2
   go_enter Try.func100, Try.ntmps100
   go_wp2_with (first | ((with_reducible refine gate_store (t := 3) (p := 17) rfl ?_); refine store_event (t := 3) (p := 17) (v := ?vo_w10) (w1 := (w.setCell ⟨go6, (a1 : Int).toNat, none⟩ (.int .i64 a2))) ?hg ?ho ?hn ?hr ?_; (case ho => rfl); (case hg => rfl); (case hn => rfl); (case hr => first | (go_simp; done) | (go_simp; rfl)); intro w10 hw; have hg : w.grownBy w10 (some go6) := (by rw [hw]; exact HP9.2); have hp_ : Kd.R (Kd.int .i64) 3 w10 w0.heap.size (fun k_ => ((P0_1_ k_ ∨ P0_2_ k_ ∨ P0_3_ k_) ∨ w.heap.size ≤ k_) ∧ some k_ ≠ (u9000_ : Value).ownBlock ∧ some k_ ≠ (u9002_ : Value).ownBlock) (.slice (some ⟨go6, 0, none⟩) l0_2.length co6) y138 := (by rw [hw, Ny138.out]; exact HP9.1); clear HP9; have t_ := fc6 (blk_grown (g := gc0) (o := .cells #[.slice A0_0 l0_0.length c0_0, u9000_, .slice (some ⟨go6, 0, none⟩) l0_2.length co6, u9002_, .int .i64 a0_4] 99 (0, 0)) bk hg (Kd.R_ne HO0_2.out BK0.out (by decide))) (Kd.R_after (v := (.slice (some ⟨go6, 0, none⟩) l0_2.length co6)) (v1 := (.slice (some ⟨go6, 0, none⟩) l0_2.length co6)) (ok := (fun k_ => ((P0_1_ k_ ∨ P0_2_ k_ ∨ P0_3_ k_) ∨ w.heap.size ≤ k_) ∧ some k_ ≠ (u9002_ : Value).ownBlock)) (ra (Kd.R_mono HO0_1.out (fun _ hk => (And.intro ((And.intro (hk.1) (hk.2.2))) (hk.2.1))))) hg (.inl rfl)) (hp_) (Kd.R_after (v := (.slice (some ⟨go6, 0, none⟩) l0_2.length co6)) (v1 := (.slice (some ⟨go6, 0, none⟩) l0_2.length co6)) (ok := (fun k_ => ((P0_1_ k_ ∨ P0_2_ k_ ∨ P0_3_ k_) ∨ w.heap.size ≤ k_) ∧ some k_ ≠ (u9000_ : Value).ownBlock)) (ra (Kd.R_mono HO0_3.out (fun _ hk => (And.intro ((And.intro (hk.1) (hk.2.1))) (hk.2.2))))) hg (.inl rfl)) ((by rw [hw]; exact below_set (HB.out) GB6.out : Below w0.heap.size w0 w10)) (Kept.of_grown (S := (fun k_ => (P0_1_ k_ ∨ P0_2_ k_ ∨ P0_3_ k_) ∨ k_ = gc0)) hg (by repeat (first | (with_reducible first | exact HK.out | apply Kept.alloc | apply Kept.drewN | apply Kept.drew | refine Kept.setCell ?_ (.inl (.inr rfl)) _) | exact HK.out)) (fun k_ e_ => Or.imp_left Or.inl ((HO0_2.out.1 k_ e_).1))); clear BK0 HO0_1 HO0_2 HO0_3 HB HK; obtain ⟨BK0, HO0_1, HO0_2, HO0_3, HB, HK⟩ := t_; clear hg hw hp_; obtain ⟨hcz11_0, hcz11_1, hcz11_2, hcz11_3, hcz11_4, hfz11_0, hfz11_1, hfz11_2, hfz11_3, hfz11_4⟩ := bx5 BK0.out) | ((with_reducible refine gate_callee (f := 39) rfl ?_); refine goesL_ (some 24) rfl rfl Try.func39 (by kernel_rfl) rfl #[.slice A0_0 l0_0.length c0_0, .int .i64 a1] rfl ms ?_; (with_reducible refine (impl_ChildrenOf.calls k _ _ l0_0 a1 t139 _ ?side1 ?side2 A7.out).mono ?_); (case side1 => exact Kd.C_kept_now HR0_0.out (by repeat (first | (with_reducible first | exact HK.out | apply Kept.alloc | apply Kept.drewN | apply Kept.drew | refine Kept.setCell ?_ (.inl (.inr rfl)) _) | exact HK.out))); (case side2 => exact HC0_0.out); rintro e w12 ⟨v140, rfl, ho0, hb⟩; refine ⟨_, rfl, ?_⟩; have t_ := fc7 (Kd.R_elder' (ra HO0_1.out) (Kd.R_base ho0) hb) (Kd.R_elder' (ra HO0_2.out) (Kd.R_base ho0) hb) (Kd.R_elder' (ra HO0_3.out) (Kd.R_base ho0) hb) (Kd.R_lower (Kd.R_new' (Kd.R_new' (Kd.R_new' (Kd.R_newM (M := fun k_ => ((P0_1_ k_ ∨ P0_2_ k_ ∨ P0_3_ k_) ∨ w.heap.size ≤ k_)) ho0 (by first | exact HK.out.1 | exact (show Kept w _ (fun k_ => (P0_1_ k_ ∨ P0_2_ k_ ∨ P0_3_ k_) ∨ k_ = gc0) from by repeat (first | (with_reducible first | exact HK.out | apply Kept.alloc | apply Kept.drewN | apply Kept.drew | refine Kept.setCell ?_ (.inl (.inr rfl)) _) | exact HK.out)).1) (fun k_ h_ => .inr h_)) (Kd.R_lt (ra HO0_1.out))) (Kd.R_lt (ra HO0_2.out))) (Kd.R_lt (ra HO0_3.out))) (below_size bb)) (bw BK0 hb) (Kept.below (S := (fun k_ => (P0_1_ k_ ∨ P0_2_ k_ ∨ P0_3_ k_) ∨ k_ = gc0)) (by repeat (first | (with_reducible first | exact HK.out | apply Kept.alloc | apply Kept.drewN | apply Kept.drew | refine Kept.setCell ?_ (.inl (.inr rfl)) _) | exact HK.out)) hb) (below_step bb hb); clear HO0_1 HO0_2 HO0_3 BK0 HK HB; obtain ⟨HO0_1, HO0_2, HO0_3, HO141, BK0, HK, HB⟩ := t_; (try clear hb); (try clear hk); (try clear hi); (try clear ho0); obtain ⟨Ao13, co13, eo13⟩ := Kd.R_slice HO141.out; subst eo13))
   go_loopg [7, 26] k (fun kq v7 v26 w' => ∃ (x7_1 : Int) (x24_1 : List Int) (x26_1 : Int) (x1001_1 : List Int) (x1002_1 : List Int) (x1003_1 : List Int) (x1004_1 : Int), v7 = .int .i64 x7_1 ∧ v26 = .int .i64 x26_1 ∧ Aside0 (impl_numberer_visit.l0 kq a1 a2 x7_1 x24_1 (t139.length : Int) x26_1 l0_0 x1001_1 x1002_1 x1003_1 x1004_1 = some (r1, r2, r3, r4, r5)) ∧ Aside0 (kq ≤ k) ∧ Aside0 (Kd.R (Kd.int .i64) 3 w' w0.heap.size (fun k_ => ((P0_1_ k_ ∨ P0_2_ k_ ∨ P0_3_ k_) ∨ w.heap.size ≤ k_) ∧ some k_ ≠ (u9000_ : Value).ownBlock ∧ some k_ ≠ ((.slice (some ⟨go6, 0, none⟩) l0_2.length co6) : Value).ownBlock ∧ some k_ ≠ (u9002_ : Value).ownBlock) (.slice Ao13 t139.length co13) x24_1) ∧ Aside0 (Kd.R (Kd.int .i64) 3 w' w0.heap.size (fun k_ => ((P0_1_ k_ ∨ P0_2_ k_ ∨ P0_3_ k_) ∨ w.heap.size ≤ k_) ∧ some k_ ≠ ((.slice Ao13 t139.length co13) : Value).ownBlock ∧ some k_ ≠ ((.slice (some ⟨go6, 0, none⟩) l0_2.length co6) : Value).ownBlock ∧ some k_ ≠ (u9002_ : Value).ownBlock) u9000_ x1001_1) ∧ Aside0 (Kd.R (Kd.int .i64) 3 w' w0.heap.size (fun k_ => ((P0_1_ k_ ∨ P0_2_ k_ ∨ P0_3_ k_) ∨ w.heap.size ≤ k_) ∧ some k_ ≠ ((.slice Ao13 t139.length co13) : Value).ownBlock ∧ some k_ ≠ (u9000_ : Value).ownBlock ∧ some k_ ≠ (u9002_ : Value).ownBlock) (.slice (some ⟨go6, 0, none⟩) l0_2.length co6) x1002_1) ∧ Aside0 (Kd.R (Kd.int .i64) 3 w' w0.heap.size (fun k_ => ((P0_1_ k_ ∨ P0_2_ k_ ∨ P0_3_ k_) ∨ w.heap.size ≤ k_) ∧ some k_ ≠ ((.slice Ao13 t139.length co13) : Value).ownBlock ∧ some k_ ≠ (u9000_ : Value).ownBlock ∧ some k_ ≠ ((.slice (some ⟨go6, 0, none⟩) l0_2.length co6) : Value).ownBlock) u9002_ x1003_1) ∧ Aside0 (w'.heap[gc0]? = some (.cells #[(.slice A0_0 l0_0.length c0_0), u9000_, (.slice (some ⟨go6, 0, none⟩) l0_2.length co6), u9002_, .int .i64 x1004_1] 99 (0, 0))) ∧ Aside0 (Kept w w' (fun k_ => (P0_1_ k_ ∨ P0_2_ k_ ∨ P0_3_ k_) ∨ k_ = gc0)) ∧ Aside0 (Below w0.heap.size w0 w'))
   case atStart => exact ⟨(a2), (t139), (0), (l0_1), (y138), (l0_3), (a0_4), (by first | rfl | (simp; done) | (simp [*]; done)), (by first | rfl | (simp; done) | (simp [*]; done)), H', ⟨Nat.le_refl _⟩, ⟨by (with_reducible repeat (first | apply Kd.R_alloc | apply Kd.R_drewN | apply Kd.R_drew)); exact Kd.R_mono HO141.out (fun _ hk => (And.intro (hk.1.1.1.1) ((And.intro (hk.1.1.2) ((And.intro (hk.1.2) (hk.2)))))))⟩, ⟨by (with_reducible repeat (first | apply Kd.R_alloc | apply Kd.R_drewN | apply Kd.R_drew)); exact Kd.R_mono HO0_1.out (fun _ hk => (And.intro (hk.1.1.1) ((And.intro (hk.2) ((And.intro (hk.1.2) (hk.1.1.2)))))))⟩, ⟨by (with_reducible repeat (first | apply Kd.R_alloc | apply Kd.R_drewN | apply Kd.R_drew)); exact Kd.R_mono HO0_2.out (fun _ hk => (And.intro (hk.1.1) ((And.intro (hk.2) ((And.intro (hk.1.2.1) (hk.1.2.2)))))))⟩, ⟨by (with_reducible repeat (first | apply Kd.R_alloc | apply Kd.R_drewN | apply Kd.R_drew)); exact Kd.R_mono HO0_3.out (fun _ hk => (And.intro (hk.1.1.1) ((And.intro (hk.2) ((And.intro (hk.1.1.2) (hk.1.2)))))))⟩, ⟨by exact bk⟩, ⟨by repeat (first | (with_reducible first | exact HK.out | apply Kept.alloc | apply Kept.drewN | apply Kept.drew | refine Kept.setCell ?_ (.inl (.inr rfl)) _) | exact HK.out)⟩, ⟨bb⟩⟩
   case round =>
    clear H'
    try clear c1
    try clear p2
    try clear c3
    try clear c4
    try clear c4b0
    try clear c5
    try clear c5b0
    try clear p6
    try clear q6
    try clear hx6
    try clear hf6
    try clear c10
    try clear hcz11_0
    try clear hcz11_1
    try clear hcz11_2
    try clear hcz11_3
    try clear hcz11_4
    try clear hcz8_0
    try clear hcz8_1
    try clear hcz8_2
    try clear hcz8_3
    try clear hcz8_4
    try clear hfz11_0
    try clear hfz11_1
    try clear hfz11_2
    try clear hfz11_3
    try clear hfz11_4
    try clear hfz8_0
    try clear hfz8_1
    try clear hfz8_2
    try clear hfz8_3
    try clear hfz8_4
    try clear hx6_0
    try clear p6
    try clear q6
    obtain ⟨x7_1, x24_1, x26_1, x1001_1, x1002_1, x1003_1, x1004_1, rfl, rfl, HA, HK1, HO_24, HO_1001, HO_1002, HO_1003, BK0, HK, HB⟩ := hrel
    have hl24_1 := (Kd.R_reads' HO_24.out).1
    rw [hl24_1] at HO_24
    (try simp only [hl24_1])
    (try simp only [hl24_1] at BK0)
    (try simp only [hl24_1] at HO_1001)
    (try simp only [hl24_1] at HO_1002)
    (try simp only [hl24_1] at HO_1003)
    have hl1002_1 := (Kd.R_reads' HO_1002.out).1
    rw [hl1002_1] at HO_1002
    (try simp only [hl1002_1])
    (try simp only [hl1002_1] at BK0)
    (try simp only [hl1002_1] at HO_24)
    (try simp only [hl1002_1] at HO_1001)
    (try simp only [hl1002_1] at HO_1003)
    cases gk with
    | zero => exact absurd HA.out (by simp [impl_numberer_visit.l0])
    | succ k1 =>
     have H := HA.out
     clear HA
     simp only [impl_numberer_visit.l0] at H
     by_cases c14 : x26_1 < (t139.length : Int)
     ·rw [if_pos c14] at H
      have c14b0 : decide (x26_1 < (t139.length : Int)) = true := decide_eq_true c14
      (try (have c14h0 := c14b0; simp only [hl24_1, hl1002_1] at c14h0))
      clear c14
      by_cases c15 : 0 ≤ x26_1
      ·rw [if_pos c15] at H
       have c15b0 : decide (0 ≤ x26_1) = true := decide_eq_true c15
       clear c15
       by_cases c16 : x26_1 < (x24_1.length : Int)
       ·rw [if_pos c16] at H
        have c16b0 : decide (x26_1 < (x24_1.length : Int)) = true := decide_eq_true c16
        (try (have c16h0 := c16b0; simp only [hl24_1, hl1002_1] at c16h0))
        clear c16
        by_cases c17 : 0 ≤ (rd x24_1 x26_1)
        ·rw [if_pos c17] at H
         have c17b0 : decide (0 ≤ (rd x24_1 x26_1)) = true := decide_eq_true c17
         clear c17
         by_cases c18 : (rd x24_1 x26_1) < (x1001_1.length : Int)
         ·rw [if_pos c18] at H
          have c18b0 : decide ((rd x24_1 x26_1) < (x1001_1.length : Int)) = true := decide_eq_true c18
          (try (have c18h0 := c18b0; simp only [hl24_1, hl1002_1] at c18h0))
          clear c18
          obtain ⟨y144, hy144⟩ : ∃ y_ : List Int, y_ = (x1001_1.set ((rd x24_1 x26_1) : Int).toNat a2) := ⟨_, rfl⟩
          replace H : ((impl_isBridge.f l0_0 (rd x24_1 x26_1)).bind fun t145 => (if t145 = true then ((impl_numberer_visit.f k1 l0_0 y144 x1002_1 x1003_1 (wrap64 (x1004_1 + 1)) (rd x24_1 x26_1) (wrap64 (x1004_1 + 1))).bind fun bt146 => (impl_numberer_visit.l0 k1 a1 a2 (mx x7_1 bt146.1) x24_1 (t139.length : Int) (wrap64 (x26_1 + 1)) l0_0 bt146.2.2.1 bt146.2.2.2.1 bt146.2.2.2.2 bt146.2.1)) else (impl_numberer_visit.l0 k1 a1 a2 x7_1 x24_1 (t139.length : Int) (wrap64 (x26_1 + 1)) l0_0 y144 x1002_1 x1003_1 x1004_1))) = some (r1, r2, r3, r4, r5) := by first | (rw [hy144]; with_reducible exact H) | (have H2_ := (Option.bind_some _ _).symm.trans H; rw [hy144]; with_reducible exact H2_) | (have H2_ := (Option.bind_some _ _).symm.trans H; with_reducible exact H2_) | with_reducible exact H | (rw [hy144]; exact H) | exact H
          have Ny144 := Aside0.mk hy144
          clear hy144
          replace H := Option.bind_eq_some_iff.mp H
          obtain ⟨t145, A200, H⟩ := H
          replace H : (if t145 = true then ((impl_numberer_visit.f k1 l0_0 y144 x1002_1 x1003_1 (wrap64 (x1004_1 + 1)) (rd x24_1 x26_1) (wrap64 (x1004_1 + 1))).bind fun bt146 => (impl_numberer_visit.l0 k1 a1 a2 (mx x7_1 bt146.1) x24_1 (t139.length : Int) (wrap64 (x26_1 + 1)) l0_0 bt146.2.2.1 bt146.2.2.2.1 bt146.2.2.2.2 bt146.2.1)) else (impl_numberer_visit.l0 k1 a1 a2 x7_1 x24_1 (t139.length : Int) (wrap64 (x26_1 + 1)) l0_0 y144 x1002_1 x1003_1 x1004_1)) = some (r1, r2, r3, r4, r5) := H
          have A20 := Aside0.mk A200
          clear A200
          by_cases c21 : t145 = true
          ·subst c21
           have H1 : ((impl_numberer_visit.f k1 l0_0 y144 x1002_1 x1003_1 (wrap64 (x1004_1 + 1)) (rd x24_1 x26_1) (wrap64 (x1004_1 + 1))).bind fun bt146 => (impl_numberer_visit.l0 k1 a1 a2 (mx x7_1 bt146.1) x24_1 (t139.length : Int) (wrap64 (x26_1 + 1)) l0_0 bt146.2.2.1 bt146.2.2.2.1 bt146.2.2.2.2 bt146.2.1)) = some (r1, r2, r3, r4, r5) := by rw [if_pos rfl] at H; exact H
           clear H
           have H := H1
           clear H1
           replace H := Option.bind_eq_some_iff.mp H
           obtain ⟨⟨t146, t147, t148, t149, t150⟩, A220, H⟩ := H
           replace H : (impl_numberer_visit.l0 k1 a1 a2 (mx x7_1 t146) x24_1 (t139.length : Int) (wrap64 (x26_1 + 1)) l0_0 t148 t149 t150 t147) = some (r1, r2, r3, r4, r5) := H
           have A22 := Aside0.mk A220
           clear A220
           obtain ⟨ji23, hji23⟩ : ∃ j_ : Int, (mx x7_1 t146) = j_ := ⟨_, rfl⟩
           replace H : (impl_numberer_visit.l0 k1 a1 a2 ji23 x24_1 (t139.length : Int) (wrap64 (x26_1 + 1)) l0_0 t148 t149 t150 t147) = some (r1, r2, r3, r4, r5) := by first | (rw [hji23] at H; exact H) | (simp only [hji23] at H ⊢; exact H)
           (try rw [hji23] at A20)
           (try rw [hji23] at A22)
           have hji23_ : (if x7_1 < t146 then t146 else x7_1) = ji23 := hji23
           have H' := Aside0.mk H
           clear H
           have p143 : 0 ≤ (x26_1 : Int) := of_decide_eq_true as_
           have q143 : x26_1 < (x24_1.length : Int) := of_decide_eq_true as_
           obtain ⟨ad143, e143, hx143_0⟩ := Kd.at_int (Kd.R_reads' HO_24.out).2.2 x26_1 p143 q143
           cases e143
           replace p143 := eq_true p143
           replace q143 := eq_true q143
           obtain ⟨hcz24_0, hcz24_1, hcz24_2, hcz24_3, hcz24_4, hfz24_0, hfz24_1, hfz24_2, hfz24_3, hfz24_4⟩ := bx5 BK0.out
           have p19 : 0 ≤ ((rd x24_1 x26_1) : Int) := of_decide_eq_true as_
           have q19 : ((rd x24_1 x26_1) : Int) < ((x1001_1.length : Int) : Int) := of_decide_eq_true as_
           obtain ⟨go19, co19, eo19, gb19, gl19, cl19, HG19⟩ := Kd.R_form HO_1001.out (by omega)
           (first | cases eo19 | (injection eo19 with ea_ en_ ec_; (first | subst ea_ | (injection ea_ with ea_; subst ea_)); subst ec_; clear en_))
           have GB19 := Aside0.mk gb19
           have GG19 := Aside0.mk HG19
           clear gb19 gl19 HG19
           have HMgo19 := Aside0.mk (show ((P0_1_ go19 ∨ P0_2_ go19 ∨ P0_3_ go19) ∨ w.heap.size ≤ go19) from (HO_1001.out.1 _ rfl).1)
           obtain ⟨hx19_0, hf19_0⟩ := Kd.R_celln 0 HO_1001.out ((rd x24_1 x26_1) : Int) p19 q19
           replace p19 := eq_true p19
           replace q19 := eq_true q19
           have HP25 := Kd.R_putg HO_1001.out ((rd x24_1 x26_1) : Int) a2
           go_wp2_with (first | ((with_reducible refine gate_store (t := 3) (p := 37) rfl ?_); refine store_event (t := 3) (p := 37) (v := ?vo_w26) (w1 := (wr.setCell ⟨go19, ((rd x24_1 x26_1) : Int).toNat, none⟩ (.int .i64 a2))) ?hg ?ho ?hn ?hr ?_; (case ho => rfl); (case hg => rfl); (case hn => rfl); (case hr => first | (go_simp; done) | (go_simp; rfl)); intro w26 hw; have hg : wr.grownBy w26 (some go19) := (by rw [hw]; exact HP25.2); have hp_ : Kd.R (Kd.int .i64) 3 w26 w0.heap.size (fun k_ => ((P0_1_ k_ ∨ P0_2_ k_ ∨ P0_3_ k_) ∨ w.heap.size ≤ k_) ∧ some k_ ≠ (.slice (some ad143) x24_1.length co13 : Value).ownBlock ∧ some k_ ≠ (.slice (some ⟨go6, 0, none⟩) x1002_1.length co6 : Value).ownBlock ∧ some k_ ≠ (u9002_ : Value).ownBlock) (.slice (some ⟨go19, 0, none⟩) x1001_1.length co19) y144 := (by rw [hw, Ny144.out]; exact HP25.1); clear HP25; have t_ := fc7 (Kd.R_after (v := (.slice (some ⟨go19, 0, none⟩) x1001_1.length co19)) (v1 := (.slice (some ⟨go19, 0, none⟩) x1001_1.length co19)) (ok := (fun k_ => ((P0_1_ k_ ∨ P0_2_ k_ ∨ P0_3_ k_) ∨ w.heap.size ≤ k_) ∧ some k_ ≠ (.slice (some ⟨go6, 0, none⟩) x1002_1.length co6 : Value).ownBlock ∧ some k_ ≠ (u9002_ : Value).ownBlock)) (ra (Kd.R_mono HO_24.out (fun _ hk => (And.intro ((And.intro (hk.1) ((And.intro (hk.2.2.1) (hk.2.2.2))))) (hk.2.1))))) hg (.inl rfl)) (hp_) (Kd.R_after (v := (.slice (some ⟨go19, 0, none⟩) x1001_1.length co19)) (v1 := (.slice (some ⟨go19, 0, none⟩) x1001_1.length co19)) (ok := (fun k_ => ((P0_1_ k_ ∨ P0_2_ k_ ∨ P0_3_ k_) ∨ w.heap.size ≤ k_) ∧ some k_ ≠ (.slice (some ad143) x24_1.length co13 : Value).ownBlock ∧ some k_ ≠ (u9002_ : Value).ownBlock)) (ra (Kd.R_mono HO_1002.out (fun _ hk => (And.intro ((And.intro (hk.1) ((And.intro (hk.2.1) (hk.2.2.2))))) (hk.2.2.1))))) hg (.inl rfl)) (Kd.R_after (v := (.slice (some ⟨go19, 0, none⟩) x1001_1.length co19)) (v1 := (.slice (some ⟨go19, 0, none⟩) x1001_1.length co19)) (ok := (fun k_ => ((P0_1_ k_ ∨ P0_2_ k_ ∨ P0_3_ k_) ∨ w.heap.size ≤ k_) ∧ some k_ ≠ (.slice (some ad143) x24_1.length co13 : Value).ownBlock ∧ some k_ ≠ (.slice (some ⟨go6, 0, none⟩) x1002_1.length co6 : Value).ownBlock)) (ra (Kd.R_mono HO_1003.out (fun _ hk => (And.intro ((And.intro (hk.1) ((And.intro (hk.2.1) (hk.2.2.2))))) (hk.2.2.1))))) hg (.inl rfl)) (blk_grown (g := gc0) (o := .cells #[.slice A0_0 l0_0.length c0_0, .slice (some ⟨go19, 0, none⟩) x1001_1.length co19, .slice (some ⟨go6, 0, none⟩) x1002_1.length co6, u9002_, .int .i64 x1004_1] 99 (0, 0)) bk hg (Kd.R_ne HO_1001.out BK0.out (by decide))) ((by rw [hw]; exact below_set (HB.out) GB19.out : Below w0.heap.size w0 w26)) (Kept.of_grown (S := (fun k_ => (P0_1_ k_ ∨ P0_2_ k_ ∨ P0_3_ k_) ∨ k_ = gc0)) hg (by repeat (first | (with_reducible first | exact HK.out | apply Kept.alloc | apply Kept.drewN | apply Kept.drew | refine Kept.setCell ?_ (.inl (.inr rfl)) _) | exact HK.out)) (fun k_ e_ => Or.imp_left Or.inl ((HO_1001.out.1 k_ e_).1))); clear HO_24 HO_1001 HO_1002 HO_1003 BK0 HB HK; obtain ⟨HO_24, HO_1001, HO_1002, HO_1003, BK0, HB, HK⟩ := t_; clear hg hw hp_; obtain ⟨hcz27_0, hcz27_1, hcz27_2, hcz27_3, hcz27_4, hfz27_0, hfz27_1, hfz27_2, hfz27_3, hfz27_4⟩ := bx5 BK0.out) | ((with_reducible refine gate_callee (f := 81) rfl ?_); refine goesL_ (some 43) rfl rfl Try.func81 (by kernel_rfl) rfl #[.slice A0_0 l0_0.length c0_0, .int .i64 (rd x24_1 x26_1)] rfl ms ?_; (with_reducible refine (impl_isBridge.calls _ _ l0_0 (rd x24_1 x26_1) true _ ?side1 ?side2 A20.out).mono ?_); (case side1 => exact Kd.C_kept_now HR0_0.out (by repeat (first | (with_reducible first | exact HK.out | apply Kept.alloc | apply Kept.drewN | apply Kept.drew | refine Kept.setCell ?_ (.inl (.inr rfl)) _) | exact HK.out))); (case side2 => exact HC0_0.out); rintro e w' ⟨rfl, ⟨nd, rfl⟩⟩; refine ⟨_, rfl, ?_⟩; (try (rw [drewN_self w26]; generalize hq_ : World.drewN w26 _ = w26; have n0_ : Aside0 (Kd.R (Kd.int .i64) 3 w26 w0.heap.size (fun k_ => ((((P0_1_ k_ ∨ P0_2_ k_ ∨ P0_3_ k_) ∨ w.heap.size ≤ k_)) ∧ (some k_ ≠ (.slice (some ad143) x24_1.length co13 : Value).ownBlock ∧ (some k_ ≠ (.slice (some ⟨go6, 0, none⟩) x1002_1.length co6 : Value).ownBlock ∧ some k_ ≠ (u9002_ : Value).ownBlock)))) (.slice (some ⟨go19, 0, none⟩) x1001_1.length co19) y144) := ⟨by rw [← hq_]; exact (ra HO_1001.out)⟩; have n1_ : Aside0 (Kd.R (Kd.int .i64) 3 w26 w0.heap.size (fun k_ => (((((P0_1_ k_ ∨ P0_2_ k_ ∨ P0_3_ k_) ∨ w.heap.size ≤ k_)) ∧ (some k_ ≠ (.slice (some ad143) x24_1.length co13 : Value).ownBlock ∧ some k_ ≠ (u9002_ : Value).ownBlock)) ∧ some k_ ≠ (.slice (some ⟨go19, 0, none⟩) x1001_1.length co19 : Value).ownBlock)) (.slice (some ⟨go6, 0, none⟩) x1002_1.length co6) x1002_1) := ⟨by rw [← hq_]; exact (ra HO_1002.out)⟩; have n2_ : Aside0 (Kd.R (Kd.int .i64) 3 w26 w0.heap.size (fun k_ => (((((P0_1_ k_ ∨ P0_2_ k_ ∨ P0_3_ k_) ∨ w.heap.size ≤ k_)) ∧ (some k_ ≠ (.slice (some ad143) x24_1.length co13 : Value).ownBlock ∧ some k_ ≠ (.slice (some ⟨go6, 0, none⟩) x1002_1.length co6 : Value).ownBlock)) ∧ some k_ ≠ (.slice (some ⟨go19, 0, none⟩) x1001_1.length co19 : Value).ownBlock)) u9002_ x1003_1) := ⟨by rw [← hq_]; exact (ra HO_1003.out)⟩; have n3_ : Aside0 (Kd.R (Kd.int .i64) 3 w26 w0.heap.size (fun k_ => (((((P0_1_ k_ ∨ P0_2_ k_ ∨ P0_3_ k_) ∨ w.heap.size ≤ k_)) ∧ (some k_ ≠ (.slice (some ⟨go6, 0, none⟩) x1002_1.length co6 : Value).ownBlock ∧ some k_ ≠ (u9002_ : Value).ownBlock)) ∧ some k_ ≠ (.slice (some ⟨go19, 0, none⟩) x1001_1.length co19 : Value).ownBlock)) (.slice (some ad143) x24_1.length co13) x24_1) := ⟨by rw [← hq_]; exact (ra HO_24.out)⟩; have n4_ : Aside0 (w26.heap[gc0]? = some (.cells #[.slice A0_0 l0_0.length c0_0, .slice (some ⟨go19, 0, none⟩) x1001_1.length co19, .slice (some ⟨go6, 0, none⟩) x1002_1.length co6, u9002_, .int .i64 x1004_1] 99 (0, 0))) := ⟨by rw [← hq_]; exact bk⟩; have n5_ : Aside0 (Kept w w26 (fun k_ => (P0_1_ k_ ∨ P0_2_ k_ ∨ P0_3_ k_) ∨ k_ = gc0)) := ⟨by rw [← hq_]; exact (by repeat (first | (with_reducible first | exact HK.out | apply Kept.alloc | apply Kept.drewN | apply Kept.drew | refine Kept.setCell ?_ (.inl (.inr rfl)) _) | exact HK.out))⟩; have n6_ : Aside0 (Below w0.heap.size w0 w26) := ⟨by rw [← hq_]; exact bb⟩; clear HO_1001 HO_1002 HO_1003 HO_24 BK0 HK HB hq_; have HO_1001 := n0_; have HO_1002 := n1_; have HO_1003 := n2_; have HO_24 := n3_; have BK0 := n4_; have HK := n5_; have HB := n6_; clear n0_ n1_ n2_ n3_ n4_ n5_ n6_)); obtain ⟨hcz28_0, hcz28_1, hcz28_2, hcz28_3, hcz28_4, hfz28_0, hfz28_1, hfz28_2, hfz28_3, hfz28_4⟩ := bx5 BK0.out) | ((with_reducible refine gate_store (t := 3) (p := 50) rfl ?_); refine store_event (t := 3) (p := 50) (v := ?vo_w29) (w1 := (w26.setCell ⟨gc0, 4, none⟩ (.int .i64 (wrap64 (x1004_1 + 1))))) ?hg ?ho ?hn ?hr ?_; (case ho => rfl); (case hg => rfl); (case hn => rfl); (case hr => first | (go_simp; done) | (go_simp; rfl)); intro w29 hw; have n0_ : Aside0 (Kd.R (Kd.int .i64) 3 w29 w0.heap.size (fun k_ => ((P0_1_ k_ ∨ P0_2_ k_ ∨ P0_3_ k_) ∨ w.heap.size ≤ k_) ∧ some k_ ≠ (.slice (some ⟨go19, 0, none⟩) x1001_1.length co19 : Value).ownBlock ∧ some k_ ≠ (.slice (some ⟨go6, 0, none⟩) x1002_1.length co6 : Value).ownBlock ∧ some k_ ≠ (u9002_ : Value).ownBlock) (.slice (some ad143) x24_1.length co13) x24_1) := ⟨(by rw [hw]; exact (ra (Kd.R_mono (Kd.R_far (p := ⟨gc0, 4, none⟩) (Kd.R_types HO_24.out BK0.out (by decide)) fk (.int .i64 (wrap64 (x1004_1 + 1)))) (fun _ hk => (And.intro (hk.1.1.1) ((And.intro (hk.1.2) ((And.intro (hk.1.1.2.1) (hk.1.1.2.2))))))))))⟩; have n1_ : Aside0 (Kd.R (Kd.int .i64) 3 w29 w0.heap.size (fun k_ => ((P0_1_ k_ ∨ P0_2_ k_ ∨ P0_3_ k_) ∨ w.heap.size ≤ k_) ∧ some k_ ≠ (.slice (some ad143) x24_1.length co13 : Value).ownBlock ∧ some k_ ≠ (.slice (some ⟨go6, 0, none⟩) x1002_1.length co6 : Value).ownBlock ∧ some k_ ≠ (u9002_ : Value).ownBlock) (.slice (some ⟨go19, 0, none⟩) x1001_1.length co19) y144) := ⟨(by rw [hw]; exact (ra (Kd.R_mono (Kd.R_far (p := ⟨gc0, 4, none⟩) (Kd.R_types HO_1001.out BK0.out (by decide)) fk (.int .i64 (wrap64 (x1004_1 + 1)))) (fun _ hk => (And.intro (hk.1.1) ((And.intro (hk.1.2.1) ((And.intro (hk.1.2.2.1) (hk.1.2.2.2))))))))))⟩; have n2_ : Aside0 (Kd.R (Kd.int .i64) 3 w29 w0.heap.size (fun k_ => ((P0_1_ k_ ∨ P0_2_ k_ ∨ P0_3_ k_) ∨ w.heap.size ≤ k_) ∧ some k_ ≠ (.slice (some ad143) x24_1.length co13 : Value).ownBlock ∧ some k_ ≠ (.slice (some ⟨go19, 0, none⟩) x1001_1.length co19 : Value).ownBlock ∧ some k_ ≠ (u9002_ : Value).ownBlock) (.slice (some ⟨go6, 0, none⟩) x1002_1.length co6) x1002_1) := ⟨(by rw [hw]; exact (ra (Kd.R_mono (Kd.R_far (p := ⟨gc0, 4, none⟩) (Kd.R_types HO_1002.out BK0.out (by decide)) fk (.int .i64 (wrap64 (x1004_1 + 1)))) (fun _ hk => (And.intro (hk.1.1.1) ((And.intro (hk.1.1.2.1) ((And.intro (hk.1.2) (hk.1.1.2.2))))))))))⟩; have n3_ : Aside0 (Kd.R (Kd.int .i64) 3 w29 w0.heap.size (fun k_ => ((P0_1_ k_ ∨ P0_2_ k_ ∨ P0_3_ k_) ∨ w.heap.size ≤ k_) ∧ some k_ ≠ (.slice (some ad143) x24_1.length co13 : Value).ownBlock ∧ some k_ ≠ (.slice (some ⟨go19, 0, none⟩) x1001_1.length co19 : Value).ownBlock ∧ some k_ ≠ (.slice (some ⟨go6, 0, none⟩) x1002_1.length co6 : Value).ownBlock) u9002_ x1003_1) := ⟨(by rw [hw]; exact (ra (Kd.R_mono (Kd.R_far (p := ⟨gc0, 4, none⟩) (Kd.R_types HO_1003.out BK0.out (by decide)) fk (.int .i64 (wrap64 (x1004_1 + 1)))) (fun _ hk => (And.intro (hk.1.1.1) ((And.intro (hk.1.1.2.1) ((And.intro (hk.1.2) (hk.1.1.2.2))))))))))⟩; have n4_ : Aside0 (w29.heap[gc0]? = some (.cells #[.slice A0_0 l0_0.length c0_0, .slice (some ⟨go19, 0, none⟩) x1001_1.length co19, .slice (some ⟨go6, 0, none⟩) x1002_1.length co6, u9002_, .int .i64 (wrap64 (x1004_1 + 1))] 99 (0, 0))) := ⟨(by rw [hw]; exact (by (with_reducible repeat (first | refine blk_drewN ?_ _ | refine blk_drew ?_ | refine blk_alloc ?_ _)); refine blk_put (cs := #[.slice A0_0 l0_0.length c0_0, .slice (some ⟨go19, 0, none⟩) x1001_1.length co19, .slice (some ⟨go6, 0, none⟩) x1002_1.length co6, u9002_, .int .i64 x1004_1]) ?_ 4 _ rfl; exact bk))⟩; have n5_ : Aside0 (Kept w w29 (fun k_ => (P0_1_ k_ ∨ P0_2_ k_ ∨ P0_3_ k_) ∨ k_ = gc0)) := ⟨(by rw [hw]; exact (by repeat (first | (with_reducible first | exact HK.out | apply Kept.alloc | apply Kept.drewN | apply Kept.drew | refine Kept.setCell ?_ (.inl (.inr rfl)) _) | exact HK.out)))⟩; have n6_ : Aside0 (Below w0.heap.size w0 w29) := ⟨(by rw [hw]; exact bb)⟩; clear hw; clear HO_24; clear HO_1001; clear HO_1002; clear HO_1003; clear BK0; clear HK; clear HB; have HO_24 := n0_; have HO_1001 := n1_; have HO_1002 := n2_; have HO_1003 := n3_; have BK0 := n4_; have HK := n5_; have HB := n6_; clear n0_ n1_ n2_ n3_ n4_ n5_ n6_; obtain ⟨hcz30_0, hcz30_1, hcz30_2, hcz30_3, hcz30_4, hfz30_0, hfz30_1, hfz30_2, hfz30_3, hfz30_4⟩ := bx5 BK0.out; obtain ⟨Ao31, co31, eo31⟩ := Kd.R_slice HO_1003.out; subst eo31) | ((with_reducible refine gate_callee (f := 100) rfl ?_); refine goesL_ (some 58) rfl rfl Try.func100 (by kernel_rfl) rfl #[.pointer (some ⟨gc0, 0, none⟩), .int .i64 (rd x24_1 x26_1), .int .i64 (wrap64 (x1004_1 + 1))] rfl ms ?_; (with_reducible refine (ih k1 (by have := HK1.out; omega) gc0 A0_0 c0_0 l0_0 (fun k_ => some k_ = (.slice (some ⟨go19, 0, none⟩) x1001_1.length co19 : Value).ownBlock) (.slice (some ⟨go19, 0, none⟩) x1001_1.length co19) y144 (fun k_ => some k_ = (.slice (some ⟨go6, 0, none⟩) x1002_1.length co6 : Value).ownBlock) (.slice (some ⟨go6, 0, none⟩) x1002_1.length co6) x1002_1 (fun k_ => some k_ = (.slice Ao31 x1003_1.length co31 : Value).ownBlock) (.slice Ao31 x1003_1.length co31) x1003_1 (wrap64 (x1004_1 + 1)) (rd x24_1 x26_1) (wrap64 (x1004_1 + 1)) t146 t147 t148 t149 t150 w0 _ ?side1 ?side2 ?side3 ?side4 ?side5 ?side6 ?side7 ?side8 ?side9 ?side10 ?side11 ?side12 ?side13 ?side14 A22.out).mono ?_); (case side1 => exact bb); (case side2 => exact Kd.C_kept_call HR0_0.out (by repeat (first | (with_reducible first | exact HK.out | apply Kept.alloc | apply Kept.drewN | apply Kept.drew | refine Kept.setCell ?_ (.inl (.inr rfl)) _) | exact HK.out)) (fun k_ hs_ => Or.elim hs_ (fun hs_ => Or.elim hs_ (fun e_ => (fun e_ => Or.imp_left Or.inl ((HO_1001.out.1 k_ e_.symm).1)) e_) (fun e_ => Or.elim e_ (fun e_ => (fun e_ => Or.imp_left Or.inl ((HO_1002.out.1 k_ e_.symm).1)) e_) (fun e_ => (fun e_ => Or.imp_left Or.inl ((HO_1003.out.1 k_ e_.symm).1)) e_))) (fun e_ => .inl (.inr e_)))); (case side3 => exact HC0_0.out); (case side4 => exact Kd.R_tight rfl HO_1001.out); (case side5 => exact fun k_ e_ => (HO_1001.out.1 k_ e_.symm).2.2.1); (case side6 => exact fun k_ e_ => (HO_1001.out.1 k_ e_.symm).2.2.2); (case side7 => exact Kd.R_tight rfl HO_1002.out); (case side8 => exact fun k_ e_ => (HO_1002.out.1 k_ e_.symm).2.2.1); (case side9 => exact fun k_ e_ => (HO_1002.out.1 k_ e_.symm).2.2.2); (case side10 => exact Kd.R_tight rfl HO_1003.out); (case side11 => exact fun k_ e_ => (HO_1003.out.1 k_ e_.symm).2.2.1); (case side12 => exact fun k_ e_ => (HO_1003.out.1 k_ e_.symm).2.2.2); (case side13 => exact bk); (case side14 => exact GE0.out); rintro e w32 ⟨rfl, hi, hy0, hy1, hy2, hb, hkp⟩; refine ⟨_, rfl, ?_⟩; have t_ := fc7 (Kd.R_mono (ok' := fun k_ => ((P0_1_ k_ ∨ P0_2_ k_ ∨ P0_3_ k_) ∨ w.heap.size ≤ k_) ∧ some k_ ≠ (.slice (some ⟨go19, 0, none⟩) x1001_1.length co19 : Value).ownBlock ∧ some k_ ≠ (.slice (some ⟨go6, 0, none⟩) x1002_1.length co6 : Value).ownBlock ∧ some k_ ≠ (.slice Ao31 x1003_1.length co31 : Value).ownBlock) (Kd.R_keptB ((Kd.R_types HO_24.out BK0.out (by decide))) hkp (fun k_ hk_ hs_ => Or.elim hs_ (fun hs_ => Or.elim hs_ (fun e_ => (hk_.1.2.1) e_) (fun e_ => Or.elim e_ (fun e_ => (hk_.1.2.2.1) e_) (fun e_ => (hk_.1.2.2.2) e_))) (fun e_ => (hk_.2) e_))) (fun k_ hk_ => by first | exact ⟨hk_.1.1.1, hk_.1.1.2.1, hk_.1.1.2.2.1, hk_.1.1.2.2.2⟩ | simp only [ne_eq, hk_, not_false_eq_true, and_self, true_and, and_true])) (Kd.R_reok rfl hy0 (fun k_ e_ => HO_1001.out.1 k_ e_)) (Kd.R_reok rfl hy1 (fun k_ e_ => HO_1002.out.1 k_ e_)) (Kd.R_reok rfl hy2 (fun k_ e_ => HO_1003.out.1 k_ e_)) (hi) (Kept.then_ (S := (fun k_ => (P0_1_ k_ ∨ P0_2_ k_ ∨ P0_3_ k_) ∨ k_ = gc0)) (by repeat (first | (with_reducible first | exact HK.out | apply Kept.alloc | apply Kept.drewN | apply Kept.drew | refine Kept.setCell ?_ (.inl (.inr rfl)) _) | exact HK.out)) hkp (fun k_ hs_ => Or.elim hs_ (fun hs_ => Or.elim hs_ (fun e_ => (fun e_ => Or.imp_left Or.inl ((HO_1001.out.1 k_ e_.symm).1)) e_) (fun e_ => Or.elim e_ (fun e_ => (fun e_ => Or.imp_left Or.inl ((HO_1002.out.1 k_ e_.symm).1)) e_) (fun e_ => (fun e_ => Or.imp_left Or.inl ((HO_1003.out.1 k_ e_.symm).1)) e_))) (fun e_ => .inl (.inr e_)))) (hb); clear HO_24 HO_1001 HO_1002 HO_1003 BK0 HK HB; obtain ⟨HO_24, HO_1001, HO_1002, HO_1003, BK0, HK, HB⟩ := t_; (try clear hb); (try clear hkp); (try clear hy0); (try clear hy1); (try clear hy2)))
           (try simp only [← hl24_1, ← hl1002_1])
           go_roundg k1
           case measure => have := HK1.out; omega
           case rel => exact ⟨(ji23), (x24_1), (wrap64 (x26_1 + 1)), (t148), (t149), (t150), (t147), (by first | rfl | (simp; done) | (simp only [← hji23] <;> (first | rfl | simp)) | (simp [*]; done)), (by first | rfl | (simp; done) | (simp [*]; done)), H', ⟨by have := HK1.out; omega⟩, ⟨by (try simp only [hl24_1]); (try simp only [hl1002_1]); (with_reducible repeat (first | apply Kd.R_alloc | apply Kd.R_drewN | apply Kd.R_drew)); exact HO_24.out⟩, ⟨by (try simp only [hl24_1]); (try simp only [hl1002_1]); (with_reducible repeat (first | apply Kd.R_alloc | apply Kd.R_drewN | apply Kd.R_drew)); exact HO_1001.out⟩, ⟨by (try simp only [hl24_1]); (try simp only [hl1002_1]); (with_reducible repeat (first | apply Kd.R_alloc | apply Kd.R_drewN | apply Kd.R_drew)); exact HO_1002.out⟩, ⟨by (try simp only [hl24_1]); (try simp only [hl1002_1]); (with_reducible repeat (first | apply Kd.R_alloc | apply Kd.R_drewN | apply Kd.R_drew)); exact HO_1003.out⟩, ⟨by (try simp only [hl24_1]); (try simp only [hl1002_1]); exact bk⟩, ⟨by repeat (first | (with_reducible first | exact HK.out | apply Kept.alloc | apply Kept.drewN | apply Kept.drew | refine Kept.setCell ?_ (.inl (.inr rfl)) _) | exact HK.out)⟩, ⟨bb⟩⟩
          ·replace c21 := Bool.eq_false_iff.mpr c21
           subst c21
           have H1 : (impl_numberer_visit.l0 k1 a1 a2 x7_1 x24_1 (t139.length : Int) (wrap64 (x26_1 + 1)) l0_0 y144 x1002_1 x1003_1 x1004_1) = some (r1, r2, r3, r4, r5) := by rw [if_neg (show ¬ (false = true) by decide)] at H; exact H
           clear H
           have H := H1
           clear H1
           have H' := Aside0.mk H
           clear H
           have p143 : 0 ≤ (x26_1 : Int) := of_decide_eq_true as_
           have q143 : x26_1 < (x24_1.length : Int) := of_decide_eq_true as_
           obtain ⟨ad143, e143, hx143_0⟩ := Kd.at_int (Kd.R_reads' HO_24.out).2.2 x26_1 p143 q143
           cases e143
           replace p143 := eq_true p143
           replace q143 := eq_true q143
           obtain ⟨hcz33_0, hcz33_1, hcz33_2, hcz33_3, hcz33_4, hfz33_0, hfz33_1, hfz33_2, hfz33_3, hfz33_4⟩ := bx5 BK0.out
           have p19 : 0 ≤ ((rd x24_1 x26_1) : Int) := of_decide_eq_true as_
           have q19 : ((rd x24_1 x26_1) : Int) < ((x1001_1.length : Int) : Int) := of_decide_eq_true as_
           obtain ⟨go19, co19, eo19, gb19, gl19, cl19, HG19⟩ := Kd.R_form HO_1001.out (by omega)
           (first | cases eo19 | (injection eo19 with ea_ en_ ec_; (first | subst ea_ | (injection ea_ with ea_; subst ea_)); subst ec_; clear en_))
           have GB19 := Aside0.mk gb19
           have GG19 := Aside0.mk HG19
           clear gb19 gl19 HG19
           have HMgo19 := Aside0.mk (show ((P0_1_ go19 ∨ P0_2_ go19 ∨ P0_3_ go19) ∨ w.heap.size ≤ go19) from (HO_1001.out.1 _ rfl).1)
           obtain ⟨hx19_0, hf19_0⟩ := Kd.R_celln 0 HO_1001.out ((rd x24_1 x26_1) : Int) p19 q19
           replace p19 := eq_true p19
           replace q19 := eq_true q19
           have HP34 := Kd.R_putg HO_1001.out ((rd x24_1 x26_1) : Int) a2
           go_wp2_with (first | ((with_reducible refine gate_store (t := 3) (p := 37) rfl ?_); refine store_event (t := 3) (p := 37) (v := ?vo_w35) (w1 := (wr.setCell ⟨go19, ((rd x24_1 x26_1) : Int).toNat, none⟩ (.int .i64 a2))) ?hg ?ho ?hn ?hr ?_; (case ho => rfl); (case hg => rfl); (case hn => rfl); (case hr => first | (go_simp; done) | (go_simp; rfl)); intro w35 hw; have hg : wr.grownBy w35 (some go19) := (by rw [hw]; exact HP34.2); have hp_ : Kd.R (Kd.int .i64) 3 w35 w0.heap.size (fun k_ => ((P0_1_ k_ ∨ P0_2_ k_ ∨ P0_3_ k_) ∨ w.heap.size ≤ k_) ∧ some k_ ≠ (.slice (some ad143) x24_1.length co13 : Value).ownBlock ∧ some k_ ≠ (.slice (some ⟨go6, 0, none⟩) x1002_1.length co6 : Value).ownBlock ∧ some k_ ≠ (u9002_ : Value).ownBlock) (.slice (some ⟨go19, 0, none⟩) x1001_1.length co19) y144 := (by rw [hw, Ny144.out]; exact HP34.1); clear HP34; have t_ := fc7 (Kd.R_after (v := (.slice (some ⟨go19, 0, none⟩) x1001_1.length co19)) (v1 := (.slice (some ⟨go19, 0, none⟩) x1001_1.length co19)) (ok := (fun k_ => ((P0_1_ k_ ∨ P0_2_ k_ ∨ P0_3_ k_) ∨ w.heap.size ≤ k_) ∧ some k_ ≠ (.slice (some ⟨go6, 0, none⟩) x1002_1.length co6 : Value).ownBlock ∧ some k_ ≠ (u9002_ : Value).ownBlock)) (ra (Kd.R_mono HO_24.out (fun _ hk => (And.intro ((And.intro (hk.1) ((And.intro (hk.2.2.1) (hk.2.2.2))))) (hk.2.1))))) hg (.inl rfl)) (hp_) (Kd.R_after (v := (.slice (some ⟨go19, 0, none⟩) x1001_1.length co19)) (v1 := (.slice (some ⟨go19, 0, none⟩) x1001_1.length co19)) (ok := (fun k_ => ((P0_1_ k_ ∨ P0_2_ k_ ∨ P0_3_ k_) ∨ w.heap.size ≤ k_) ∧ some k_ ≠ (.slice (some ad143) x24_1.length co13 : Value).ownBlock ∧ some k_ ≠ (u9002_ : Value).ownBlock)) (ra (Kd.R_mono HO_1002.out (fun _ hk => (And.intro ((And.intro (hk.1) ((And.intro (hk.2.1) (hk.2.2.2))))) (hk.2.2.1))))) hg (.inl rfl)) (Kd.R_after (v := (.slice (some ⟨go19, 0, none⟩) x1001_1.length co19)) (v1 := (.slice (some ⟨go19, 0, none⟩) x1001_1.length co19)) (ok := (fun k_ => ((P0_1_ k_ ∨ P0_2_ k_ ∨ P0_3_ k_) ∨ w.heap.size ≤ k_) ∧ some k_ ≠ (.slice (some ad143) x24_1.length co13 : Value).ownBlock ∧ some k_ ≠ (.slice (some ⟨go6, 0, none⟩) x1002_1.length co6 : Value).ownBlock)) (ra (Kd.R_mono HO_1003.out (fun _ hk => (And.intro ((And.intro (hk.1) ((And.intro (hk.2.1) (hk.2.2.2))))) (hk.2.2.1))))) hg (.inl rfl)) (blk_grown (g := gc0) (o := .cells #[.slice A0_0 l0_0.length c0_0, .slice (some ⟨go19, 0, none⟩) x1001_1.length co19, .slice (some ⟨go6, 0, none⟩) x1002_1.length co6, u9002_, .int .i64 x1004_1] 99 (0, 0)) bk hg (Kd.R_ne HO_1001.out BK0.out (by decide))) ((by rw [hw]; exact below_set (HB.out) GB19.out : Below w0.heap.size w0 w35)) (Kept.of_grown (S := (fun k_ => (P0_1_ k_ ∨ P0_2_ k_ ∨ P0_3_ k_) ∨ k_ = gc0)) hg (by repeat (first | (with_reducible first | exact HK.out | apply Kept.alloc | apply Kept.drewN | apply Kept.drew | refine Kept.setCell ?_ (.inl (.inr rfl)) _) | exact HK.out)) (fun k_ e_ => Or.imp_left Or.inl ((HO_1001.out.1 k_ e_).1))); clear HO_24 HO_1001 HO_1002 HO_1003 BK0 HB HK; obtain ⟨HO_24, HO_1001, HO_1002, HO_1003, BK0, HB, HK⟩ := t_; clear hg hw hp_; obtain ⟨hcz36_0, hcz36_1, hcz36_2, hcz36_3, hcz36_4, hfz36_0, hfz36_1, hfz36_2, hfz36_3, hfz36_4⟩ := bx5 BK0.out) | ((with_reducible refine gate_callee (f := 81) rfl ?_); refine goesL_ (some 43) rfl rfl Try.func81 (by kernel_rfl) rfl #[.slice A0_0 l0_0.length c0_0, .int .i64 (rd x24_1 x26_1)] rfl ms ?_; (with_reducible refine (impl_isBridge.calls _ _ l0_0 (rd x24_1 x26_1) false _ ?side1 ?side2 A20.out).mono ?_); (case side1 => exact Kd.C_kept_now HR0_0.out (by repeat (first | (with_reducible first | exact HK.out | apply Kept.alloc | apply Kept.drewN | apply Kept.drew | refine Kept.setCell ?_ (.inl (.inr rfl)) _) | exact HK.out))); (case side2 => exact HC0_0.out); rintro e w' ⟨rfl, ⟨nd, rfl⟩⟩; refine ⟨_, rfl, ?_⟩))
           (try simp only [← hl24_1, ← hl1002_1])
           go_roundg k1
           case measure => have := HK1.out; omega
           case rel => exact ⟨(x7_1), (x24_1), (wrap64 (x26_1 + 1)), (y144), (x1002_1), (x1003_1), (x1004_1), (by first | rfl | (simp; done) | (simp [*]; done)), (by first | rfl | (simp; done) | (simp [*]; done)), H', ⟨by have := HK1.out; omega⟩, ⟨by (try simp only [hl24_1]); (try simp only [hl1002_1]); (with_reducible repeat (first | apply Kd.R_alloc | apply Kd.R_drewN | apply Kd.R_drew)); exact Kd.R_mono HO_24.out (fun _ hk => (And.intro (hk.1.1) ((And.intro (hk.2) ((And.intro (hk.1.2.1) (hk.1.2.2)))))))⟩, ⟨by (try simp only [hl24_1]); (try simp only [hl1002_1]); (with_reducible repeat (first | apply Kd.R_alloc | apply Kd.R_drewN | apply Kd.R_drew)); exact HO_1001.out⟩, ⟨by (try simp only [hl24_1]); (try simp only [hl1002_1]); (with_reducible repeat (first | apply Kd.R_alloc | apply Kd.R_drewN | apply Kd.R_drew)); exact Kd.R_mono HO_1002.out (fun _ hk => (And.intro (hk.1.1) ((And.intro (hk.1.2.1) ((And.intro (hk.2) (hk.1.2.2)))))))⟩, ⟨by (try simp only [hl24_1]); (try simp only [hl1002_1]); (with_reducible repeat (first | apply Kd.R_alloc | apply Kd.R_drewN | apply Kd.R_drew)); exact Kd.R_mono HO_1003.out (fun _ hk => (And.intro (hk.1.1) ((And.intro (hk.1.2.1) ((And.intro (hk.2) (hk.1.2.2)))))))⟩, ⟨by (try simp only [hl24_1]); (try simp only [hl1002_1]); exact bk⟩, ⟨by repeat (first | (with_reducible first | exact HK.out | apply Kept.alloc | apply Kept.drewN | apply Kept.drew | refine Kept.setCell ?_ (.inl (.inr rfl)) _) | exact HK.out)⟩, ⟨bb⟩⟩
         ·rw [if_neg c18] at H
          exact absurd H (by simp)
        ·rw [if_neg c17] at H
         exact absurd H (by simp)
       ·rw [if_neg c16] at H
        exact absurd H (by simp)
      ·rw [if_neg c15] at H
       exact absurd H (by simp)
     ·rw [if_neg c14] at H
      have c14b0 : decide (x26_1 < (t139.length : Int)) = false := decide_eq_false c14
      (try (have c14h0 := c14b0; simp only [hl24_1, hl1002_1] at c14h0))
      clear c14
      by_cases c37 : 0 ≤ a1
      ·rw [if_pos c37] at H
       have c37b0 : decide (0 ≤ a1) = true := decide_eq_true c37
       clear c37
       by_cases c38 : a1 < (x1003_1.length : Int)
       ·rw [if_pos c38] at H
        have c38b0 : decide (a1 < (x1003_1.length : Int)) = true := decide_eq_true c38
        (try (have c38h0 := c38b0; simp only [hl24_1, hl1002_1] at c38h0))
        clear c38
        obtain ⟨y142, hy142⟩ : ∃ y_ : List Int, y_ = (x1003_1.set (a1 : Int).toNat x7_1) := ⟨_, rfl⟩
        replace H : (some (x7_1, x1004_1, x1001_1, x1002_1, y142)) = some (r1, r2, r3, r4, r5) := by first | (rw [hy142]; with_reducible exact H) | (have H2_ := (Option.bind_some _ _).symm.trans H; rw [hy142]; with_reducible exact H2_) | (have H2_ := (Option.bind_some _ _).symm.trans H; with_reducible exact H2_) | with_reducible exact H | (rw [hy142]; exact H) | exact H
        have Ny142 := Aside0.mk hy142
        clear hy142
        simp only [Option.some.injEq, Prod.mk.injEq] at H
        obtain ⟨rfl, rfl, rfl, rfl, rfl⟩ := H
        obtain ⟨hcz40_0, hcz40_1, hcz40_2, hcz40_3, hcz40_4, hfz40_0, hfz40_1, hfz40_2, hfz40_3, hfz40_4⟩ := bx5 BK0.out
        have p39 : 0 ≤ (a1 : Int) := of_decide_eq_true as_
        have q39 : (a1 : Int) < ((x1003_1.length : Int) : Int) := of_decide_eq_true as_
        obtain ⟨go39, co39, eo39, gb39, gl39, cl39, HG39⟩ := Kd.R_form HO_1003.out (by omega)
        (first | cases eo39 | (injection eo39 with ea_ en_ ec_; (first | subst ea_ | (injection ea_ with ea_; subst ea_)); subst ec_; clear en_))
        have GB39 := Aside0.mk gb39
        have GG39 := Aside0.mk HG39
        clear gb39 gl39 HG39
        have HMgo39 := Aside0.mk (show ((P0_1_ go39 ∨ P0_2_ go39 ∨ P0_3_ go39) ∨ w.heap.size ≤ go39) from (HO_1003.out.1 _ rfl).1)
        obtain ⟨hx39_0, hf39_0⟩ := Kd.R_celln 0 HO_1003.out (a1 : Int) p39 q39
        replace p39 := eq_true p39
        replace q39 := eq_true q39
        have HP41 := Kd.R_putg HO_1003.out (a1 : Int) x7_1
        go_wp2_with (first | ((with_reducible refine gate_store (t := 3) (p := 68) rfl ?_); refine store_event (t := 3) (p := 68) (v := ?vo_w42) (w1 := (wr.setCell ⟨go39, (a1 : Int).toNat, none⟩ (.int .i64 x7_1))) ?hg ?ho ?hn ?hr ?_; (case ho => rfl); (case hg => rfl); (case hn => rfl); (case hr => first | (go_simp; done) | (go_simp; rfl)); intro w42 hw; have hg : wr.grownBy w42 (some go39) := (by rw [hw]; exact HP41.2); have hp_ : Kd.R (Kd.int .i64) 3 w42 w0.heap.size (fun k_ => ((P0_1_ k_ ∨ P0_2_ k_ ∨ P0_3_ k_) ∨ w.heap.size ≤ k_) ∧ some k_ ≠ (.slice Ao13 x24_1.length co13 : Value).ownBlock ∧ some k_ ≠ (u9000_ : Value).ownBlock ∧ some k_ ≠ (.slice (some ⟨go6, 0, none⟩) x1002_1.length co6 : Value).ownBlock) (.slice (some ⟨go39, 0, none⟩) x1003_1.length co39) y142 := (by rw [hw, Ny142.out]; exact HP41.1); clear HP41; have t_ := fc7 (Kd.R_after (v := (.slice (some ⟨go39, 0, none⟩) x1003_1.length co39)) (v1 := (.slice (some ⟨go39, 0, none⟩) x1003_1.length co39)) (ok := (fun k_ => ((P0_1_ k_ ∨ P0_2_ k_ ∨ P0_3_ k_) ∨ w.heap.size ≤ k_) ∧ some k_ ≠ (u9000_ : Value).ownBlock ∧ some k_ ≠ (.slice (some ⟨go6, 0, none⟩) x1002_1.length co6 : Value).ownBlock)) (ra (Kd.R_mono HO_24.out (fun _ hk => (And.intro ((And.intro (hk.1) ((And.intro (hk.2.1) (hk.2.2.1))))) (hk.2.2.2))))) hg (.inl rfl)) (Kd.R_after (v := (.slice (some ⟨go39, 0, none⟩) x1003_1.length co39)) (v1 := (.slice (some ⟨go39, 0, none⟩) x1003_1.length co39)) (ok := (fun k_ => ((P0_1_ k_ ∨ P0_2_ k_ ∨ P0_3_ k_) ∨ w.heap.size ≤ k_) ∧ some k_ ≠ (.slice Ao13 x24_1.length co13 : Value).ownBlock ∧ some k_ ≠ (.slice (some ⟨go6, 0, none⟩) x1002_1.length co6 : Value).ownBlock)) (ra (Kd.R_mono HO_1001.out (fun _ hk => (And.intro ((And.intro (hk.1) ((And.intro (hk.2.1) (hk.2.2.1))))) (hk.2.2.2))))) hg (.inl rfl)) (Kd.R_after (v := (.slice (some ⟨go39, 0, none⟩) x1003_1.length co39)) (v1 := (.slice (some ⟨go39, 0, none⟩) x1003_1.length co39)) (ok := (fun k_ => ((P0_1_ k_ ∨ P0_2_ k_ ∨ P0_3_ k_) ∨ w.heap.size ≤ k_) ∧ some k_ ≠ (.slice Ao13 x24_1.length co13 : Value).ownBlock ∧ some k_ ≠ (u9000_ : Value).ownBlock)) (ra (Kd.R_mono HO_1002.out (fun _ hk => (And.intro ((And.intro (hk.1) ((And.intro (hk.2.1) (hk.2.2.1))))) (hk.2.2.2))))) hg (.inl rfl)) (hp_) (blk_grown (g := gc0) (o := .cells #[.slice A0_0 l0_0.length c0_0, u9000_, .slice (some ⟨go6, 0, none⟩) x1002_1.length co6, .slice (some ⟨go39, 0, none⟩) x1003_1.length co39, .int .i64 x1004_1] 99 (0, 0)) bk hg (Kd.R_ne HO_1003.out BK0.out (by decide))) ((by rw [hw]; exact below_set (HB.out) GB39.out : Below w0.heap.size w0 w42)) (Kept.of_grown (S := (fun k_ => (P0_1_ k_ ∨ P0_2_ k_ ∨ P0_3_ k_) ∨ k_ = gc0)) hg (by repeat (first | (with_reducible first | exact HK.out | apply Kept.alloc | apply Kept.drewN | apply Kept.drew | refine Kept.setCell ?_ (.inl (.inr rfl)) _) | exact HK.out)) (fun k_ e_ => Or.imp_left Or.inl ((HO_1003.out.1 k_ e_).1))); clear HO_24 HO_1001 HO_1002 HO_1003 BK0 HB HK; obtain ⟨HO_24, HO_1001, HO_1002, HO_1003, BK0, HB, HK⟩ := t_; clear hg hw hp_))
        go_ret
        exact ⟨er, (by first | exact bk | (simp only [hl24_1, hl1002_1]; exact bk)), (by first | exact (ra (Kd.R_mono HO_1001.out (fun _ hk => by first | exact hk.1.1 | exact hk))) | (simp only [hl24_1, hl1002_1]; exact (ra (Kd.R_mono HO_1001.out (fun _ hk => by first | exact hk.1.1 | exact hk))))), (by first | exact (ra (Kd.R_mono HO_1002.out (fun _ hk => by first | exact hk.1.1 | exact hk))) | (simp only [hl24_1, hl1002_1]; exact (ra (Kd.R_mono HO_1002.out (fun _ hk => by first | exact hk.1.1 | exact hk))))), (by first | exact (ra (Kd.R_mono HO_1003.out (fun _ hk => by first | exact hk.1 | exact hk))) | (simp only [hl24_1, hl1002_1]; exact (ra (Kd.R_mono HO_1003.out (fun _ hk => by first | exact hk.1 | exact hk))))), bb, by repeat (first | (with_reducible first | exact HK.out | apply Kept.alloc | apply Kept.drewN | apply Kept.drew | refine Kept.setCell ?_ (.inl (.inr rfl)) _) | exact HK.out)⟩
       ·rw [if_neg c38] at H
        exact absurd H (by simp)
      ·rw [if_neg c37] at H
       exact absurd H (by simp)
  ·rw [if_neg c5] at H
   exact absurd H (by simp)
 ·rw [if_neg c4] at H
  exact absurd H (by simp)

/-! ### impl_Enumerate: function 42 -/
def impl_Enumerate.f (k : Nat) (l0 : List (S50)) : Option (List Int × List Int × List Int × Bool) := (impl_TreeOk.f k l0).bind fun t152 => (if t152 = true then ((slices_Repeat_int_int.f (([(-1)] : List Int)) (l0.length : Int)).bind fun t156 => ((slices_Clone_int_int.f t156).bind fun t159 => ((slices_Clone_int_int.f t156).bind fun t162 => ((slices_Clone_int_int.f t156).bind fun t165 => ((impl_numberer_visit.f k l0 t159 t162 t165 0 0 0).bind fun bt169 => (if bt169.2.1 > 15 then (some (([] : List Int), ([] : List Int), ([] : List Int), false)) else (some (bt169.2.2.1, bt169.2.2.2.1, bt169.2.2.2.2, true)))))))) else (some (([] : List Int), ([] : List Int), ([] : List Int), false)))
set_option maxHeartbeats 8000000 in
set_option maxRecDepth 100000 in
theorem impl_Enumerate.calls (k : Nat) (A0 : Option Addr) (c0 : Nat) (l0 : List (S50)) (r1 : List Int) (r2 : List Int) (r3 : List Int) (r4 : Bool) (w : World) (hr0 : Kd.C k50 w A0 l0.length l0) (hc0 : l0.length ≤ c0) (h : impl_Enumerate.f k l0 = some (r1, r2, r3, r4)) :
  Calls Try.prog 42 #[.slice A0 l0.length c0] w fun e w' => ∃ v0_ v1_ v2_ : Value, e = .returned (.tuple #[.agg #[v0_, v1_, v2_], .bool r4]) ∧ Kd.R (Kd.int .i64) 3 w' w.heap.size (fun k_ => some k_ ≠ (v1_ : Value).ownBlock ∧ some k_ ≠ (v2_ : Value).ownBlock) v0_ r1 ∧ Kd.R (Kd.int .i64) 3 w' w.heap.size (fun k_ => some k_ ≠ (v0_ : Value).ownBlock ∧ some k_ ≠ (v2_ : Value).ownBlock) v1_ r2 ∧ Kd.R (Kd.int .i64) 3 w' w.heap.size (fun k_ => some k_ ≠ (v0_ : Value).ownBlock ∧ some k_ ≠ (v1_ : Value).ownBlock) v2_ r3 ∧ Below w.heap.size w w' := by
 have hu31 := Try.underlying31
 have hu99 := Try.underlying99
 have HR0 := Aside0.mk hr0
 have HC0 := Aside0.mk hc0
 clear hr0 hc0
 have HB := Aside0.mk (Below.refl w.heap.size w)
 have H : ((impl_TreeOk.f k l0).bind fun t152 => (if t152 = true then ((slices_Repeat_int_int.f (([(-1)] : List Int)) (l0.length : Int)).bind fun t156 => ((slices_Clone_int_int.f t156).bind fun t159 => ((slices_Clone_int_int.f t156).bind fun t162 => ((slices_Clone_int_int.f t156).bind fun t165 => ((impl_numberer_visit.f k l0 t159 t162 t165 0 0 0).bind fun bt169 => (if bt169.2.1 > 15 then (some (([] : List Int), ([] : List Int), ([] : List Int), false)) else (some (bt169.2.2.1, bt169.2.2.2.1, bt169.2.2.2.2, true)))))))) else (some (([] : List Int), ([] : List Int), ([] : List Int), false)))) = some (r1, r2, r3, r4) := h
 clear h
 replace H := Option.bind_eq_some_iff.mp H
 obtain ⟨t152, A20, H⟩ := H
 replace H : (if t152 = true then ((slices_Repeat_int_int.f (([(-1)] : List Int)) (l0.length : Int)).bind fun t156 => ((slices_Clone_int_int.f t156).bind fun t159 => ((slices_Clone_int_int.f t156).bind fun t162 => ((slices_Clone_int_int.f t156).bind fun t165 => ((impl_numberer_visit.f k l0 t159 t162 t165 0 0 0).bind fun bt169 => (if bt169.2.1 > 15 then (some (([] : List Int), ([] : List Int), ([] : List Int), false)) else (some (bt169.2.2.1, bt169.2.2.2.1, bt169.2.2.2.2, true)))))))) else (some (([] : List Int), ([] : List Int), ([] : List Int), false))) = some (r1, r2, r3, r4) := H
 have A2 := Aside0.mk A20
 clear A20
 by_cases c3 : t152 = true
 ·subst c3
  have H1 : ((slices_Repeat_int_int.f (([(-1)] : List Int)) (l0.length : Int)).bind fun t156 => ((slices_Clone_int_int.f t156).bind fun t159 => ((slices_Clone_int_int.f t156).bind fun t162 => ((slices_Clone_int_int.f t156).bind fun t165 => ((impl_numberer_visit.f k l0 t159 t162 t165 0 0 0).bind fun bt169 => (if bt169.2.1 > 15 then (some (([] : List Int), ([] : List Int), ([] : List Int), false)) else (some (bt169.2.2.1, bt169.2.2.2.1, bt169.2.2.2.2, true)))))))) = some (r1, r2, r3, r4) := by rw [if_pos rfl] at H; exact H
  clear H
  have H := H1
  clear H1
  obtain ⟨y153, hy153⟩ : ∃ y_ : List Int, y_ = (([(-1)] : List Int)) := ⟨_, rfl⟩
  replace H : ((slices_Repeat_int_int.f y153 (l0.length : Int)).bind fun t156 => ((slices_Clone_int_int.f t156).bind fun t159 => ((slices_Clone_int_int.f t156).bind fun t162 => ((slices_Clone_int_int.f t156).bind fun t165 => ((impl_numberer_visit.f k l0 t159 t162 t165 0 0 0).bind fun bt169 => (if bt169.2.1 > 15 then (some (([] : List Int), ([] : List Int), ([] : List Int), false)) else (some (bt169.2.2.1, bt169.2.2.2.1, bt169.2.2.2.2, true)))))))) = some (r1, r2, r3, r4) := by first | (rw [hy153]; with_reducible exact H) | (have H2_ := (Option.bind_some _ _).symm.trans H; rw [hy153]; with_reducible exact H2_) | (have H2_ := (Option.bind_some _ _).symm.trans H; with_reducible exact H2_) | with_reducible exact H | (rw [hy153]; exact H) | exact H
  have Ny153 := Aside0.mk hy153
  clear hy153
  replace H := Option.bind_eq_some_iff.mp H
  obtain ⟨t156, A40, H⟩ := H
  replace H : ((slices_Clone_int_int.f t156).bind fun t159 => ((slices_Clone_int_int.f t156).bind fun t162 => ((slices_Clone_int_int.f t156).bind fun t165 => ((impl_numberer_visit.f k l0 t159 t162 t165 0 0 0).bind fun bt169 => (if bt169.2.1 > 15 then (some (([] : List Int), ([] : List Int), ([] : List Int), false)) else (some (bt169.2.2.1, bt169.2.2.2.1, bt169.2.2.2.2, true))))))) = some (r1, r2, r3, r4) := H
  have A4 := Aside0.mk A40
  clear A40
  replace H := Option.bind_eq_some_iff.mp H
  obtain ⟨t159, A50, H⟩ := H
  replace H : ((slices_Clone_int_int.f t156).bind fun t162 => ((slices_Clone_int_int.f t156).bind fun t165 => ((impl_numberer_visit.f k l0 t159 t162 t165 0 0 0).bind fun bt169 => (if bt169.2.1 > 15 then (some (([] : List Int), ([] : List Int), ([] : List Int), false)) else (some (bt169.2.2.1, bt169.2.2.2.1, bt169.2.2.2.2, true)))))) = some (r1, r2, r3, r4) := H
  have A5 := Aside0.mk A50
  clear A50
  replace H := Option.bind_eq_some_iff.mp H
  obtain ⟨t162, A60, H⟩ := H
  replace H : ((slices_Clone_int_int.f t156).bind fun t165 => ((impl_numberer_visit.f k l0 t159 t162 t165 0 0 0).bind fun bt169 => (if bt169.2.1 > 15 then (some (([] : List Int), ([] : List Int), ([] : List Int), false)) else (some (bt169.2.2.1, bt169.2.2.2.1, bt169.2.2.2.2, true))))) = some (r1, r2, r3, r4) := H
  have A6 := Aside0.mk A60
  clear A60
  replace H := Option.bind_eq_some_iff.mp H
  obtain ⟨t165, A70, H⟩ := H
  replace H : ((impl_numberer_visit.f k l0 t159 t162 t165 0 0 0).bind fun bt169 => (if bt169.2.1 > 15 then (some (([] : List Int), ([] : List Int), ([] : List Int), false)) else (some (bt169.2.2.1, bt169.2.2.2.1, bt169.2.2.2.2, true)))) = some (r1, r2, r3, r4) := H
  have A7 := Aside0.mk A70
  clear A70
  replace H := Option.bind_eq_some_iff.mp H
  obtain ⟨⟨t169, t170, t171, t172, t173⟩, A80, H⟩ := H
  replace H : (if t170 > 15 then (some (([] : List Int), ([] : List Int), ([] : List Int), false)) else (some (t171, t172, t173, true))) = some (r1, r2, r3, r4) := H
  have A8 := Aside0.mk A80
  clear A80
  by_cases c9 : t170 > 15
  ·rw [if_pos c9] at H
   have c9b0 : decide (15 < t170) = true := decide_eq_true c9
   clear c9
   simp only [Option.some.injEq, Prod.mk.injEq] at H
   obtain ⟨rfl, rfl, rfl, rfl⟩ := H
   go_enter Try.func42, Try.ntmps42
   go_wp2_with (first | ((with_reducible refine gate_dst (N := 2) rfl ?_); refine box_event ?hg (N := 2) ?hd (cs := #[.slice none 0 0, .slice none 0 0, .slice none 0 0]) (t := 31) ?hr ?_; (case hd => rfl); (case hg => rfl); (case hr => first | (go_simp; done) | (go_simp; rfl)); intro gb151 hg w10 hbox hb; have t_ := fc4 (below_step bb hb) (hbox) (bg hg : w.heap.size ≤ gb151) (bg hg : w.heap.size ≤ gb151); clear HB; obtain ⟨HB, BK151, GW151, GE151⟩ := t_; clear hb hbox hg) | ((with_reducible refine gate_callee (f := 40) rfl ?_); refine goesL_ (some 7) rfl rfl Try.func40 (by kernel_rfl) rfl #[.slice A0 l0.length c0] rfl ms ?_; (with_reducible refine (impl_TreeOk.calls k _ _ l0 true _ ?side1 ?side2 A2.out).mono ?_); (case side1 => exact kc); (case side2 => exact HC0.out); rintro e w11 ⟨rfl, hb⟩; refine ⟨_, rfl, ?_⟩; have t_ := fc2 (bw BK151 hb) (below_step bb hb); clear BK151 HB; obtain ⟨BK151, HB⟩ := t_; (try clear hb); (try clear hk); (try clear hi)) | ((with_reducible refine gate_dst (N := 10) rfl ?_); refine Kd.R_lit (Kd.int .i64) _ 3 ?hg (N := 10) ?hd (xs := ([(-1)] : List Int)) (inner := [.int .i64 (-1)]) (ok := fun _ => True) (okp := fun _ => True) ?hr ?hp (fun _ hk => hk) trivial (Below.refl _ _) (Nat.le_refl _) (by simp) ?_; (case hd => rfl); (case hg => rfl); (case hr => first | (go_simp; done) | (go_simp; rfl)); (case hp => exact (Reps.one (show Kd.M (Kd.int .i64) _ _ _ (-1) [.int .i64 (-1)] from rfl) (Reps.none _ _))); intro v154 w12 ho13 hb hg_ hnew_; clear hg_ hnew_; (first | rw [← Ny153.out] at ho13 | (simp only [Int.reduceToNat] at ho13; rw [← Ny153.out] at ho13)); have t_ := fc3 (Kd.R_lower ho13 (below_size bb)) (bw BK151 hb) (below_step bb hb); clear BK151 HB; obtain ⟨HO155, BK151, HB⟩ := t_; clear hb ho13; obtain ⟨Ao14, co14, eo14⟩ := Kd.R_slice HO155.out; subst eo14) | ((with_reducible refine gate_callee (f := 98) rfl ?_); refine goesL_ (some 13) rfl rfl Try.func98 (by kernel_rfl) rfl #[.slice Ao14 y153.length co14, .int .i64 (l0.length : Int)] rfl ms ?_; (with_reducible refine (slices_Repeat_int_int.calls _ _ y153 (l0.length : Int) t156 _ ?side1 ?side2 A4.out).mono ?_); (case side1 => repeat (first | exact (Kd.R_reads' HO155.out).2.2 | (with_reducible refine Kd.C_alloc ?_ _) | (with_reducible refine Kd.C_drewN ?_ _) | (with_reducible refine Kd.C_drew ?_))); (case side2 => exact (Kd.R_reads' HO155.out).2.1); rintro e w15 ⟨v157, rfl, ho0, hb⟩; refine ⟨_, rfl, ?_⟩; have t_ := fc4 (Kd.R_elder' (ra HO155.out) (Kd.R_base ho0) hb) (Kd.R_lower (Kd.R_new' ho0 (Kd.R_lt (ra HO155.out))) (below_size bb)) (bw BK151 hb) (below_step bb hb); clear HO155 BK151 HB; obtain ⟨HO155, HO158, BK151, HB⟩ := t_; (try clear hb); (try clear hk); (try clear hi); (try clear ho0); obtain ⟨Ao16, co16, eo16⟩ := Kd.R_slice HO158.out; subst eo16) | ((with_reducible refine gate_callee (f := 99) rfl ?_); refine goesL_ (some 16) rfl rfl Try.func99 (by kernel_rfl) rfl #[.slice Ao16 t156.length co16] rfl ms ?_; (with_reducible refine (slices_Clone_int_int.calls _ _ t156 t159 _ ?side1 ?side2 A5.out).mono ?_); (case side1 => repeat (first | exact (Kd.R_reads' HO158.out).2.2 | (with_reducible refine Kd.C_alloc ?_ _) | (with_reducible refine Kd.C_drewN ?_ _) | (with_reducible refine Kd.C_drew ?_))); (case side2 => exact (Kd.R_reads' HO158.out).2.1); rintro e w17 ⟨v160, rfl, ho0, hb⟩; refine ⟨_, rfl, ?_⟩; have t_ := fc5 (Kd.R_elder' (ra HO155.out) (Kd.R_base ho0) hb) (Kd.R_elder' (ra HO158.out) (Kd.R_base ho0) hb) (Kd.R_lower (Kd.R_new' (Kd.R_new' ho0 (Kd.R_lt (ra HO155.out))) (Kd.R_lt (ra HO158.out))) (below_size bb)) (bw BK151 hb) (below_step bb hb); clear HO155 HO158 BK151 HB; obtain ⟨HO155, HO158, HO161, BK151, HB⟩ := t_; (try clear hb); (try clear hk); (try clear hi); (try clear ho0)) | ((with_reducible refine gate_callee (f := 99) rfl ?_); refine goesL_ (some 18) rfl rfl Try.func99 (by kernel_rfl) rfl #[.slice Ao16 t156.length co16] rfl ms ?_; (with_reducible refine (slices_Clone_int_int.calls _ _ t156 t162 _ ?side1 ?side2 A6.out).mono ?_); (case side1 => repeat (first | exact (Kd.R_reads' HO158.out).2.2 | (with_reducible refine Kd.C_alloc ?_ _) | (with_reducible refine Kd.C_drewN ?_ _) | (with_reducible refine Kd.C_drew ?_))); (case side2 => exact (Kd.R_reads' HO158.out).2.1); rintro e w18 ⟨v163, rfl, ho0, hb⟩; refine ⟨_, rfl, ?_⟩; have t_ := fc6 (Kd.R_elder' (ra HO155.out) (Kd.R_base ho0) hb) (Kd.R_elder' (ra HO158.out) (Kd.R_base ho0) hb) (Kd.R_elder' (ra HO161.out) (Kd.R_base ho0) hb) (Kd.R_lower (Kd.R_new' (Kd.R_new' (Kd.R_new' ho0 (Kd.R_lt (ra HO155.out))) (Kd.R_lt (ra HO158.out))) (Kd.R_lt (ra HO161.out))) (below_size bb)) (bw BK151 hb) (below_step bb hb); clear HO155 HO158 HO161 BK151 HB; obtain ⟨HO155, HO158, HO161, HO164, BK151, HB⟩ := t_; (try clear hb); (try clear hk); (try clear hi); (try clear ho0)) | ((with_reducible refine gate_callee (f := 99) rfl ?_); refine goesL_ (some 20) rfl rfl Try.func99 (by kernel_rfl) rfl #[.slice Ao16 t156.length co16] rfl ms ?_; (with_reducible refine (slices_Clone_int_int.calls _ _ t156 t165 _ ?side1 ?side2 A7.out).mono ?_); (case side1 => repeat (first | exact (Kd.R_reads' HO158.out).2.2 | (with_reducible refine Kd.C_alloc ?_ _) | (with_reducible refine Kd.C_drewN ?_ _) | (with_reducible refine Kd.C_drew ?_))); (case side2 => exact (Kd.R_reads' HO158.out).2.1); rintro e w19 ⟨v166, rfl, ho0, hb⟩; refine ⟨_, rfl, ?_⟩; have t_ := fc7 (Kd.R_elder' (ra HO155.out) (Kd.R_base ho0) hb) (Kd.R_elder' (ra HO158.out) (Kd.R_base ho0) hb) (Kd.R_elder' (ra HO161.out) (Kd.R_base ho0) hb) (Kd.R_elder' (ra HO164.out) (Kd.R_base ho0) hb) (Kd.R_lower (Kd.R_new' (Kd.R_new' (Kd.R_new' (Kd.R_new' ho0 (Kd.R_lt (ra HO155.out))) (Kd.R_lt (ra HO158.out))) (Kd.R_lt (ra HO161.out))) (Kd.R_lt (ra HO164.out))) (below_size bb)) (bw BK151 hb) (below_step bb hb); clear HO155 HO158 HO161 HO164 BK151 HB; obtain ⟨HO155, HO158, HO161, HO164, HO167, BK151, HB⟩ := t_; (try clear hb); (try clear hk); (try clear hi); (try clear ho0); obtain ⟨Ao20, co20, eo20⟩ := Kd.R_slice HO167.out; subst eo20; obtain ⟨Ao21, co21, eo21⟩ := Kd.R_slice HO164.out; subst eo21; obtain ⟨Ao22, co22, eo22⟩ := Kd.R_slice HO161.out; subst eo22) | ((with_reducible refine gate_dst (N := 23) rfl ?_); refine box_event ?hg (N := 23) ?hd (cs := #[.slice A0 l0.length c0, .slice Ao22 t159.length co22, .slice Ao21 t162.length co21, .slice Ao20 t165.length co20, .int .i64 0]) (t := 99) ?hr ?_; (case hd => rfl); (case hg => rfl); (case hr => first | (go_simp; done) | (go_simp; rfl)); intro gb168 hg w23 hbox hb; have t_ := fc12 (Kd.R_below (ra HO155.out) hb) (Kd.R_below (ra HO158.out) hb) (Kd.R_below (ra HO161.out) hb) (Kd.R_below (ra HO164.out) hb) (Kd.R_below (ra HO167.out) hb) (bw BK151 hb) (below_step bb hb) (hbox) (bg hg : w.heap.size ≤ gb168) (bg hg : w.heap.size ≤ gb168) ((nl BK151 hg : gb151 ≠ gb168)) ((ng BK151 hg : gb168 ≠ gb151)); clear HO155 HO158 HO161 HO164 HO167 BK151 HB; obtain ⟨HO155, HO158, HO161, HO164, HO167, BK151, HB, BK168, GW168, GE168, NB151_168, NB168_151⟩ := t_; clear hb hbox hg) | ((with_reducible refine gate_callee (f := 100) rfl ?_); refine goesL_ (some 25) rfl rfl Try.func100 (by kernel_rfl) rfl #[.pointer (some ⟨gb168, 0, none⟩), .int .i64 0, .int .i64 0] rfl ms ?_; (with_reducible refine (impl_numberer_visit.calls k gb168 A0 c0 l0 (fun k_ => some k_ = (.slice Ao22 t159.length co22 : Value).ownBlock) (.slice Ao22 t159.length co22) t159 (fun k_ => some k_ = (.slice Ao21 t162.length co21 : Value).ownBlock) (.slice Ao21 t162.length co21) t162 (fun k_ => some k_ = (.slice Ao20 t165.length co20 : Value).ownBlock) (.slice Ao20 t165.length co20) t165 0 0 0 t169 t170 t171 t172 t173 w _ ?side1 ?side2 ?side3 ?side4 ?side5 ?side6 ?side7 ?side8 ?side9 ?side10 ?side11 ?side12 ?side13 ?side14 A8.out).mono ?_); (case side1 => exact bb); (case side2 => exact Kd.C_kept_came k50_heap HR0.out bb (fun k_ hs_ => Or.elim hs_ (fun hs_ => Or.elim hs_ (fun e_ => (fun e_ => Kd.R_base HO161.out k_ e_.symm) e_) (fun e_ => Or.elim e_ (fun e_ => (fun e_ => Kd.R_base HO164.out k_ e_.symm) e_) (fun e_ => (fun e_ => Kd.R_base HO167.out k_ e_.symm) e_))) (fun e_ => (by rw [e_]; exact GW168.out)))); (case side3 => exact HC0.out); (case side4 => exact Kd.R_tight rfl HO161.out); (case side5 => exact fun k_ e_ => (HO161.out.1 k_ e_.symm).1.2); (case side6 => exact fun k_ e_ => (HO161.out.1 k_ e_.symm).2); (case side7 => exact Kd.R_tight rfl HO164.out); (case side8 => exact fun k_ e_ => (HO164.out.1 k_ e_.symm).1.2); (case side9 => exact fun k_ e_ => (HO164.out.1 k_ e_.symm).2); (case side10 => exact Kd.R_tight rfl HO167.out); (case side11 => exact fun k_ e_ => (HO167.out.1 k_ e_.symm).1.2); (case side12 => exact fun k_ e_ => (HO167.out.1 k_ e_.symm).2); (case side13 => exact bk); (case side14 => exact GE168.out); rintro e w24 ⟨rfl, hi, hy0, hy1, hy2, hb, hkp⟩; refine ⟨_, rfl, ?_⟩; have t_ := fc8 (blk_kept bk hkp (fun hs_ => Or.elim hs_ (fun hs_ => Or.elim hs_ (fun e_ => (fun e_ => (Kd.R_ne HO161.out BK151.out (by decide)) e_) e_) (fun e_ => Or.elim e_ (fun e_ => (fun e_ => (Kd.R_ne HO164.out BK151.out (by decide)) e_) e_) (fun e_ => (fun e_ => (Kd.R_ne HO167.out BK151.out (by decide)) e_) e_))) (fun e_ => NB151_168.out e_))) (Kd.R_mono (ok' := fun k_ => some k_ ≠ (.slice Ao16 t156.length co16 : Value).ownBlock ∧ some k_ ≠ (.slice Ao22 t159.length co22 : Value).ownBlock ∧ some k_ ≠ (.slice Ao21 t162.length co21 : Value).ownBlock ∧ some k_ ≠ (.slice Ao20 t165.length co20 : Value).ownBlock) (Kd.R_keptB ((Kd.R_types HO155.out BK168.out (by decide))) hkp (fun k_ hk_ hs_ => Or.elim hs_ (fun hs_ => Or.elim hs_ (fun e_ => (hk_.1.1.1.2) e_) (fun e_ => Or.elim e_ (fun e_ => (hk_.1.1.2) e_) (fun e_ => (hk_.1.2) e_))) (fun e_ => (hk_.2) e_))) (fun k_ hk_ => by first | exact ⟨hk_.1.1.1.1.1.2, hk_.1.1.1.1.2, hk_.1.1.1.2, hk_.1.1.2⟩ | simp only [ne_eq, hk_, not_false_eq_true, and_self, true_and, and_true])) (Kd.R_mono (ok' := fun k_ => some k_ ≠ (.slice Ao14 y153.length co14 : Value).ownBlock ∧ some k_ ≠ (.slice Ao22 t159.length co22 : Value).ownBlock ∧ some k_ ≠ (.slice Ao21 t162.length co21 : Value).ownBlock ∧ some k_ ≠ (.slice Ao20 t165.length co20 : Value).ownBlock) (Kd.R_keptB ((Kd.R_types HO158.out BK168.out (by decide))) hkp (fun k_ hk_ hs_ => Or.elim hs_ (fun hs_ => Or.elim hs_ (fun e_ => (hk_.1.1.1.2) e_) (fun e_ => Or.elim e_ (fun e_ => (hk_.1.1.2) e_) (fun e_ => (hk_.1.2) e_))) (fun e_ => (hk_.2) e_))) (fun k_ hk_ => by first | exact ⟨hk_.1.1.1.1.1.2, hk_.1.1.1.1.2, hk_.1.1.1.2, hk_.1.1.2⟩ | simp only [ne_eq, hk_, not_false_eq_true, and_self, true_and, and_true])) (Kd.R_reok rfl hy0 (fun k_ e_ => HO161.out.1 k_ e_)) (Kd.R_reok rfl hy1 (fun k_ e_ => HO164.out.1 k_ e_)) (Kd.R_reok rfl hy2 (fun k_ e_ => HO167.out.1 k_ e_)) (hi) (hb); clear BK151 HO155 HO158 HO161 HO164 HO167 BK168 HB; obtain ⟨BK151, HO155, HO158, HO161, HO164, HO167, BK168, HB⟩ := t_; (try clear hb); (try clear hkp); (try clear hy0); (try clear hy1); (try clear hy2); have hnb25 := NB168_151.out; have hnc25 := NB151_168.out; obtain ⟨hcz26_0, hcz26_1, hcz26_2, hcz26_3, hcz26_4, hfz26_0, hfz26_1, hfz26_2, hfz26_3, hfz26_4⟩ := bx5 BK168.out; obtain ⟨hcz27_0, hcz27_1, hcz27_2, hfz27_0, hfz27_1, hfz27_2⟩ := bx3 BK151.out))
   refine bodyPost_ret (results_ct rfl _ _ gb151 31 #[.slice none 0 0, .slice none 0 0, .slice none 0 0] (0, 0) _ rfl (by (with_reducible repeat (first | refine blk_drewN ?_ _ | refine blk_drew ?_ | refine blk_alloc ?_ _)); refine blk_put (cs := #[.slice none 0 0, .slice none 0 0, .slice none 0 0]) ?_ 2 _ rfl; (with_reducible repeat (first | refine blk_drewN ?_ _ | refine blk_drew ?_ | refine blk_alloc ?_ _)); refine blk_put (cs := #[.slice none 0 0, .slice none 0 0, .slice none 0 0]) ?_ 1 _ rfl; (with_reducible repeat (first | refine blk_drewN ?_ _ | refine blk_drew ?_ | refine blk_alloc ?_ _)); refine blk_put (cs := #[.slice none 0 0, .slice none 0 0, .slice none 0 0]) ?_ 0 _ rfl; exact bk) Try.underlying31 rfl (by kernel_rfl)) rfl ?_
   exact ⟨_, _, _, er, by first | exact Kd.R_nil _ _ _ _ _ | exact Kd.N_nil _ _ _ _ _ | exact Kd.V_nil _ _ _ _ _ | exact Kd.Q_nil _ _ _ _ _ | exact Kd.S_nil _ _ _ _ _, by first | exact Kd.R_nil _ _ _ _ _ | exact Kd.N_nil _ _ _ _ _ | exact Kd.V_nil _ _ _ _ _ | exact Kd.Q_nil _ _ _ _ _ | exact Kd.S_nil _ _ _ _ _, by first | exact Kd.R_nil _ _ _ _ _ | exact Kd.N_nil _ _ _ _ _ | exact Kd.V_nil _ _ _ _ _ | exact Kd.Q_nil _ _ _ _ _ | exact Kd.S_nil _ _ _ _ _, bb⟩
  ·rw [if_neg c9] at H
   have c9b0 : decide (15 < t170) = false := decide_eq_false c9
   clear c9
   simp only [Option.some.injEq, Prod.mk.injEq] at H
   obtain ⟨rfl, rfl, rfl, rfl⟩ := H
   go_enter Try.func42, Try.ntmps42
   go_wp2_with (first | ((with_reducible refine gate_dst (N := 2) rfl ?_); refine box_event ?hg (N := 2) ?hd (cs := #[.slice none 0 0, .slice none 0 0, .slice none 0 0]) (t := 31) ?hr ?_; (case hd => rfl); (case hg => rfl); (case hr => first | (go_simp; done) | (go_simp; rfl)); intro gb151 hg w28 hbox hb; have t_ := fc4 (below_step bb hb) (hbox) (bg hg : w.heap.size ≤ gb151) (bg hg : w.heap.size ≤ gb151); clear HB; obtain ⟨HB, BK151, GW151, GE151⟩ := t_; clear hb hbox hg) | ((with_reducible refine gate_callee (f := 40) rfl ?_); refine goesL_ (some 7) rfl rfl Try.func40 (by kernel_rfl) rfl #[.slice A0 l0.length c0] rfl ms ?_; (with_reducible refine (impl_TreeOk.calls k _ _ l0 true _ ?side1 ?side2 A2.out).mono ?_); (case side1 => exact kc); (case side2 => exact HC0.out); rintro e w29 ⟨rfl, hb⟩; refine ⟨_, rfl, ?_⟩; have t_ := fc2 (bw BK151 hb) (below_step bb hb); clear BK151 HB; obtain ⟨BK151, HB⟩ := t_; (try clear hb); (try clear hk); (try clear hi)) | ((with_reducible refine gate_dst (N := 10) rfl ?_); refine Kd.R_lit (Kd.int .i64) _ 3 ?hg (N := 10) ?hd (xs := ([(-1)] : List Int)) (inner := [.int .i64 (-1)]) (ok := fun _ => True) (okp := fun _ => True) ?hr ?hp (fun _ hk => hk) trivial (Below.refl _ _) (Nat.le_refl _) (by simp) ?_; (case hd => rfl); (case hg => rfl); (case hr => first | (go_simp; done) | (go_simp; rfl)); (case hp => exact (Reps.one (show Kd.M (Kd.int .i64) _ _ _ (-1) [.int .i64 (-1)] from rfl) (Reps.none _ _))); intro v154 w30 ho31 hb hg_ hnew_; clear hg_ hnew_; (first | rw [← Ny153.out] at ho31 | (simp only [Int.reduceToNat] at ho31; rw [← Ny153.out] at ho31)); have t_ := fc3 (Kd.R_lower ho31 (below_size bb)) (bw BK151 hb) (below_step bb hb); clear BK151 HB; obtain ⟨HO155, BK151, HB⟩ := t_; clear hb ho31; obtain ⟨Ao32, co32, eo32⟩ := Kd.R_slice HO155.out; subst eo32) | ((with_reducible refine gate_callee (f := 98) rfl ?_); refine goesL_ (some 13) rfl rfl Try.func98 (by kernel_rfl) rfl #[.slice Ao32 y153.length co32, .int .i64 (l0.length : Int)] rfl ms ?_; (with_reducible refine (slices_Repeat_int_int.calls _ _ y153 (l0.length : Int) t156 _ ?side1 ?side2 A4.out).mono ?_); (case side1 => repeat (first | exact (Kd.R_reads' HO155.out).2.2 | (with_reducible refine Kd.C_alloc ?_ _) | (with_reducible refine Kd.C_drewN ?_ _) | (with_reducible refine Kd.C_drew ?_))); (case side2 => exact (Kd.R_reads' HO155.out).2.1); rintro e w33 ⟨v157, rfl, ho0, hb⟩; refine ⟨_, rfl, ?_⟩; have t_ := fc4 (Kd.R_elder' (ra HO155.out) (Kd.R_base ho0) hb) (Kd.R_lower (Kd.R_new' ho0 (Kd.R_lt (ra HO155.out))) (below_size bb)) (bw BK151 hb) (below_step bb hb); clear HO155 BK151 HB; obtain ⟨HO155, HO158, BK151, HB⟩ := t_; (try clear hb); (try clear hk); (try clear hi); (try clear ho0); obtain ⟨Ao34, co34, eo34⟩ := Kd.R_slice HO158.out; subst eo34) | ((with_reducible refine gate_callee (f := 99) rfl ?_); refine goesL_ (some 16) rfl rfl Try.func99 (by kernel_rfl) rfl #[.slice Ao34 t156.length co34] rfl ms ?_; (with_reducible refine (slices_Clone_int_int.calls _ _ t156 t159 _ ?side1 ?side2 A5.out).mono ?_); (case side1 => repeat (first | exact (Kd.R_reads' HO158.out).2.2 | (with_reducible refine Kd.C_alloc ?_ _) | (with_reducible refine Kd.C_drewN ?_ _) | (with_reducible refine Kd.C_drew ?_))); (case side2 => exact (Kd.R_reads' HO158.out).2.1); rintro e w35 ⟨v160, rfl, ho0, hb⟩; refine ⟨_, rfl, ?_⟩; have t_ := fc5 (Kd.R_elder' (ra HO155.out) (Kd.R_base ho0) hb) (Kd.R_elder' (ra HO158.out) (Kd.R_base ho0) hb) (Kd.R_lower (Kd.R_new' (Kd.R_new' ho0 (Kd.R_lt (ra HO155.out))) (Kd.R_lt (ra HO158.out))) (below_size bb)) (bw BK151 hb) (below_step bb hb); clear HO155 HO158 BK151 HB; obtain ⟨HO155, HO158, HO161, BK151, HB⟩ := t_; (try clear hb); (try clear hk); (try clear hi); (try clear ho0)) | ((with_reducible refine gate_callee (f := 99) rfl ?_); refine goesL_ (some 18) rfl rfl Try.func99 (by kernel_rfl) rfl #[.slice Ao34 t156.length co34] rfl ms ?_; (with_reducible refine (slices_Clone_int_int.calls _ _ t156 t162 _ ?side1 ?side2 A6.out).mono ?_); (case side1 => repeat (first | exact (Kd.R_reads' HO158.out).2.2 | (with_reducible refine Kd.C_alloc ?_ _) | (with_reducible refine Kd.C_drewN ?_ _) | (with_reducible refine Kd.C_drew ?_))); (case side2 => exact (Kd.R_reads' HO158.out).2.1); rintro e w36 ⟨v163, rfl, ho0, hb⟩; refine ⟨_, rfl, ?_⟩; have t_ := fc6 (Kd.R_elder' (ra HO155.out) (Kd.R_base ho0) hb) (Kd.R_elder' (ra HO158.out) (Kd.R_base ho0) hb) (Kd.R_elder' (ra HO161.out) (Kd.R_base ho0) hb) (Kd.R_lower (Kd.R_new' (Kd.R_new' (Kd.R_new' ho0 (Kd.R_lt (ra HO155.out))) (Kd.R_lt (ra HO158.out))) (Kd.R_lt (ra HO161.out))) (below_size bb)) (bw BK151 hb) (below_step bb hb); clear HO155 HO158 HO161 BK151 HB; obtain ⟨HO155, HO158, HO161, HO164, BK151, HB⟩ := t_; (try clear hb); (try clear hk); (try clear hi); (try clear ho0)) | ((with_reducible refine gate_callee (f := 99) rfl ?_); refine goesL_ (some 20) rfl rfl Try.func99 (by kernel_rfl) rfl #[.slice Ao34 t156.length co34] rfl ms ?_; (with_reducible refine (slices_Clone_int_int.calls _ _ t156 t165 _ ?side1 ?side2 A7.out).mono ?_); (case side1 => repeat (first | exact (Kd.R_reads' HO158.out).2.2 | (with_reducible refine Kd.C_alloc ?_ _) | (with_reducible refine Kd.C_drewN ?_ _) | (with_reducible refine Kd.C_drew ?_))); (case side2 => exact (Kd.R_reads' HO158.out).2.1); rintro e w37 ⟨v166, rfl, ho0, hb⟩; refine ⟨_, rfl, ?_⟩; have t_ := fc7 (Kd.R_elder' (ra HO155.out) (Kd.R_base ho0) hb) (Kd.R_elder' (ra HO158.out) (Kd.R_base ho0) hb) (Kd.R_elder' (ra HO161.out) (Kd.R_base ho0) hb) (Kd.R_elder' (ra HO164.out) (Kd.R_base ho0) hb) (Kd.R_lower (Kd.R_new' (Kd.R_new' (Kd.R_new' (Kd.R_new' ho0 (Kd.R_lt (ra HO155.out))) (Kd.R_lt (ra HO158.out))) (Kd.R_lt (ra HO161.out))) (Kd.R_lt (ra HO164.out))) (below_size bb)) (bw BK151 hb) (below_step bb hb); clear HO155 HO158 HO161 HO164 BK151 HB; obtain ⟨HO155, HO158, HO161, HO164, HO167, BK151, HB⟩ := t_; (try clear hb); (try clear hk); (try clear hi); (try clear ho0); obtain ⟨Ao38, co38, eo38⟩ := Kd.R_slice HO167.out; subst eo38; obtain ⟨Ao39, co39, eo39⟩ := Kd.R_slice HO164.out; subst eo39; obtain ⟨Ao40, co40, eo40⟩ := Kd.R_slice HO161.out; subst eo40) | ((with_reducible refine gate_dst (N := 23) rfl ?_); refine box_event ?hg (N := 23) ?hd (cs := #[.slice A0 l0.length c0, .slice Ao40 t159.length co40, .slice Ao39 t162.length co39, .slice Ao38 t165.length co38, .int .i64 0]) (t := 99) ?hr ?_; (case hd => rfl); (case hg => rfl); (case hr => first | (go_simp; done) | (go_simp; rfl)); intro gb168 hg w41 hbox hb; have t_ := fc12 (Kd.R_below (ra HO155.out) hb) (Kd.R_below (ra HO158.out) hb) (Kd.R_below (ra HO161.out) hb) (Kd.R_below (ra HO164.out) hb) (Kd.R_below (ra HO167.out) hb) (bw BK151 hb) (below_step bb hb) (hbox) (bg hg : w.heap.size ≤ gb168) (bg hg : w.heap.size ≤ gb168) ((nl BK151 hg : gb151 ≠ gb168)) ((ng BK151 hg : gb168 ≠ gb151)); clear HO155 HO158 HO161 HO164 HO167 BK151 HB; obtain ⟨HO155, HO158, HO161, HO164, HO167, BK151, HB, BK168, GW168, GE168, NB151_168, NB168_151⟩ := t_; clear hb hbox hg) | ((with_reducible refine gate_callee (f := 100) rfl ?_); refine goesL_ (some 25) rfl rfl Try.func100 (by kernel_rfl) rfl #[.pointer (some ⟨gb168, 0, none⟩), .int .i64 0, .int .i64 0] rfl ms ?_; (with_reducible refine (impl_numberer_visit.calls k gb168 A0 c0 l0 (fun k_ => some k_ = (.slice Ao40 t159.length co40 : Value).ownBlock) (.slice Ao40 t159.length co40) t159 (fun k_ => some k_ = (.slice Ao39 t162.length co39 : Value).ownBlock) (.slice Ao39 t162.length co39) t162 (fun k_ => some k_ = (.slice Ao38 t165.length co38 : Value).ownBlock) (.slice Ao38 t165.length co38) t165 0 0 0 t169 t170 t171 t172 t173 w _ ?side1 ?side2 ?side3 ?side4 ?side5 ?side6 ?side7 ?side8 ?side9 ?side10 ?side11 ?side12 ?side13 ?side14 A8.out).mono ?_); (case side1 => exact bb); (case side2 => exact Kd.C_kept_came k50_heap HR0.out bb (fun k_ hs_ => Or.elim hs_ (fun hs_ => Or.elim hs_ (fun e_ => (fun e_ => Kd.R_base HO161.out k_ e_.symm) e_) (fun e_ => Or.elim e_ (fun e_ => (fun e_ => Kd.R_base HO164.out k_ e_.symm) e_) (fun e_ => (fun e_ => Kd.R_base HO167.out k_ e_.symm) e_))) (fun e_ => (by rw [e_]; exact GW168.out)))); (case side3 => exact HC0.out); (case side4 => exact Kd.R_tight rfl HO161.out); (case side5 => exact fun k_ e_ => (HO161.out.1 k_ e_.symm).1.2); (case side6 => exact fun k_ e_ => (HO161.out.1 k_ e_.symm).2); (case side7 => exact Kd.R_tight rfl HO164.out); (case side8 => exact fun k_ e_ => (HO164.out.1 k_ e_.symm).1.2); (case side9 => exact fun k_ e_ => (HO164.out.1 k_ e_.symm).2); (case side10 => exact Kd.R_tight rfl HO167.out); (case side11 => exact fun k_ e_ => (HO167.out.1 k_ e_.symm).1.2); (case side12 => exact fun k_ e_ => (HO167.out.1 k_ e_.symm).2); (case side13 => exact bk); (case side14 => exact GE168.out); rintro e w42 ⟨rfl, hi, hy0, hy1, hy2, hb, hkp⟩; refine ⟨_, rfl, ?_⟩; have t_ := fc8 (blk_kept bk hkp (fun hs_ => Or.elim hs_ (fun hs_ => Or.elim hs_ (fun e_ => (fun e_ => (Kd.R_ne HO161.out BK151.out (by decide)) e_) e_) (fun e_ => Or.elim e_ (fun e_ => (fun e_ => (Kd.R_ne HO164.out BK151.out (by decide)) e_) e_) (fun e_ => (fun e_ => (Kd.R_ne HO167.out BK151.out (by decide)) e_) e_))) (fun e_ => NB151_168.out e_))) (Kd.R_mono (ok' := fun k_ => some k_ ≠ (.slice Ao34 t156.length co34 : Value).ownBlock ∧ some k_ ≠ (.slice Ao40 t159.length co40 : Value).ownBlock ∧ some k_ ≠ (.slice Ao39 t162.length co39 : Value).ownBlock ∧ some k_ ≠ (.slice Ao38 t165.length co38 : Value).ownBlock) (Kd.R_keptB ((Kd.R_types HO155.out BK168.out (by decide))) hkp (fun k_ hk_ hs_ => Or.elim hs_ (fun hs_ => Or.elim hs_ (fun e_ => (hk_.1.1.1.2) e_) (fun e_ => Or.elim e_ (fun e_ => (hk_.1.1.2) e_) (fun e_ => (hk_.1.2) e_))) (fun e_ => (hk_.2) e_))) (fun k_ hk_ => by first | exact ⟨hk_.1.1.1.1.1.2, hk_.1.1.1.1.2, hk_.1.1.1.2, hk_.1.1.2⟩ | simp only [ne_eq, hk_, not_false_eq_true, and_self, true_and, and_true])) (Kd.R_mono (ok' := fun k_ => some k_ ≠ (.slice Ao32 y153.length co32 : Value).ownBlock ∧ some k_ ≠ (.slice Ao40 t159.length co40 : Value).ownBlock ∧ some k_ ≠ (.slice Ao39 t162.length co39 : Value).ownBlock ∧ some k_ ≠ (.slice Ao38 t165.length co38 : Value).ownBlock) (Kd.R_keptB ((Kd.R_types HO158.out BK168.out (by decide))) hkp (fun k_ hk_ hs_ => Or.elim hs_ (fun hs_ => Or.elim hs_ (fun e_ => (hk_.1.1.1.2) e_) (fun e_ => Or.elim e_ (fun e_ => (hk_.1.1.2) e_) (fun e_ => (hk_.1.2) e_))) (fun e_ => (hk_.2) e_))) (fun k_ hk_ => by first | exact ⟨hk_.1.1.1.1.1.2, hk_.1.1.1.1.2, hk_.1.1.1.2, hk_.1.1.2⟩ | simp only [ne_eq, hk_, not_false_eq_true, and_self, true_and, and_true])) (Kd.R_reok rfl hy0 (fun k_ e_ => HO161.out.1 k_ e_)) (Kd.R_reok rfl hy1 (fun k_ e_ => HO164.out.1 k_ e_)) (Kd.R_reok rfl hy2 (fun k_ e_ => HO167.out.1 k_ e_)) (hi) (hb); clear BK151 HO155 HO158 HO161 HO164 HO167 BK168 HB; obtain ⟨BK151, HO155, HO158, HO161, HO164, HO167, BK168, HB⟩ := t_; (try clear hb); (try clear hkp); (try clear hy0); (try clear hy1); (try clear hy2); have hnb43 := NB168_151.out; have hnc43 := NB151_168.out; obtain ⟨hcz44_0, hcz44_1, hcz44_2, hcz44_3, hcz44_4, hfz44_0, hfz44_1, hfz44_2, hfz44_3, hfz44_4⟩ := bx5 BK168.out; obtain ⟨hcz45_0, hcz45_1, hcz45_2, hfz45_0, hfz45_1, hfz45_2⟩ := bx3 BK151.out))
   refine bodyPost_ret (results_ct rfl _ _ gb151 31 #[.slice Ao40 t159.length co40, .slice Ao39 t162.length co39, .slice Ao38 t165.length co38] (0, 0) _ rfl (by (with_reducible repeat (first | refine blk_drewN ?_ _ | refine blk_drew ?_ | refine blk_alloc ?_ _)); refine blk_put (cs := #[.slice Ao40 t159.length co40, .slice Ao39 t162.length co39, .slice none 0 0]) ?_ 2 _ rfl; (with_reducible repeat (first | refine blk_drewN ?_ _ | refine blk_drew ?_ | refine blk_alloc ?_ _)); refine blk_put (cs := #[.slice Ao40 t159.length co40, .slice none 0 0, .slice none 0 0]) ?_ 1 _ rfl; (with_reducible repeat (first | refine blk_drewN ?_ _ | refine blk_drew ?_ | refine blk_alloc ?_ _)); refine blk_put (cs := #[.slice none 0 0, .slice none 0 0, .slice none 0 0]) ?_ 0 _ rfl; exact bk) Try.underlying31 rfl (by kernel_rfl)) rfl ?_
   exact ⟨_, _, _, er, by (with_reducible repeat (first | apply Kd.R_alloc | apply Kd.R_drewN | apply Kd.R_drew)); exact Kd.R_mono (Kd.R_far (p := ⟨gb151, 2, none⟩) (Kd.R_far (p := ⟨gb151, 1, none⟩) (Kd.R_far (p := ⟨gb151, 0, none⟩) (Kd.R_types HO161.out BK151.out (by decide)) fk (.slice Ao40 t159.length co40)) fk (.slice Ao39 t162.length co39)) fk (.slice Ao38 t165.length co38)) (fun _ hk => (And.intro (hk.1.1.2) (hk.1.2))), by (with_reducible repeat (first | apply Kd.R_alloc | apply Kd.R_drewN | apply Kd.R_drew)); exact Kd.R_mono (Kd.R_far (p := ⟨gb151, 2, none⟩) (Kd.R_far (p := ⟨gb151, 1, none⟩) (Kd.R_far (p := ⟨gb151, 0, none⟩) (Kd.R_types HO164.out BK151.out (by decide)) fk (.slice Ao40 t159.length co40)) fk (.slice Ao39 t162.length co39)) fk (.slice Ao38 t165.length co38)) (fun _ hk => (And.intro (hk.1.1.2) (hk.1.2))), by (with_reducible repeat (first | apply Kd.R_alloc | apply Kd.R_drewN | apply Kd.R_drew)); exact Kd.R_mono (Kd.R_far (p := ⟨gb151, 2, none⟩) (Kd.R_far (p := ⟨gb151, 1, none⟩) (Kd.R_far (p := ⟨gb151, 0, none⟩) (Kd.R_types HO167.out BK151.out (by decide)) fk (.slice Ao40 t159.length co40)) fk (.slice Ao39 t162.length co39)) fk (.slice Ao38 t165.length co38)) (fun _ hk => (And.intro (hk.1.1.2) (hk.1.2))), bb⟩
 ·replace c3 := Bool.eq_false_iff.mpr c3
  subst c3
  have H1 : (some (([] : List Int), ([] : List Int), ([] : List Int), false)) = some (r1, r2, r3, r4) := by rw [if_neg (show ¬ (false = true) by decide)] at H; exact H
  clear H
  have H := H1
  clear H1
  simp only [Option.some.injEq, Prod.mk.injEq] at H
  obtain ⟨rfl, rfl, rfl, rfl⟩ := H
  go_enter Try.func42, Try.ntmps42
  go_wp2_with (first | ((with_reducible refine gate_dst (N := 2) rfl ?_); refine box_event ?hg (N := 2) ?hd (cs := #[.slice none 0 0, .slice none 0 0, .slice none 0 0]) (t := 31) ?hr ?_; (case hd => rfl); (case hg => rfl); (case hr => first | (go_simp; done) | (go_simp; rfl)); intro gb151 hg w46 hbox hb; have t_ := fc4 (below_step bb hb) (hbox) (bg hg : w.heap.size ≤ gb151) (bg hg : w.heap.size ≤ gb151); clear HB; obtain ⟨HB, BK151, GW151, GE151⟩ := t_; clear hb hbox hg) | ((with_reducible refine gate_callee (f := 40) rfl ?_); refine goesL_ (some 7) rfl rfl Try.func40 (by kernel_rfl) rfl #[.slice A0 l0.length c0] rfl ms ?_; (with_reducible refine (impl_TreeOk.calls k _ _ l0 false _ ?side1 ?side2 A2.out).mono ?_); (case side1 => exact kc); (case side2 => exact HC0.out); rintro e w47 ⟨rfl, hb⟩; refine ⟨_, rfl, ?_⟩; have t_ := fc2 (bw BK151 hb) (below_step bb hb); clear BK151 HB; obtain ⟨BK151, HB⟩ := t_; (try clear hb); (try clear hk); (try clear hi); obtain ⟨hcz48_0, hcz48_1, hcz48_2, hfz48_0, hfz48_1, hfz48_2⟩ := bx3 BK151.out))
  refine bodyPost_ret (results_ct rfl _ _ gb151 31 #[.slice none 0 0, .slice none 0 0, .slice none 0 0] (0, 0) _ rfl (by (with_reducible repeat (first | refine blk_drewN ?_ _ | refine blk_drew ?_ | refine blk_alloc ?_ _)); refine blk_put (cs := #[.slice none 0 0, .slice none 0 0, .slice none 0 0]) ?_ 2 _ rfl; (with_reducible repeat (first | refine blk_drewN ?_ _ | refine blk_drew ?_ | refine blk_alloc ?_ _)); refine blk_put (cs := #[.slice none 0 0, .slice none 0 0, .slice none 0 0]) ?_ 1 _ rfl; (with_reducible repeat (first | refine blk_drewN ?_ _ | refine blk_drew ?_ | refine blk_alloc ?_ _)); refine blk_put (cs := #[.slice none 0 0, .slice none 0 0, .slice none 0 0]) ?_ 0 _ rfl; exact bk) Try.underlying31 rfl (by kernel_rfl)) rfl ?_
  exact ⟨_, _, _, er, by first | exact Kd.R_nil _ _ _ _ _ | exact Kd.N_nil _ _ _ _ _ | exact Kd.V_nil _ _ _ _ _ | exact Kd.Q_nil _ _ _ _ _ | exact Kd.S_nil _ _ _ _ _, by first | exact Kd.R_nil _ _ _ _ _ | exact Kd.N_nil _ _ _ _ _ | exact Kd.V_nil _ _ _ _ _ | exact Kd.Q_nil _ _ _ _ _ | exact Kd.S_nil _ _ _ _ _, by first | exact Kd.R_nil _ _ _ _ _ | exact Kd.N_nil _ _ _ _ _ | exact Kd.V_nil _ _ _ _ _ | exact Kd.Q_nil _ _ _ _ _ | exact Kd.S_nil _ _ _ _ _, bb⟩

/-! ### slices_Equal_int_int: function 121 -/
def slices_Equal_int_int.l0 : Nat → List Int → List Int → Int → Int → Option (Bool)
 | 0, _, _, _, _ => none
 | k + 1, x0, x1, x12, x13 => if x13 < x12 then (if 0 ≤ x13 then (if x13 < (x0.length : Int) then (if x13 < (x1.length : Int) then (if (rd x0 x13) = (rd x1 x13) then (slices_Equal_int_int.l0 k x0 x1 x12 (wrap64 (x13 + 1))) else (some false)) else (none)) else (none)) else (none)) else (some true)
def slices_Equal_int_int.f (k : Nat) (l0 : List Int) (l1 : List Int) : Option (Bool) := if (l0.length : Int) = (l1.length : Int) then (slices_Equal_int_int.l0 k l0 l1 (l0.length : Int) 0) else (some false)
set_option maxHeartbeats 8000000 in
set_option maxRecDepth 100000 in
theorem slices_Equal_int_int.calls (k : Nat) (A0 : Option Addr) (c0 : Nat) (l0 : List Int) (A1 : Option Addr) (c1 : Nat) (l1 : List Int) (r : Bool) (w : World) (hr0 : Kd.C (Kd.int .i64) w A0 l0.length l0) (hc0 : l0.length ≤ c0) (hr1 : Kd.C (Kd.int .i64) w A1 l1.length l1) (hc1 : l1.length ≤ c1) (h : slices_Equal_int_int.f k l0 l1 = some r) :
  Calls Try.prog 121 #[.slice A0 l0.length c0, .slice A1 l1.length c1] w fun e w' => e = .returned (.bool r) ∧ Drawn0 w w' := by
 have HR0 := Aside0.mk hr0
 have HC0 := Aside0.mk hc0
 clear hr0 hc0
 have HR1 := Aside0.mk hr1
 have HC1 := Aside0.mk hc1
 clear hr1 hc1
 have H : (if (l0.length : Int) = (l1.length : Int) then (slices_Equal_int_int.l0 k l0 l1 (l0.length : Int) 0) else (some false)) = some r := h
 clear h
 by_cases c3 : (l0.length : Int) = (l1.length : Int)
 ·rw [if_pos c3] at H
  have c3b0 : ((l0.length : Int) == (l1.length : Int)) = true := beq_iff_eq.mpr c3
  have c3b1 : ((l0.length : Int) != (l1.length : Int)) = false := bne_eq_false_iff_eq.mpr c3
  have c3b2 : (l0.length == l1.length) = true := by first | simpa using c3 | (simp at c3 ⊢; omega)
  clear c3
  have H' := Aside0.mk H
  clear H
  go_enter Try.func121, Try.ntmps121
  go_wp2
  repeat (go_quiet (fail); try go_wp2)
  go_loopg [13] k (fun kq v13 w' => ∃ (x13_1 : Int), v13 = .int .i64 x13_1 ∧ Aside0 (slices_Equal_int_int.l0 kq l0 l1 (l0.length : Int) x13_1 = some r) ∧ Aside0 (kq ≤ k) ∧ Drawn0 w w')
  case atStart => exact ⟨(0), (by first | rfl | (simp; done) | (simp [*]; done)), H', ⟨Nat.le_refl _⟩, by repeat (first | exact Drawn0.refl _ | apply Drawn0.step)⟩
  case round =>
   clear H'
   try clear c1
   try clear p2
   try clear c3
   try clear c3b0
   try clear c3b1
   try clear c3b2
   obtain ⟨x13_1, rfl, HA, HK1, ⟨m1, rfl⟩⟩ := hrel
   cases gk with
   | zero => exact absurd HA.out (by simp [slices_Equal_int_int.l0])
   | succ k1 =>
    have H := HA.out
    clear HA
    simp only [slices_Equal_int_int.l0] at H
    by_cases c4 : x13_1 < (l0.length : Int)
    ·rw [if_pos c4] at H
     have c4b0 : decide (x13_1 < (l0.length : Int)) = true := decide_eq_true c4
     clear c4
     by_cases c5 : 0 ≤ x13_1
     ·rw [if_pos c5] at H
      have c5b0 : decide (0 ≤ x13_1) = true := decide_eq_true c5
      clear c5
      by_cases c6 : x13_1 < (l0.length : Int)
      ·rw [if_pos c6] at H
       have c6b0 : decide (x13_1 < (l0.length : Int)) = true := decide_eq_true c6
       clear c6
       by_cases c7 : x13_1 < (l1.length : Int)
       ·rw [if_pos c7] at H
        have c7b0 : decide (x13_1 < (l1.length : Int)) = true := decide_eq_true c7
        clear c7
        by_cases c8 : (rd l0 x13_1) = (rd l1 x13_1)
        ·rw [if_pos c8] at H
         have c8b0 : ((rd l0 x13_1) == (rd l1 x13_1)) = true := beq_iff_eq.mpr c8
         have c8b1 : ((rd l0 x13_1) != (rd l1 x13_1)) = false := bne_eq_false_iff_eq.mpr c8
         clear c8
         have H' := Aside0.mk H
         clear H
         have p174 : 0 ≤ (x13_1 : Int) := of_decide_eq_true as_
         have q174 : x13_1 < (l0.length : Int) := of_decide_eq_true as_
         obtain ⟨ad174, e174, hx174_0⟩ := Kd.at_int HR0.out x13_1 p174 q174
         cases e174
         replace p174 := eq_true p174
         replace q174 := eq_true q174
         have p175 : 0 ≤ (x13_1 : Int) := of_decide_eq_true as_
         have q175 : x13_1 < (l1.length : Int) := of_decide_eq_true as_
         obtain ⟨ad175, e175, hx175_0⟩ := Kd.at_int HR1.out x13_1 p175 q175
         cases e175
         replace p175 := eq_true p175
         replace q175 := eq_true q175
         go_wp2
         repeat (go_quiet (fail); try go_wp2)
         go_roundg k1
         case measure => have := HK1.out; omega
         case rel => exact ⟨(wrap64 (x13_1 + 1)), (by first | rfl | (simp; done) | (simp [*]; done)), H', ⟨by have := HK1.out; omega⟩, by repeat (first | exact Drawn0.refl _ | apply Drawn0.step)⟩
        ·rw [if_neg c8] at H
         have c8b0 : ((rd l0 x13_1) == (rd l1 x13_1)) = false := beq_eq_false_iff_ne.mpr c8
         have c8b1 : ((rd l0 x13_1) != (rd l1 x13_1)) = true := bne_iff_ne.mpr c8
         obtain rfl := Option.some.inj H
         have p174 : 0 ≤ (x13_1 : Int) := of_decide_eq_true as_
         have q174 : x13_1 < (l0.length : Int) := of_decide_eq_true as_
         obtain ⟨ad174, e174, hx174_0⟩ := Kd.at_int HR0.out x13_1 p174 q174
         cases e174
         replace p174 := eq_true p174
         replace q174 := eq_true q174
         have p175 : 0 ≤ (x13_1 : Int) := of_decide_eq_true as_
         have q175 : x13_1 < (l1.length : Int) := of_decide_eq_true as_
         obtain ⟨ad175, e175, hx175_0⟩ := Kd.at_int HR1.out x13_1 p175 q175
         cases e175
         replace p175 := eq_true p175
         replace q175 := eq_true q175
         go_wp2
         repeat (go_quiet (fail); try go_wp2)
         go_ret
         exact ⟨by first | rfl | (simp; done) | (simp [*]; done), by repeat (first | exact Drawn0.refl _ | apply Drawn0.step)⟩
       ·rw [if_neg c7] at H
        exact absurd H (by simp)
      ·rw [if_neg c6] at H
       exact absurd H (by simp)
     ·rw [if_neg c5] at H
      exact absurd H (by simp)
    ·rw [if_neg c4] at H
     have c4b0 : decide (x13_1 < (l0.length : Int)) = false := decide_eq_false c4
     clear c4
     obtain rfl := Option.some.inj H
     go_wp2
     repeat (go_quiet (fail); try go_wp2)
     go_ret
     exact ⟨by first | rfl | (simp; done) | (simp [*]; done), by repeat (first | exact Drawn0.refl _ | apply Drawn0.step)⟩
 ·rw [if_neg c3] at H
  have c3b0 : ((l0.length : Int) == (l1.length : Int)) = false := beq_eq_false_iff_ne.mpr c3
  have c3b1 : ((l0.length : Int) != (l1.length : Int)) = true := bne_iff_ne.mpr c3
  have c3b2 : (l0.length == l1.length) = false := by first | simpa using c3 | (simp at c3 ⊢; omega)
  obtain rfl := Option.some.inj H
  go_enter Try.func121, Try.ntmps121
  go_wp2
  repeat (go_quiet (fail); try go_wp2)
  go_ret
  exact ⟨by first | rfl | (simp; done) | (simp [*]; done), by repeat (first | exact Drawn0.refl _ | apply Drawn0.step)⟩

end Go.Proofs.Ytbbppknnkghkjaa.PFnIdRoutes
