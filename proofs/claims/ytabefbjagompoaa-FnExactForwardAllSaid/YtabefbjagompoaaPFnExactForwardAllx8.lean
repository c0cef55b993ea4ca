/- Printed: each Go function as a Lean function, with the proof that Go comes to just its answer (squeezed) -/
import Derived.Test.YtabefbjagompoaaPFnExactForwardAllx0
import Derived.Test.YtabefbjagompoaaSteps
import Derived.Test.YtabefbjagompoaaPFnExactForwardAllx3
import Derived.Test.YtabefbjagompoaaPFnExactForwardAllx5
import Derived.Test.YtabefbjagompoaaPFnExactForwardAllx7
namespace Go.Proofs.Ytabefbjagompoaa.PFnExactForwardAll
open Go.RowKit Go.Proofs.YtabefbjagompoaaW.PrintWords Go.Proofs.YtabefbjagompoaaW.PrintLast Go.Proofs.YtabefbjagompoaaW.PrintMore Go.Proofs.Ytabefbjagompoaa.Kit Go.Proofs.Ytabefbjagompoaa.Steps Go.Proofs.Ytabefbjagompoaa.Kit2 Go.Proofs.Ytabefbjagompoaa.Kit3
attribute [local go_sem] max2_int min2_int max_two min_two max_three min_three max_four min_four   -- for this text's walks alone
set_option linter.unusedVariables false
set_option linter.unusedSimpArgs false
open Go.Proofs.YtabefbjagompoaaW.PrintWords.Kd (R_below R_mono R_far R_lower R_after R_slice R_drew R_drewN R_alloc R_reads' R_ne C_below)
def impl_Queue_next.l0 : Nat → List Int → Int → Int → List (S33) → List Int → List Int → List (S33) → Option (Int)
 | 0, _, _, _, _, _, _, _ => none
 | k + 1, x7, x8, x9, x226000, x226001, x226002, x226003 => if x9 < x8 then (if 0 ≤ x9 then (if x9 < (x7.length : Int) then (if 0 ≤ (rd x7 x9) then (if (rd x7 x9) < (x226000.length : Int) then ((impl_CanSend.f k x226001 x226002 ((rd_T33 x226000 (rd x7 x9)).f0) ((rd_T33 x226000 (rd x7 x9)).f1) ((rd_T33 x226000 (rd x7 x9)).f2) ((rd_T33 x226000 (rd x7 x9)).f3) ((rd_T33 x226000 (rd x7 x9)).f4) ((rd_T33 x226000 (rd x7 x9)).f5) ((rd_T33 x226000 (rd x7 x9)).f6) ((rd_T33 x226000 (rd x7 x9)).f7)).bind fun t231 => (if t231 = true then (some (rd x7 x9)) else (impl_Queue_next.l0 k x7 x8 (wrap64 (x9 + 1)) x226000 x226001 x226002 x226003))) else (none)) else (none)) else (none)) else (none)) else (some (-1))
def impl_Queue_next.f (k : Nat) (l0_0 : List (S33)) (l0_1 : List Int) (l0_2 : List Int) (l0_3 : List (S33)) : Option (Int) := (impl_PassersOf.f k l0_0).bind fun t226 => (impl_Queue_next.l0 k t226 (t226.length : Int) 0 l0_0 l0_1 l0_2 l0_3)
def impl_Queue_next.T4 : Bool × List (List Nat × List Nat) := (true, [([], []), ([0], [0]), ([], []), ([2], [2]), ([], []), ([3, 4], [3, 4]), ([5], [5]), ([1, 6], [1, 6])])
def impl_Queue_next.B4 : List Nat := [0, 1, 0, 4, 0, 28, 60, 127]
theorem impl_Queue_next.tab4 : rtab .any (opsOf Try.f48 4) = impl_Queue_next.T4 := by kernel_rfl
theorem impl_Queue_next.bits4 : waitsOk impl_Queue_next.T4.2 impl_Queue_next.B4 = true := by kernel_rfl
set_option maxHeartbeats 8000000 in
set_option maxRecDepth 100000 in
theorem impl_Queue_next.calls (k : Nat) (A0_0 : Option Addr) (c0_0 : Nat) (l0_0 : List (S33)) (A0_1 : Option Addr) (c0_1 : Nat) (l0_1 : List Int) (A0_2 : Option Addr) (c0_2 : Nat) (l0_2 : List Int) (A0_3 : Option Addr) (c0_3 : Nat) (l0_3 : List (S33)) (r : Int) (w : World) (hr0_0 : Kd.C k33 w A0_0 l0_0.length l0_0) (hc0_0 : l0_0.length ≤ c0_0) (hr0_1 : Kd.C (Kd.int .i64) w A0_1 l0_1.length l0_1) (hc0_1 : l0_1.length ≤ c0_1) (hr0_2 : Kd.C (Kd.int .i64) w A0_2 l0_2.length l0_2) (hc0_2 : l0_2.length ≤ c0_2) (hr0_3 : Kd.C k33 w A0_3 l0_3.length l0_3) (hc0_3 : l0_3.length ≤ c0_3) (h : impl_Queue_next.f k l0_0 l0_1 l0_2 l0_3 = some r) :
  Calls Try.prog 48 #[.agg #[.slice A0_0 l0_0.length c0_0, .slice A0_1 l0_1.length c0_1, .slice A0_2 l0_2.length c0_2, .slice A0_3 l0_3.length c0_3]] w fun e w' => e = .returned (.int .i64 r) ∧ Below w.heap.size w w' := by
 have hu29 := Try.underlying29; have hu27 := Try.underlying27; have hu33 := Try.underlying33; have HR0_0 := Aside0.mk hr0_0; have HC0_0 := Aside0.mk hc0_0; clear hr0_0 hc0_0; have HR0_1 := Aside0.mk hr0_1; have HC0_1 := Aside0.mk hc0_1; clear hr0_1 hc0_1; have HR0_2 := Aside0.mk hr0_2; have HC0_2 := Aside0.mk hc0_2; clear hr0_2 hc0_2; have HR0_3 := Aside0.mk hr0_3; have HC0_3 := Aside0.mk hc0_3; clear hr0_3 hc0_3; have HB := Aside0.mk (Below.refl w.heap.size w); have H : ((impl_PassersOf.f k l0_0).bind fun t226 => (impl_Queue_next.l0 k t226 (t226.length : Int) 0 l0_0 l0_1 l0_2 l0_3)) = some r := h; clear h; replace H := bi_ H; obtain ⟨t226, A20, H⟩ := H; replace H : (impl_Queue_next.l0 k t226 (t226.length : Int) 0 l0_0 l0_1 l0_2 l0_3) = some r := H; have A2 := Aside0.mk A20; clear A20; have H' := Aside0.mk H; clear H; go_enter Try.func48, Try.ntmps48; go_wp2_with (first | ((with_reducible refine gate_dst (N := 1) rfl ?_); refine box_event ?hg (N := 1) ?hd (cs := #[.slice A0_0 l0_0.length c0_0, .slice A0_1 l0_1.length c0_1, .slice A0_2 l0_2.length c0_2, .slice A0_3 l0_3.length c0_3]) (t := 29) ?hr ?_; (case hd => rfl); (case hg => rfl); (case hr => exact hr_); intro gb225 hg w3 hbox hb; have t_ := fc4 (below_step bb hb) (hbox) (bg hg : w.heap.size ≤ gb225) (bg hg : w.heap.size ≤ gb225); clear HB; obtain ⟨HB, BK225, GW225, GE225⟩ := t_; clear hb hbox hg; obtain ⟨hcz4_0, hcz4_1, hcz4_2, hcz4_3, hfz4_0, hfz4_1, hfz4_2, hfz4_3⟩ := bx4 BK225.out) | ((with_reducible refine gate_callee (f := 51) rfl ?_); refine goesL_ (some 7) rfl rfl Try.func51 (by kernel_rfl) rfl #[.slice A0_0 l0_0.length c0_0] rfl ms ?_; (with_reducible refine (impl_PassersOf.calls k _ _ l0_0 t226 _ ?side1 ?side2 A2.out).mono ?_); (case side1 => exact kc); (case side2 => exact HC0_0.out); rintro e w5 ⟨v227, rfl, ho0, hb⟩; refine ⟨_, rfl, ?_⟩; have t_ := fc3 (R_lower ho0 (below_size bb)) (bw BK225 hb) (below_step bb hb); clear BK225 HB; obtain ⟨HO228, BK225, HB⟩ := t_; (try clear hb); (try clear hk); (try clear ho0); obtain ⟨Ao6, co6, eo6⟩ := R_slice HO228.out; subst eo6))
 go_loopg [9] k (fun kq v9 w' => ∃ (x9_1 : Int), v9 = .int .i64 x9_1 ∧ Aside0 (impl_Queue_next.l0 kq t226 (t226.length : Int) x9_1 l0_0 l0_1 l0_2 l0_3 = some r) ∧ Aside0 (kq ≤ k) ∧ Aside0 (Kd.R (Kd.int .i64) 3 w' w.heap.size (fun _ => True) (.slice Ao6 t226.length co6) t226) ∧ Aside0 (w'.heap[gb225]? = some (.cells #[(.slice A0_0 l0_0.length c0_0), (.slice A0_1 l0_1.length c0_1), (.slice A0_2 l0_2.length c0_2), (.slice A0_3 l0_3.length c0_3)] 29 (0, 0))) ∧ Aside0 (Below w.heap.size w w'))
 case atStart => exact ⟨(0), sd_, H', ⟨Nat.le_refl _⟩, ⟨(ra HO228.out)⟩, ⟨by exact bk⟩, ⟨bb⟩⟩
 case round =>
  clear H'; (try clear p2); (try clear c4); (try clear c5); (try clear hcz4_0); (try clear hcz4_1); (try clear hcz4_2); (try clear hcz4_3); (try clear hfz4_0); (try clear hfz4_1); (try clear hfz4_2); (try clear hfz4_3); obtain ⟨x9_1, rfl, HA, HK1, HO_7, BK225, HB⟩ := hrel
  cases gk with
  | zero => exact absurd HA.out (by simp [impl_Queue_next.l0])
  | succ k1 =>
   have H := HA.out; clear HA; simp only [impl_Queue_next.l0] at H
   by_cases c7 : x9_1 < (t226.length : Int)
   ·rw [if_pos c7] at H
    have c7b0 : decide (x9_1 < (t226.length : Int)) = true := decide_eq_true c7; clear c7
    by_cases c8 : 0 ≤ x9_1
    ·rw [if_pos c8] at H
     have c8b0 : decide (0 ≤ x9_1) = true := decide_eq_true c8; clear c8
     by_cases c9 : x9_1 < (t226.length : Int)
     ·rw [if_pos c9] at H
      have c9b0 : decide (x9_1 < (t226.length : Int)) = true := decide_eq_true c9; clear c9
      by_cases c10 : 0 ≤ (rd t226 x9_1)
      ·rw [if_pos c10] at H
       have c10b0 : decide (0 ≤ (rd t226 x9_1)) = true := decide_eq_true c10; clear c10
       by_cases c11 : (rd t226 x9_1) < (l0_0.length : Int)
       ·rw [if_pos c11] at H
        have c11b0 : decide ((rd t226 x9_1) < (l0_0.length : Int)) = true := decide_eq_true c11; clear c11; replace H := bi_ H; obtain ⟨t231, A120, H⟩ := H; replace H : (if t231 = true then (some (rd t226 x9_1)) else (impl_Queue_next.l0 k1 t226 (t226.length : Int) (wrap64 (x9_1 + 1)) l0_0 l0_1 l0_2 l0_3)) = some r := H; have A12 := Aside0.mk A120; clear A120
        by_cases c13 : t231 = true
        ·subst c13
         (have H1 : (some (rd t226 x9_1)) = some r := by rw [if_pos rfl] at H; exact H); clear H; have H := H1; clear H1; obtain rfl := Option.some.inj H; have p229 : 0 ≤ (x9_1 : Int) := od_; have q229 : x9_1 < (t226.length : Int) := od_; obtain ⟨ad229, e229, hx229_0⟩ := Kd.at_int (R_reads' HO_7.out).2.2 x9_1 p229 q229; cases e229; replace p229 := eq_true p229; replace q229 := eq_true q229; (try go_wp2); have t_ := fc3 (R_drew HO_7.out) (blk_drew BK225.out) (below_drew1 HB.out); clear HO_7 BK225 HB; obtain ⟨HO_7, BK225, HB⟩ := t_; have p230 : 0 ≤ ((rd t226 x9_1) : Int) := od_; have q230 : (rd t226 x9_1) < (l0_0.length : Int) := od_; obtain ⟨ad230, A230_7, c230_7, e230, hx230_0, hx230_1, hx230_2, hx230_3, hx230_4, hx230_5, hx230_6, hx230_7, hl230_7, hi230_7⟩ := at_T33 HR0_0.out (rd t226 x9_1) p230 q230; have hw230_7 := hx230_7; have hw230_6 := hx230_6; have hw230_5 := hx230_5; have hw230_4 := hx230_4; have hw230_3 := hx230_3; have hw230_2 := hx230_2; have hw230_1 := hx230_1; have hw230_0 := hx230_0; cases e230; replace hx230_0 := pb_ HB.out hx230_0; replace hx230_1 := pb_ HB.out hx230_1; replace hx230_2 := pb_ HB.out hx230_2; replace hx230_3 := pb_ HB.out hx230_3; replace hx230_4 := pb_ HB.out hx230_4; replace hx230_5 := pb_ HB.out hx230_5; replace hx230_6 := pb_ HB.out hx230_6; replace hx230_7 := pb_ HB.out hx230_7; have HR230_7 := Aside0.mk hi230_7; have HC230_7 := Aside0.mk hl230_7; clear hi230_7 hl230_7; replace p230 := eq_true p230; replace q230 := eq_true q230; refine start_ (n := 8) (S := fun w' => w'.cell? ⟨gb225, 0, none⟩ = some (.slice (some ad230) l0_0.length c0_0) ∧ w'.cell? ⟨gb225, 1, none⟩ = some (.slice A0_1 l0_1.length c0_1) ∧ w'.cell? ⟨gb225, 2, none⟩ = some (.slice A0_2 l0_2.length c0_2) ∧ w'.cell? ⟨gb225, 3, none⟩ = some (.slice A0_3 l0_3.length c0_3) ∧ w'.cell? (ad230.add (((rd t226 x9_1)).toNat * 8)) = some (.int .i64 ((rd_T33 l0_0 (rd t226 x9_1)).f0)) ∧ w'.cell? ⟨(ad230.add (((rd t226 x9_1)).toNat * 8)).block, (ad230.add (((rd t226 x9_1)).toNat * 8)).off + 1, none⟩ = some (.int .i64 ((rd_T33 l0_0 (rd t226 x9_1)).f1)) ∧ w'.cell? ⟨(ad230.add (((rd t226 x9_1)).toNat * 8)).block, (ad230.add (((rd t226 x9_1)).toNat * 8)).off + 2, none⟩ = some (.int .i64 ((rd_T33 l0_0 (rd t226 x9_1)).f2)) ∧ w'.cell? ⟨(ad230.add (((rd t226 x9_1)).toNat * 8)).block, (ad230.add (((rd t226 x9_1)).toNat * 8)).off + 3, none⟩ = some (.int .i64 ((rd_T33 l0_0 (rd t226 x9_1)).f3)) ∧ w'.cell? ⟨(ad230.add (((rd t226 x9_1)).toNat * 8)).block, (ad230.add (((rd t226 x9_1)).toNat * 8)).off + 4, none⟩ = some (.int .i64 ((rd_T33 l0_0 (rd t226 x9_1)).f4)) ∧ w'.cell? ⟨(ad230.add (((rd t226 x9_1)).toNat * 8)).block, (ad230.add (((rd t226 x9_1)).toNat * 8)).off + 5, none⟩ = some (.int .i64 ((rd_T33 l0_0 (rd t226 x9_1)).f5)) ∧ w'.cell? ⟨(ad230.add (((rd t226 x9_1)).toNat * 8)).block, (ad230.add (((rd t226 x9_1)).toNat * 8)).off + 6, none⟩ = some (.int .i64 ((rd_T33 l0_0 (rd t226 x9_1)).f6)) ∧ w'.cell? ⟨(ad230.add (((rd t226 x9_1)).toNat * 8)).block, (ad230.add (((rd t226 x9_1)).toNat * 8)).off + 7, none⟩ = some (.slice A230_7 ((rd_T33 l0_0 (rd t226 x9_1)).f7).length c230_7)) (ds := []) (bz 8 0) (by kernel_rfl) rfl (by kernel_rfl) ⟨(blk_cell BK225.out 0).trans rfl, (blk_cell BK225.out 1).trans rfl, (blk_cell BK225.out 2).trans rfl, (blk_cell BK225.out 3).trans rfl, ((HB.out.cell (World.block_lt_of_cell? w _ hw230_0)).trans hw230_0), ((HB.out.cell (World.block_lt_of_cell? w _ hw230_1)).trans hw230_1), ((HB.out.cell (World.block_lt_of_cell? w _ hw230_2)).trans hw230_2), ((HB.out.cell (World.block_lt_of_cell? w _ hw230_3)).trans hw230_3), ((HB.out.cell (World.block_lt_of_cell? w _ hw230_4)).trans hw230_4), ((HB.out.cell (World.block_lt_of_cell? w _ hw230_5)).trans hw230_5), ((HB.out.cell (World.block_lt_of_cell? w _ hw230_6)).trans hw230_6), ((HB.out.cell (World.block_lt_of_cell? w _ hw230_7)).trans hw230_7)⟩ (fun hHeld => ?_); refine with_tabW impl_Queue_next.tab4 impl_Queue_next.bits4 (fun HT_ HW_ => ?_); generalize wr.drew = w14 at HO_7 BK225 HB HR230_7 hx230_0 hx230_1 hx230_2 hx230_3 hx230_4 hx230_5 hx230_6 hx230_7 hHeld ⊢; refine pv 0 13 (bz 8 1) HT_ (h := ?_); refine pv 2 15 (bz 8 5) HT_ (h := ?_); refine pv 4 17 (bz 8 21) HT_ (h := ?_); refine tv12 1 14 (bz 8 23) HT_ HW_ hHeld (h := ?_); refine tv12 3 16 (bz 8 31) HT_ HW_ hHeld (h := ?_); refine pv 5 18 (bz 8 63) HT_ (h := ?_); refine tv12 6 19 (bz 8 127) HT_ HW_ hHeld (h := ?_); refine one_ (i := 7) (N := some 20) (bz 8 255) rfl rfl (one_of HT_.out (by kernel_rfl)) (by decide) (fun K hK => ?_); refine goes_ Try.func52 (by kernel_rfl) rfl #[.agg #[.slice A0_1 l0_1.length c0_1, .slice A0_2 l0_2.length c0_2], .agg #[.int .i64 ((rd_T33 l0_0 (rd t226 x9_1)).f0), .int .i64 ((rd_T33 l0_0 (rd t226 x9_1)).f1), .int .i64 ((rd_T33 l0_0 (rd t226 x9_1)).f2), .int .i64 ((rd_T33 l0_0 (rd t226 x9_1)).f3), .int .i64 ((rd_T33 l0_0 (rd t226 x9_1)).f4), .int .i64 ((rd_T33 l0_0 (rd t226 x9_1)).f5), .int .i64 ((rd_T33 l0_0 (rd t226 x9_1)).f6), .slice A230_7 ((rd_T33 l0_0 (rd t226 x9_1)).f7).length c230_7]] (by rfl) rfl rfl ms ?_; (with_reducible refine (impl_CanSend.calls k1 _ _ l0_1 _ _ l0_2 ((rd_T33 l0_0 (rd t226 x9_1)).f0) ((rd_T33 l0_0 (rd t226 x9_1)).f1) ((rd_T33 l0_0 (rd t226 x9_1)).f2) ((rd_T33 l0_0 (rd t226 x9_1)).f3) ((rd_T33 l0_0 (rd t226 x9_1)).f4) ((rd_T33 l0_0 (rd t226 x9_1)).f5) ((rd_T33 l0_0 (rd t226 x9_1)).f6) _ _ ((rd_T33 l0_0 (rd t226 x9_1)).f7) true _ ?side1 ?side2 ?side3 ?side4 ?side5 ?side6 A12.out).mono ?_)
         (case side1 => exact kc)
         (case side2 => exact HC0_1.out)
         (case side3 => exact kc)
         (case side4 => exact HC0_2.out)
         (case side5 => exact kc)
         (case side6 => exact HC230_7.out)
         rintro e w15 ⟨rfl, hb⟩; refine ⟨_, rfl, ?_⟩; have t_ := fc3 (R_below (ra HO_7.out) hb) (bw BK225 hb) (below_step bb hb); clear HO_7 BK225 HB; obtain ⟨HO_7, BK225, HB⟩ := t_; (try clear hb); (try clear hb2); (try clear hk); (try clear hi); refine hK.out _ _ ⟨(blk_cell BK225.out 0).trans rfl, (blk_cell BK225.out 1).trans rfl, (blk_cell BK225.out 2).trans rfl, (blk_cell BK225.out 3).trans rfl, ((HB.out.cell (World.block_lt_of_cell? w _ hw230_0)).trans hw230_0), ((HB.out.cell (World.block_lt_of_cell? w _ hw230_1)).trans hw230_1), ((HB.out.cell (World.block_lt_of_cell? w _ hw230_2)).trans hw230_2), ((HB.out.cell (World.block_lt_of_cell? w _ hw230_3)).trans hw230_3), ((HB.out.cell (World.block_lt_of_cell? w _ hw230_4)).trans hw230_4), ((HB.out.cell (World.block_lt_of_cell? w _ hw230_5)).trans hw230_5), ((HB.out.cell (World.block_lt_of_cell? w _ hw230_6)).trans hw230_6), ((HB.out.cell (World.block_lt_of_cell? w _ hw230_7)).trans hw230_7)⟩ (fun hHeld => ?_); clear hK K; refine norm_ (a' := ?_) ?_ ?_; rotate_left
         ·show Act.put _ (some 20) _ = _
          simp only [Act.put, List.setIfInBounds_toArray, List.set_cons_zero, List.set_cons_succ, i64_w, i32_w]; rfl
         refine done_ (done_of HT_.out (by kernel_rfl)) ?_; (try go_wp2); go_ret; exact ⟨er, bb⟩
        ·replace c13 := Bool.eq_false_iff.mpr c13
         subst c13; (have H1 : (impl_Queue_next.l0 k1 t226 (t226.length : Int) (wrap64 (x9_1 + 1)) l0_0 l0_1 l0_2 l0_3) = some r := by rw [if_neg (show ¬ (false = true) by decide)] at H; exact H); clear H; have H := H1; clear H1; have H' := Aside0.mk H; clear H; have p229 : 0 ≤ (x9_1 : Int) := od_; have q229 : x9_1 < (t226.length : Int) := od_; obtain ⟨ad229, e229, hx229_0⟩ := Kd.at_int (R_reads' HO_7.out).2.2 x9_1 p229 q229; cases e229; replace p229 := eq_true p229; replace q229 := eq_true q229; (try go_wp2); have t_ := fc3 (R_drew HO_7.out) (blk_drew BK225.out) (below_drew1 HB.out); clear HO_7 BK225 HB; obtain ⟨HO_7, BK225, HB⟩ := t_; have p230 : 0 ≤ ((rd t226 x9_1) : Int) := od_; have q230 : (rd t226 x9_1) < (l0_0.length : Int) := od_; obtain ⟨ad230, A230_7, c230_7, e230, hx230_0, hx230_1, hx230_2, hx230_3, hx230_4, hx230_5, hx230_6, hx230_7, hl230_7, hi230_7⟩ := at_T33 HR0_0.out (rd t226 x9_1) p230 q230; have hw230_7 := hx230_7; have hw230_6 := hx230_6; have hw230_5 := hx230_5; have hw230_4 := hx230_4; have hw230_3 := hx230_3; have hw230_2 := hx230_2; have hw230_1 := hx230_1; have hw230_0 := hx230_0; cases e230; replace hx230_0 := pb_ HB.out hx230_0; replace hx230_1 := pb_ HB.out hx230_1; replace hx230_2 := pb_ HB.out hx230_2; replace hx230_3 := pb_ HB.out hx230_3; replace hx230_4 := pb_ HB.out hx230_4; replace hx230_5 := pb_ HB.out hx230_5; replace hx230_6 := pb_ HB.out hx230_6; replace hx230_7 := pb_ HB.out hx230_7; have HR230_7 := Aside0.mk hi230_7; have HC230_7 := Aside0.mk hl230_7; clear hi230_7 hl230_7; replace p230 := eq_true p230; replace q230 := eq_true q230; refine start_ (n := 8) (S := fun w' => w'.cell? ⟨gb225, 0, none⟩ = some (.slice (some ad230) l0_0.length c0_0) ∧ w'.cell? ⟨gb225, 1, none⟩ = some (.slice A0_1 l0_1.length c0_1) ∧ w'.cell? ⟨gb225, 2, none⟩ = some (.slice A0_2 l0_2.length c0_2) ∧ w'.cell? ⟨gb225, 3, none⟩ = some (.slice A0_3 l0_3.length c0_3) ∧ w'.cell? (ad230.add (((rd t226 x9_1)).toNat * 8)) = some (.int .i64 ((rd_T33 l0_0 (rd t226 x9_1)).f0)) ∧ w'.cell? ⟨(ad230.add (((rd t226 x9_1)).toNat * 8)).block, (ad230.add (((rd t226 x9_1)).toNat * 8)).off + 1, none⟩ = some (.int .i64 ((rd_T33 l0_0 (rd t226 x9_1)).f1)) ∧ w'.cell? ⟨(ad230.add (((rd t226 x9_1)).toNat * 8)).block, (ad230.add (((rd t226 x9_1)).toNat * 8)).off + 2, none⟩ = some (.int .i64 ((rd_T33 l0_0 (rd t226 x9_1)).f2)) ∧ w'.cell? ⟨(ad230.add (((rd t226 x9_1)).toNat * 8)).block, (ad230.add (((rd t226 x9_1)).toNat * 8)).off + 3, none⟩ = some (.int .i64 ((rd_T33 l0_0 (rd t226 x9_1)).f3)) ∧ w'.cell? ⟨(ad230.add (((rd t226 x9_1)).toNat * 8)).block, (ad230.add (((rd t226 x9_1)).toNat * 8)).off + 4, none⟩ = some (.int .i64 ((rd_T33 l0_0 (rd t226 x9_1)).f4)) ∧ w'.cell? ⟨(ad230.add (((rd t226 x9_1)).toNat * 8)).block, (ad230.add (((rd t226 x9_1)).toNat * 8)).off + 5, none⟩ = some (.int .i64 ((rd_T33 l0_0 (rd t226 x9_1)).f5)) ∧ w'.cell? ⟨(ad230.add (((rd t226 x9_1)).toNat * 8)).block, (ad230.add (((rd t226 x9_1)).toNat * 8)).off + 6, none⟩ = some (.int .i64 ((rd_T33 l0_0 (rd t226 x9_1)).f6)) ∧ w'.cell? ⟨(ad230.add (((rd t226 x9_1)).toNat * 8)).block, (ad230.add (((rd t226 x9_1)).toNat * 8)).off + 7, none⟩ = some (.slice A230_7 ((rd_T33 l0_0 (rd t226 x9_1)).f7).length c230_7)) (ds := []) (bz 8 0) (by kernel_rfl) rfl (by kernel_rfl) ⟨(blk_cell BK225.out 0).trans rfl, (blk_cell BK225.out 1).trans rfl, (blk_cell BK225.out 2).trans rfl, (blk_cell BK225.out 3).trans rfl, ((HB.out.cell (World.block_lt_of_cell? w _ hw230_0)).trans hw230_0), ((HB.out.cell (World.block_lt_of_cell? w _ hw230_1)).trans hw230_1), ((HB.out.cell (World.block_lt_of_cell? w _ hw230_2)).trans hw230_2), ((HB.out.cell (World.block_lt_of_cell? w _ hw230_3)).trans hw230_3), ((HB.out.cell (World.block_lt_of_cell? w _ hw230_4)).trans hw230_4), ((HB.out.cell (World.block_lt_of_cell? w _ hw230_5)).trans hw230_5), ((HB.out.cell (World.block_lt_of_cell? w _ hw230_6)).trans hw230_6), ((HB.out.cell (World.block_lt_of_cell? w _ hw230_7)).trans hw230_7)⟩ (fun hHeld => ?_); refine with_tabW impl_Queue_next.tab4 impl_Queue_next.bits4 (fun HT_ HW_ => ?_); generalize wr.drew = w16 at HO_7 BK225 HB HR230_7 hx230_0 hx230_1 hx230_2 hx230_3 hx230_4 hx230_5 hx230_6 hx230_7 hHeld ⊢; refine pv 0 13 (bz 8 1) HT_ (h := ?_); refine pv 2 15 (bz 8 5) HT_ (h := ?_); refine pv 4 17 (bz 8 21) HT_ (h := ?_); refine tv12 1 14 (bz 8 23) HT_ HW_ hHeld (h := ?_); refine tv12 3 16 (bz 8 31) HT_ HW_ hHeld (h := ?_); refine pv 5 18 (bz 8 63) HT_ (h := ?_); refine tv12 6 19 (bz 8 127) HT_ HW_ hHeld (h := ?_); refine one_ (i := 7) (N := some 20) (bz 8 255) rfl rfl (one_of HT_.out (by kernel_rfl)) (by decide) (fun K hK => ?_); refine goes_ Try.func52 (by kernel_rfl) rfl #[.agg #[.slice A0_1 l0_1.length c0_1, .slice A0_2 l0_2.length c0_2], .agg #[.int .i64 ((rd_T33 l0_0 (rd t226 x9_1)).f0), .int .i64 ((rd_T33 l0_0 (rd t226 x9_1)).f1), .int .i64 ((rd_T33 l0_0 (rd t226 x9_1)).f2), .int .i64 ((rd_T33 l0_0 (rd t226 x9_1)).f3), .int .i64 ((rd_T33 l0_0 (rd t226 x9_1)).f4), .int .i64 ((rd_T33 l0_0 (rd t226 x9_1)).f5), .int .i64 ((rd_T33 l0_0 (rd t226 x9_1)).f6), .slice A230_7 ((rd_T33 l0_0 (rd t226 x9_1)).f7).length c230_7]] (by rfl) rfl rfl ms ?_; (with_reducible refine (impl_CanSend.calls k1 _ _ l0_1 _ _ l0_2 ((rd_T33 l0_0 (rd t226 x9_1)).f0) ((rd_T33 l0_0 (rd t226 x9_1)).f1) ((rd_T33 l0_0 (rd t226 x9_1)).f2) ((rd_T33 l0_0 (rd t226 x9_1)).f3) ((rd_T33 l0_0 (rd t226 x9_1)).f4) ((rd_T33 l0_0 (rd t226 x9_1)).f5) ((rd_T33 l0_0 (rd t226 x9_1)).f6) _ _ ((rd_T33 l0_0 (rd t226 x9_1)).f7) false _ ?side1 ?side2 ?side3 ?side4 ?side5 ?side6 A12.out).mono ?_)
         (case side1 => exact kc)
         (case side2 => exact HC0_1.out)
         (case side3 => exact kc)
         (case side4 => exact HC0_2.out)
         (case side5 => exact kc)
         (case side6 => exact HC230_7.out)
         rintro e w17 ⟨rfl, hb⟩; refine ⟨_, rfl, ?_⟩; have t_ := fc3 (R_below (ra HO_7.out) hb) (bw BK225 hb) (below_step bb hb); clear HO_7 BK225 HB; obtain ⟨HO_7, BK225, HB⟩ := t_; (try clear hb); (try clear hb2); (try clear hk); (try clear hi); refine hK.out _ _ ⟨(blk_cell BK225.out 0).trans rfl, (blk_cell BK225.out 1).trans rfl, (blk_cell BK225.out 2).trans rfl, (blk_cell BK225.out 3).trans rfl, ((HB.out.cell (World.block_lt_of_cell? w _ hw230_0)).trans hw230_0), ((HB.out.cell (World.block_lt_of_cell? w _ hw230_1)).trans hw230_1), ((HB.out.cell (World.block_lt_of_cell? w _ hw230_2)).trans hw230_2), ((HB.out.cell (World.block_lt_of_cell? w _ hw230_3)).trans hw230_3), ((HB.out.cell (World.block_lt_of_cell? w _ hw230_4)).trans hw230_4), ((HB.out.cell (World.block_lt_of_cell? w _ hw230_5)).trans hw230_5), ((HB.out.cell (World.block_lt_of_cell? w _ hw230_6)).trans hw230_6), ((HB.out.cell (World.block_lt_of_cell? w _ hw230_7)).trans hw230_7)⟩ (fun hHeld => ?_); clear hK K; refine norm_ (a' := ?_) ?_ ?_; rotate_left
         ·show Act.put _ (some 20) _ = _
          simp only [Act.put, List.setIfInBounds_toArray, List.set_cons_zero, List.set_cons_succ, i64_w, i32_w]; rfl
         refine done_ (done_of HT_.out (by kernel_rfl)) ?_; (try go_wp2)
         go_roundg k1
         case measure => have := HK1.out; omega
         case rel => exact ⟨(wrap64 (x9_1 + 1)), sd_, H', ⟨by have := HK1.out; omega⟩, ⟨(ra HO_7.out)⟩, ⟨by exact bk⟩, ⟨bb⟩⟩
       ·rw [if_neg c11] at H
        exact absurd H (by simp)
      ·rw [if_neg c10] at H
       exact absurd H (by simp)
     ·rw [if_neg c9] at H
      exact absurd H (by simp)
    ·rw [if_neg c8] at H
     exact absurd H (by simp)
   ·rw [if_neg c7] at H
    have c7b0 : decide (x9_1 < (t226.length : Int)) = false := decide_eq_false c7; clear c7; obtain rfl := Option.some.inj H; go_wp2; go_ret; exact ⟨er, bb⟩

def impl_SpendCredits.f (k : Nat) (l0_0 : List Int) (l0_1 : List Int) (a1_0 : Int) (a1_1 : Int) (a1_2 : Int) (a1_3 : Int) (a1_4 : Int) (a1_5 : Int) (a1_6 : Int) (l1_7 : List Int) : Option (List Int × List Int × Bool) := (impl_copyCredits.f l0_0 l0_1).bind fun bt235 => ((impl_CanSend.f k l0_0 l0_1 a1_0 a1_1 a1_2 a1_3 a1_4 a1_5 a1_6 l1_7).bind fun t242 => (if t242 = true then ((impl_ClassOf.f k a1_0 a1_1 a1_2 a1_3 a1_4 a1_5 a1_6 l1_7).bind fun t243 => (if 0 ≤ t243 then (if t243 < (bt235.1.length : Int) then (if t243 < (bt235.2.length : Int) then ((impl_PacketUnits.f k a1_0 a1_1 a1_2 a1_3 a1_4 a1_5 a1_6 l1_7).bind fun t247 => (some ((bt235.1.set (t243 : Int).toNat (wrap64 ((rd bt235.1 t243) - 1))), (bt235.2.set (t243 : Int).toNat (wrap64 ((rd bt235.2 t243) - t247))), true))) else (none)) else (none)) else (none))) else (some (bt235.1, bt235.2, false))))
def impl_SpendCredits.T6 : Bool × List (List Nat × List Nat) := (true, [([], []), ([0], [0]), ([], []), ([1, 2], [1, 2]), ([3], [3]), ([], []), ([5], [5]), ([4, 6], [4, 6]), ([1, 2, 0, 1, 2, 3, 4, 5, 6, 7], [1, 2]), ([8, 7, 6, 0, 1, 2, 3, 4, 5, 6, 7], [7, 8])])
def impl_SpendCredits.B6 : List Nat := [0, 1, 0, 7, 15, 0, 32, 127, 255, 511]
theorem impl_SpendCredits.tab6 : rtab .any (opsOf Try.f77 6) = impl_SpendCredits.T6 := by kernel_rfl
theorem impl_SpendCredits.bits6 : waitsOk impl_SpendCredits.T6.2 impl_SpendCredits.B6 = true := by kernel_rfl
set_option maxHeartbeats 8000000 in
set_option maxRecDepth 100000 in
theorem impl_SpendCredits.calls (k : Nat) (A0_0 : Option Addr) (c0_0 : Nat) (l0_0 : List Int) (A0_1 : Option Addr) (c0_1 : Nat) (l0_1 : List Int) (a1_0 : Int) (a1_1 : Int) (a1_2 : Int) (a1_3 : Int) (a1_4 : Int) (a1_5 : Int) (a1_6 : Int) (A1_7 : Option Addr) (c1_7 : Nat) (l1_7 : List Int) (r1 : List Int) (r2 : List Int) (r3 : Bool) (w : World) (hr0_0 : Kd.C (Kd.int .i64) w A0_0 l0_0.length l0_0) (hc0_0 : l0_0.length ≤ c0_0) (hr0_1 : Kd.C (Kd.int .i64) w A0_1 l0_1.length l0_1) (hc0_1 : l0_1.length ≤ c0_1) (hr1_7 : Kd.C (Kd.int .i64) w A1_7 l1_7.length l1_7) (hc1_7 : l1_7.length ≤ c1_7) (h : impl_SpendCredits.f k l0_0 l0_1 a1_0 a1_1 a1_2 a1_3 a1_4 a1_5 a1_6 l1_7 = some (r1, r2, r3)) :
  Calls Try.prog 77 #[.agg #[.slice A0_0 l0_0.length c0_0, .slice A0_1 l0_1.length c0_1], .agg #[.int .i64 a1_0, .int .i64 a1_1, .int .i64 a1_2, .int .i64 a1_3, .int .i64 a1_4, .int .i64 a1_5, .int .i64 a1_6, .slice A1_7 l1_7.length c1_7]] w fun e w' => ∃ v0_ v1_ : Value, e = .returned (.tuple #[.agg #[v0_, v1_], .bool r3]) ∧ Kd.R (Kd.int .i64) 3 w' w.heap.size (fun k_ => some k_ ≠ (v1_ : Value).ownBlock) v0_ r1 ∧ Kd.R (Kd.int .i64) 3 w' w.heap.size (fun k_ => some k_ ≠ (v0_ : Value).ownBlock) v1_ r2 ∧ Below w.heap.size w w' := by
 have hu27 := Try.underlying27; have hu33 := Try.underlying33; have HR0_0 := Aside0.mk hr0_0; have HC0_0 := Aside0.mk hc0_0; clear hr0_0 hc0_0; have HR0_1 := Aside0.mk hr0_1; have HC0_1 := Aside0.mk hc0_1; clear hr0_1 hc0_1; have HR1_7 := Aside0.mk hr1_7; have HC1_7 := Aside0.mk hc1_7; clear hr1_7 hc1_7; have HB := Aside0.mk (Below.refl w.heap.size w); have H : ((impl_copyCredits.f l0_0 l0_1).bind fun bt235 => ((impl_CanSend.f k l0_0 l0_1 a1_0 a1_1 a1_2 a1_3 a1_4 a1_5 a1_6 l1_7).bind fun t242 => (if t242 = true then ((impl_ClassOf.f k a1_0 a1_1 a1_2 a1_3 a1_4 a1_5 a1_6 l1_7).bind fun t243 => (if 0 ≤ t243 then (if t243 < (bt235.1.length : Int) then (if t243 < (bt235.2.length : Int) then ((impl_PacketUnits.f k a1_0 a1_1 a1_2 a1_3 a1_4 a1_5 a1_6 l1_7).bind fun t247 => (some ((bt235.1.set (t243 : Int).toNat (wrap64 ((rd bt235.1 t243) - 1))), (bt235.2.set (t243 : Int).toNat (wrap64 ((rd bt235.2 t243) - t247))), true))) else (none)) else (none)) else (none))) else (some (bt235.1, bt235.2, false))))) = some (r1, r2, r3) := h; clear h; replace H := bi_ H; obtain ⟨⟨t235, t238⟩, A30, H⟩ := H; replace H : ((impl_CanSend.f k l0_0 l0_1 a1_0 a1_1 a1_2 a1_3 a1_4 a1_5 a1_6 l1_7).bind fun t242 => (if t242 = true then ((impl_ClassOf.f k a1_0 a1_1 a1_2 a1_3 a1_4 a1_5 a1_6 l1_7).bind fun t243 => (if 0 ≤ t243 then (if t243 < (t235.length : Int) then (if t243 < (t238.length : Int) then ((impl_PacketUnits.f k a1_0 a1_1 a1_2 a1_3 a1_4 a1_5 a1_6 l1_7).bind fun t247 => (some ((t235.set (t243 : Int).toNat (wrap64 ((rd t235 t243) - 1))), (t238.set (t243 : Int).toNat (wrap64 ((rd t238 t243) - t247))), true))) else (none)) else (none)) else (none))) else (some (t235, t238, false)))) = some (r1, r2, r3) := H; have A3 := Aside0.mk A30; clear A30; replace H := bi_ H; obtain ⟨t242, A40, H⟩ := H; replace H : (if t242 = true then ((impl_ClassOf.f k a1_0 a1_1 a1_2 a1_3 a1_4 a1_5 a1_6 l1_7).bind fun t243 => (if 0 ≤ t243 then (if t243 < (t235.length : Int) then (if t243 < (t238.length : Int) then ((impl_PacketUnits.f k a1_0 a1_1 a1_2 a1_3 a1_4 a1_5 a1_6 l1_7).bind fun t247 => (some ((t235.set (t243 : Int).toNat (wrap64 ((rd t235 t243) - 1))), (t238.set (t243 : Int).toNat (wrap64 ((rd t238 t243) - t247))), true))) else (none)) else (none)) else (none))) else (some (t235, t238, false))) = some (r1, r2, r3) := H; have A4 := Aside0.mk A40; clear A40
 by_cases c5 : t242 = true
 ·subst c5
  (have H1 : ((impl_ClassOf.f k a1_0 a1_1 a1_2 a1_3 a1_4 a1_5 a1_6 l1_7).bind fun t243 => (if 0 ≤ t243 then (if t243 < (t235.length : Int) then (if t243 < (t238.length : Int) then ((impl_PacketUnits.f k a1_0 a1_1 a1_2 a1_3 a1_4 a1_5 a1_6 l1_7).bind fun t247 => (some ((t235.set (t243 : Int).toNat (wrap64 ((rd t235 t243) - 1))), (t238.set (t243 : Int).toNat (wrap64 ((rd t238 t243) - t247))), true))) else (none)) else (none)) else (none))) = some (r1, r2, r3) := by rw [if_pos rfl] at H; exact H); clear H; have H := H1; clear H1; replace H := bi_ H; obtain ⟨t243, A60, H⟩ := H; replace H : (if 0 ≤ t243 then (if t243 < (t235.length : Int) then (if t243 < (t238.length : Int) then ((impl_PacketUnits.f k a1_0 a1_1 a1_2 a1_3 a1_4 a1_5 a1_6 l1_7).bind fun t247 => (some ((t235.set (t243 : Int).toNat (wrap64 ((rd t235 t243) - 1))), (t238.set (t243 : Int).toNat (wrap64 ((rd t238 t243) - t247))), true))) else (none)) else (none)) else (none)) = some (r1, r2, r3) := H; have A6 := Aside0.mk A60; clear A60
  by_cases c7 : 0 ≤ t243
  ·rw [if_pos c7] at H
   have c7b0 : decide (0 ≤ t243) = true := decide_eq_true c7; clear c7
   by_cases c8 : t243 < (t235.length : Int)
   ·rw [if_pos c8] at H
    have c8b0 : decide (t243 < (t235.length : Int)) = true := decide_eq_true c8; clear c8
    obtain ⟨y245, hy245⟩ : ∃ y_ : List Int, y_ = (t235.set (t243 : Int).toNat (wrap64 ((rd t235 t243) - 1))) := ⟨_, rfl⟩
    (replace H : (if t243 < (t238.length : Int) then ((impl_PacketUnits.f k a1_0 a1_1 a1_2 a1_3 a1_4 a1_5 a1_6 l1_7).bind fun t247 => (some (y245, (t238.set (t243 : Int).toNat (wrap64 ((rd t238 t243) - t247))), true))) else (none)) = some (r1, r2, r3) := by first | (rw [hy245]; with_reducible exact H) | (have H2_ := bs_ H; rw [hy245]; with_reducible exact H2_) | (have H2_ := bs_ H; with_reducible exact H2_) | with_reducible exact H | (rw [hy245]; exact H) | exact H); have Ny245 := Aside0.mk hy245; clear hy245
    by_cases c10 : t243 < (t238.length : Int)
    ·rw [if_pos c10] at H
     have c10b0 : decide (t243 < (t238.length : Int)) = true := decide_eq_true c10; clear c10; replace H := bi_ H; obtain ⟨t247, A110, H⟩ := H; replace H : (some (y245, (t238.set (t243 : Int).toNat (wrap64 ((rd t238 t243) - t247))), true)) = some (r1, r2, r3) := H; have A11 := Aside0.mk A110; clear A110
     obtain ⟨y248, hy248⟩ : ∃ y_ : List Int, y_ = (t238.set (t243 : Int).toNat (wrap64 ((rd t238 t243) - t247))) := ⟨_, rfl⟩
     (replace H : (some (y245, y248, true)) = some (r1, r2, r3) := by first | (rw [hy248]; with_reducible exact H) | (have H2_ := bs_ H; rw [hy248]; with_reducible exact H2_) | (have H2_ := bs_ H; with_reducible exact H2_) | with_reducible exact H | (rw [hy248]; exact H) | exact H); have Ny248 := Aside0.mk hy248; clear hy248; simp only [Option.some.injEq, Prod.mk.injEq] at H; obtain ⟨rfl, rfl, rfl⟩ := H; go_enter Try.func77, Try.ntmps77; (try go_wp2_with (first | ((with_reducible refine gate_dst (N := 2) rfl ?_); refine box_event ?hg (N := 2) ?hd (cs := #[.slice A0_0 l0_0.length c0_0, .slice A0_1 l0_1.length c0_1]) (t := 27) ?hr ?_; (case hd => rfl); (case hg => rfl); (case hr => exact hr_); intro gb232 hg w13 hbox hb; have t_ := fc4 (below_step bb hb) (hbox) (bg hg : w.heap.size ≤ gb232) (bg hg : w.heap.size ≤ gb232); clear HB; obtain ⟨HB, BK232, GW232, GE232⟩ := t_; clear hb hbox hg) | ((with_reducible refine gate_dst (N := 3) rfl ?_); refine box_event ?hg (N := 3) ?hd (cs := #[.int .i64 a1_0, .int .i64 a1_1, .int .i64 a1_2, .int .i64 a1_3, .int .i64 a1_4, .int .i64 a1_5, .int .i64 a1_6, .slice A1_7 l1_7.length c1_7]) (t := 33) ?hr ?_; (case hd => rfl); (case hg => rfl); (case hr => exact hr_); intro gb233 hg w14 hbox hb; have t_ := fc7 (bw BK232 hb) (below_step bb hb) (hbox) (bg hg : w.heap.size ≤ gb233) (bg hg : w.heap.size ≤ gb233) ((nl BK232 hg : gb232 ≠ gb233)) ((ng BK232 hg : gb233 ≠ gb232)); clear BK232 HB; obtain ⟨BK232, HB, BK233, GW233, GE233, NB232_233, NB233_232⟩ := t_; clear hb hbox hg) | ((with_reducible refine gate_dst (N := 4) rfl ?_); refine box_event ?hg (N := 4) ?hd (cs := #[.slice none 0 0, .slice none 0 0]) (t := 27) ?hr ?_; (case hd => rfl); (case hg => rfl); (case hr => exact hr_); intro gb234 hg w15 hbox hb; have t_ := fc10 (bw BK232 hb) (bw BK233 hb) (below_step bb hb) (hbox) (bg hg : w.heap.size ≤ gb234) (bg hg : w.heap.size ≤ gb234) ((nl BK232 hg : gb232 ≠ gb234)) ((ng BK232 hg : gb234 ≠ gb232)) ((nl BK233 hg : gb233 ≠ gb234)) ((ng BK233 hg : gb234 ≠ gb233)); clear BK232 BK233 HB; obtain ⟨BK232, BK233, HB, BK234, GW234, GE234, NB232_234, NB234_232, NB233_234, NB234_233⟩ := t_; clear hb hbox hg; have hnb16 := NB232_233.out; have hnc16 := NB233_232.out; have hnb17 := NB232_234.out; have hnc17 := NB234_232.out; obtain ⟨hcz18_0, hcz18_1, hfz18_0, hfz18_1⟩ := bx2 BK232.out) | ((with_reducible refine gate_callee (f := 74) rfl ?_); refine goesL_ (some 9) rfl rfl Try.func74 (by kernel_rfl) rfl #[.agg #[.slice A0_0 l0_0.length c0_0, .slice A0_1 l0_1.length c0_1]] rfl ms ?_; (with_reducible refine (impl_copyCredits.calls _ _ l0_0 _ _ l0_1 t235 t238 _ ?side1 ?side2 ?side3 ?side4 A3.out).mono ?_); (case side1 => exact kc); (case side2 => exact HC0_0.out); (case side3 => exact kc); (case side4 => exact HC0_1.out); rintro e w19 ⟨v236, v239, rfl, ho0, ho1, hb⟩; refine ⟨_, rfl, ?_⟩; have t_ := fc6 (R_lower ho0 (below_size bb)) (R_lower ho1 (below_size bb)) (bw BK232 hb) (bw BK233 hb) (bw BK234 hb) (below_step bb hb); clear BK232 BK233 BK234 HB; obtain ⟨HO237, HO240, BK232, BK233, BK234, HB⟩ := t_; (try clear hb); (try clear hk); (try clear ho0); (try clear ho1)) | ((with_reducible refine gate_dst (N := 6) rfl ?_); refine box_event ?hg (N := 6) ?hd (cs := #[.slice none 0 0, .slice none 0 0]) (t := 27) ?hr ?_; (case hd => rfl); (case hg => rfl); (case hr => exact hr_); intro gb241 hg w20 hbox hb; have t_ := fc15 (R_below (ra HO237.out) hb) (R_below (ra HO240.out) hb) (bw BK232 hb) (bw BK233 hb) (bw BK234 hb) (below_step bb hb) (hbox) (bg hg : w.heap.size ≤ gb241) (bg hg : w.heap.size ≤ gb241) ((nl BK232 hg : gb232 ≠ gb241)) ((ng BK232 hg : gb241 ≠ gb232)) ((nl BK233 hg : gb233 ≠ gb241)) ((ng BK233 hg : gb241 ≠ gb233)) ((nl BK234 hg : gb234 ≠ gb241)) ((ng BK234 hg : gb241 ≠ gb234)); clear HO237 HO240 BK232 BK233 BK234 HB; obtain ⟨HO237, HO240, BK232, BK233, BK234, HB, BK241, GW241, GE241, NB232_241, NB241_232, NB233_241, NB241_233, NB234_241, NB241_234⟩ := t_; clear hb hbox hg; obtain ⟨Ao21, co21, eo21⟩ := R_slice HO237.out; subst eo21; have hnb22 := NB241_232.out; have hnc22 := NB232_241.out; have hnb23 := NB241_233.out; have hnc23 := NB233_241.out; have hnb24 := NB241_234.out; have hnc24 := NB234_241.out; obtain ⟨hcz25_0, hcz25_1, hfz25_0, hfz25_1⟩ := bx2 BK241.out; obtain ⟨Ao26, co26, eo26⟩ := R_slice HO240.out; subst eo26; obtain ⟨hcz27_0, hcz27_1, hfz27_0, hfz27_1⟩ := bx2 BK232.out; have hnb28 := NB233_234.out; have hnc28 := NB234_233.out; obtain ⟨hcz29_0, hcz29_1, hcz29_2, hcz29_3, hcz29_4, hcz29_5, hcz29_6, hcz29_7, hfz29_0, hfz29_1, hfz29_2, hfz29_3, hfz29_4, hfz29_5, hfz29_6, hfz29_7⟩ := bx8 BK233.out) | ((with_reducible refine gate_callee (f := 52) rfl ?_); refine goesL_ (some 12) rfl rfl Try.func52 (by kernel_rfl) rfl #[.agg #[.slice A0_0 l0_0.length c0_0, .slice A0_1 l0_1.length c0_1], .agg #[.int .i64 a1_0, .int .i64 a1_1, .int .i64 a1_2, .int .i64 a1_3, .int .i64 a1_4, .int .i64 a1_5, .int .i64 a1_6, .slice A1_7 l1_7.length c1_7]] rfl ms ?_; (with_reducible refine (impl_CanSend.calls k _ _ l0_0 _ _ l0_1 a1_0 a1_1 a1_2 a1_3 a1_4 a1_5 a1_6 _ _ l1_7 true _ ?side1 ?side2 ?side3 ?side4 ?side5 ?side6 A4.out).mono ?_); (case side1 => exact C_below HR0_0.out bb); (case side2 => exact HC0_0.out); (case side3 => exact C_below HR0_1.out bb); (case side4 => exact HC0_1.out); (case side5 => exact C_below HR1_7.out bb); (case side6 => exact HC1_7.out); rintro e w30 ⟨rfl, hb⟩; refine ⟨_, rfl, ?_⟩; have t_ := fc7 (R_below (ra (R_mono (rf2 HO237 BK241 (.slice Ao21 t235.length co21) (.slice Ao26 t238.length co26)) (fun _ h_ => h_.1))) hb) (R_below (ra (R_mono (rf2 HO240 BK241 (.slice Ao21 t235.length co21) (.slice Ao26 t238.length co26)) (fun _ h_ => h_.1))) hb) (blk_below (g := gb232) (o := .cells #[.slice A0_0 l0_0.length c0_0, .slice A0_1 l0_1.length c0_1] 27 (0, 0)) (by refine blk_far ?_ NB232_241.out _; refine blk_far ?_ NB232_241.out _; exact bk) hb) (blk_below (g := gb233) (o := .cells #[.int .i64 a1_0, .int .i64 a1_1, .int .i64 a1_2, .int .i64 a1_3, .int .i64 a1_4, .int .i64 a1_5, .int .i64 a1_6, .slice A1_7 l1_7.length c1_7] 33 (0, 0)) (by refine blk_far ?_ NB233_241.out _; refine blk_far ?_ NB233_241.out _; exact bk) hb) (blk_below (g := gb234) (o := .cells #[.slice none 0 0, .slice none 0 0] 27 (0, 0)) (by refine blk_far ?_ NB234_241.out _; refine blk_far ?_ NB234_241.out _; exact bk) hb) (blk_below (g := gb241) (o := .cells #[.slice Ao21 t235.length co21, .slice Ao26 t238.length co26] 27 (0, 0)) (by refine blk_put (cs := #[.slice Ao21 t235.length co21, .slice none 0 0]) ?_ 1 _ rfl; refine blk_put (cs := #[.slice none 0 0, .slice none 0 0]) ?_ 0 _ rfl; exact bk) hb) (below_step bb hb); clear HO237 HO240 BK232 BK233 BK234 BK241 HB; obtain ⟨HO237, HO240, BK232, BK233, BK234, BK241, HB⟩ := t_; (try clear hb); (try clear hk); obtain ⟨hcz31_0, hcz31_1, hcz31_2, hcz31_3, hcz31_4, hcz31_5, hcz31_6, hcz31_7, hfz31_0, hfz31_1, hfz31_2, hfz31_3, hfz31_4, hfz31_5, hfz31_6, hfz31_7⟩ := bx8 BK233.out) | ((with_reducible refine gate_callee (f := 81) rfl ?_); refine goesL_ (some 16) rfl rfl Try.func81 (by kernel_rfl) rfl #[.agg #[.int .i64 a1_0, .int .i64 a1_1, .int .i64 a1_2, .int .i64 a1_3, .int .i64 a1_4, .int .i64 a1_5, .int .i64 a1_6, .slice A1_7 l1_7.length c1_7]] rfl ms ?_; (with_reducible refine (impl_ClassOf.calls k a1_0 a1_1 a1_2 a1_3 a1_4 a1_5 a1_6 _ _ l1_7 t243 _ ?side1 ?side2 A6.out).mono ?_); (case side1 => exact kc); (case side2 => exact HC1_7.out); rintro e w32 ⟨rfl, hb⟩; refine ⟨_, rfl, ?_⟩; have t_ := fc7 (R_below (ra HO237.out) hb) (R_below (ra HO240.out) hb) (bw BK232 hb) (bw BK233 hb) (bw BK234 hb) (bw BK241 hb) (below_step bb hb); clear HO237 HO240 BK232 BK233 BK234 BK241 HB; obtain ⟨HO237, HO240, BK232, BK233, BK234, BK241, HB⟩ := t_; (try clear hb); (try clear hk); obtain ⟨hcz33_0, hcz33_1, hfz33_0, hfz33_1⟩ := bx2 BK241.out; have p244 : 0 ≤ (t243 : Int) := od_; have q244 : t243 < (t235.length : Int) := od_; obtain ⟨ad244, e244, hx244_0⟩ := Kd.at_int (R_reads' HO237.out).2.2 t243 p244 q244; cases e244; replace p244 := eq_true p244; replace q244 := eq_true q244; have p9 : 0 ≤ (t243 : Int) := od_; have q9 : (t243 : Int) < ((t235.length : Int) : Int) := od_; obtain ⟨go9, co9, eo9, gb9, gl9, cl9, HG9⟩ := Kd.R_form HO237.out (by omega); (first | cases eo9 | (injection eo9 with ea_ en_ ec_; (first | subst ea_ | (injection ea_ with ea_; subst ea_)); subst ec_; clear en_)); have GB9 := Aside0.mk gb9; have GG9 := Aside0.mk HG9; clear gb9 gl9 HG9; (first | simp only [add_plain] at hx244_0 | skip); obtain ⟨hx9_0, hf9_0⟩ := Kd.R_celln 0 HO237.out (t243 : Int) p9 q9; replace p9 := eq_true p9; replace q9 := eq_true q9; obtain ⟨hy34_, hz34_⟩ := Kd.R_celln 0 HO237.out (t243 : Int) (od_) (od_); have HP34 := Kd.R_putg HO237.out (t243 : Int) (wrap64 ((rd t235 t243) - 1))) | ((with_reducible refine gate_store (t := 3) (p := 23) rfl ?_); refine store_event (t := 3) (p := 23) (v := ?vo_w35) (w1 := (w32.setCell ⟨go9, (t243 : Int).toNat, none⟩ (.int .i64 (wrap64 ((rd t235 t243) - 1))))) ?hg ?ho ?hn ?hr ?_; (case ho => rfl); (case hg => rfl); (case hn => rfl); (case hr => exact hr_); intro w35 hw; have hg : w32.grownBy w35 (some go9) := (by rw [hw]; exact HP34.2); have hp_ : Kd.R (Kd.int .i64) 3 w35 w.heap.size (fun k_ => some k_ ≠ (.slice Ao26 t238.length co26 : Value).ownBlock) (.slice (some ⟨go9, 0, none⟩) t235.length co21) y245 := (by rw [hw, Ny245.out]; exact HP34.1); clear HP34; have t_ := fc7 (blk_grown (g := gb232) (o := .cells #[.slice A0_0 l0_0.length c0_0, .slice A0_1 l0_1.length c0_1] 27 (0, 0)) bk hg (R_ne HO237.out BK232.out (by decide))) (blk_grown (g := gb233) (o := .cells #[.int .i64 a1_0, .int .i64 a1_1, .int .i64 a1_2, .int .i64 a1_3, .int .i64 a1_4, .int .i64 a1_5, .int .i64 a1_6, .slice A1_7 l1_7.length c1_7] 33 (0, 0)) bk hg (R_ne HO237.out BK233.out (by decide))) (blk_grown (g := gb234) (o := .cells #[.slice none 0 0, .slice none 0 0] 27 (0, 0)) bk hg (R_ne HO237.out BK234.out (by decide))) (hp_) (R_after (v := (.slice (some ⟨go9, 0, none⟩) t235.length co21)) (v1 := (.slice (some ⟨go9, 0, none⟩) t235.length co21)) (ok := (fun _ => True)) (ra (R_mono HO240.out (fun _ hk => (And.intro (trivial) (hk))))) hg (.inl rfl)) (blk_grown (g := gb241) (o := .cells #[.slice (some ⟨go9, 0, none⟩) t235.length co21, .slice Ao26 t238.length co26] 27 (0, 0)) bk hg (R_ne HO237.out BK241.out (by decide))) ((by rw [hw]; exact below_set (HB.out) GB9.out : Below w.heap.size w w35)); clear BK232 BK233 BK234 HO237 HO240 BK241 HB; obtain ⟨BK232, BK233, BK234, HO237, HO240, BK241, HB⟩ := t_; clear hg hw hp_))); have t_ := fc7 (R_drew HO237.out) (R_drew HO240.out) (blk_drew BK232.out) (blk_drew BK233.out) (blk_drew BK234.out) (blk_drew BK241.out) (below_drew1 HB.out); clear HO237 HO240 BK232 BK233 BK234 BK241 HB; obtain ⟨HO237, HO240, BK232, BK233, BK234, BK241, HB⟩ := t_; have p246 : 0 ≤ (t243 : Int) := od_; have q246 : t243 < (t238.length : Int) := od_; obtain ⟨ad246, e246, hx246_0⟩ := Kd.at_int (R_reads' HO240.out).2.2 t243 p246 q246; cases e246; replace p246 := eq_true p246; replace q246 := eq_true q246; refine start_ (n := 10) (S := fun w' => w'.cell? ⟨gb241, 0, none⟩ = some (.slice (some ⟨go9, 0, none⟩) t235.length co21) ∧ w'.cell? ⟨gb241, 1, none⟩ = some (.slice (some ad246) t238.length co26) ∧ w'.cell? ⟨gb233, 0, none⟩ = some (.int .i64 a1_0) ∧ w'.cell? ⟨gb233, 1, none⟩ = some (.int .i64 a1_1) ∧ w'.cell? ⟨gb233, 2, none⟩ = some (.int .i64 a1_2) ∧ w'.cell? ⟨gb233, 3, none⟩ = some (.int .i64 a1_3) ∧ w'.cell? ⟨gb233, 4, none⟩ = some (.int .i64 a1_4) ∧ w'.cell? ⟨gb233, 5, none⟩ = some (.int .i64 a1_5) ∧ w'.cell? ⟨gb233, 6, none⟩ = some (.int .i64 a1_6) ∧ w'.cell? ⟨gb233, 7, none⟩ = some (.slice A1_7 l1_7.length c1_7) ∧ w'.cell? (ad246.add (t243).toNat) = some (.int .i64 (rd t238 t243))) (ds := [9]) (bz 10 0) (by kernel_rfl) rfl (by kernel_rfl) ⟨(blk_cell BK241.out 0).trans rfl, (blk_cell BK241.out 1).trans rfl, (blk_cell BK233.out 0).trans rfl, (blk_cell BK233.out 1).trans rfl, (blk_cell BK233.out 2).trans rfl, (blk_cell BK233.out 3).trans rfl, (blk_cell BK233.out 4).trans rfl, (blk_cell BK233.out 5).trans rfl, (blk_cell BK233.out 6).trans rfl, (blk_cell BK233.out 7).trans rfl, hx246_0⟩ (fun hHeld => ?_); refine with_tabW impl_SpendCredits.tab6 impl_SpendCredits.bits6 (fun HT_ HW_ => ?_); generalize w35.drew = w36 at HO237 HO240 BK232 BK233 BK234 BK241 HB hx246_0 hHeld ⊢; refine pv 0 24 (bz 10 1) HT_ (h := ?_); refine pv 2 26 (bz 10 5) HT_ (h := ?_); refine tv11 1 25 (bz 10 7) HT_ HW_ hHeld (h := ?_); refine pv 3 27 (bz 10 15) HT_ (h := ?_); refine tv11 4 28 (bz 10 31) HT_ HW_ hHeld (h := ?_); refine tv11 5 29 (bz 10 63) HT_ HW_ hHeld (h := ?_); refine one_ (i := 6) (N := some 30) (bz 10 127) rfl rfl (one_of HT_.out (by kernel_rfl)) (by decide) (fun K hK => ?_); refine goes_ Try.func82 (by kernel_rfl) rfl #[.agg #[.int .i64 a1_0, .int .i64 a1_1, .int .i64 a1_2, .int .i64 a1_3, .int .i64 a1_4, .int .i64 a1_5, .int .i64 a1_6, .slice A1_7 l1_7.length c1_7]] (by rfl) rfl rfl ms ?_; (with_reducible refine (impl_PacketUnits.calls k a1_0 a1_1 a1_2 a1_3 a1_4 a1_5 a1_6 _ _ l1_7 t247 _ ?side1 ?side2 A11.out).mono ?_)
     (case side1 => exact kc)
     (case side2 => exact HC1_7.out)
     rintro e w37 ⟨rfl, hb⟩; have HS10_ := (hb.cell (World.block_lt_of_cell? _ _ (hHeld.2.2.2.2.2.2.2.2.2.2))).trans (hHeld.2.2.2.2.2.2.2.2.2.2); refine ⟨_, rfl, ?_⟩; have t_ := fc7 (R_below (ra HO237.out) hb) (R_below (ra HO240.out) hb) (bw BK232 hb) (bw BK233 hb) (bw BK234 hb) (bw BK241 hb) (below_step bb hb); clear HO237 HO240 BK232 BK233 BK234 BK241 HB; obtain ⟨HO237, HO240, BK232, BK233, BK234, BK241, HB⟩ := t_; (try clear hb); (try clear hb2); (try clear hk); (try clear hi); have p12 : 0 ≤ (t243 : Int) := od_; have q12 : (t243 : Int) < ((t238.length : Int) : Int) := od_; obtain ⟨go12, co12, eo12, gb12, gl12, cl12, HG12⟩ := Kd.R_form HO240.out (by omega); (first | cases eo12 | (injection eo12 with ea_ en_ ec_; (first | subst ea_ | (injection ea_ with ea_; subst ea_)); subst ec_; clear en_)); have GB12 := Aside0.mk gb12; have GG12 := Aside0.mk HG12; clear gb12 gl12 HG12; (first | simp only [add_plain] at hx246_0 | skip); obtain ⟨hx12_0, hf12_0⟩ := Kd.R_celln 0 HO240.out (t243 : Int) p12 q12; replace p12 := eq_true p12; replace q12 := eq_true q12; have HP38 := Kd.R_putn HO240.out (t243 : Int) (wrap64 ((rd t238 t243) - t247)); rw [← Ny248.out] at HP38; have HQ38 := Aside0.mk HP38; clear HP38; refine hK.out _ _ ⟨(blk_cell BK241.out 0).trans rfl, (blk_cell BK241.out 1).trans rfl, (blk_cell BK233.out 0).trans rfl, (blk_cell BK233.out 1).trans rfl, (blk_cell BK233.out 2).trans rfl, (blk_cell BK233.out 3).trans rfl, (blk_cell BK233.out 4).trans rfl, (blk_cell BK233.out 5).trans rfl, (blk_cell BK233.out 6).trans rfl, (blk_cell BK233.out 7).trans rfl, HS10_⟩ (fun hHeld => ?_); clear hK K; refine norm_ (a' := ?_) ?_ ?_; rotate_left
     ·show Act.put _ (some 30) _ = _
      simp only [Act.put, List.setIfInBounds_toArray, List.set_cons_zero, List.set_cons_succ, i64_w, i32_w]; rfl
     refine pv 7 31 (bz 10 255) HT_ (h := ?_); refine pv 8 32 (bz 10 511) HT_ (h := ?_); refine last_ (i := 9) (N := none) (bz 10 1023) rfl rfl (one_of HT_.out (by kernel_rfl)) (by decide) (fun K hK => ?_); refine skip_ (w1 := ?_) (by rfl) rfl ?_ ?_; rotate_left
     ·go_simp
      rfl
     refine hK.out _ _ ?_; clear hK K; refine done_ (done_of HT_.out (by kernel_rfl)) ?_
     have n0_ : Aside0 (Kd.R (Kd.int .i64) 3 (w37.setCell ⟨go12, (t243 : Int).toNat, none⟩ (.int .i64 (wrap64 ((rd t238 t243) - t247)))) w.heap.size (fun k_ => some k_ ≠ (.slice (some ⟨go12, 0, none⟩) t238.length co26 : Value).ownBlock) (.slice (some ⟨go9, 0, none⟩) t235.length co21) y245) := ⟨by (with_reducible repeat (first | apply R_alloc | apply R_drewN | apply R_drew)); exact R_mono (R_far (p := ⟨go12, (t243 : Int).toNat, none⟩) (R_mono HO237.out (fun k_ hk => (⟨hk, fun e_ => hk (by rw [e_]; rfl)⟩ : _ ∧ k_ ≠ go12))) fk (.int .i64 (wrap64 ((rd t238 t243) - t247)))) (fun _ hk => by first | exact hk.1 | exact hk)⟩
     have n1_ : Aside0 (Kd.R (Kd.int .i64) 3 (w37.setCell ⟨go12, (t243 : Int).toNat, none⟩ (.int .i64 (wrap64 ((rd t238 t243) - t247)))) w.heap.size (fun k_ => some k_ ≠ (.slice (some ⟨go9, 0, none⟩) t235.length co21 : Value).ownBlock) (.slice (some ⟨go12, 0, none⟩) t238.length co26) y248) := ⟨by (with_reducible repeat (first | apply R_alloc | apply R_drewN | apply R_drew)); exact R_mono HQ38.out fk⟩
     have n2_ : Aside0 ((w37.setCell ⟨go12, (t243 : Int).toNat, none⟩ (.int .i64 (wrap64 ((rd t238 t243) - t247)))).heap[gb232]? = some (.cells #[.slice A0_0 l0_0.length c0_0, .slice A0_1 l0_1.length c0_1] 27 (0, 0))) := ⟨by refine blk_far ?_ (by have h_ := R_ne HO240.out BK232.out (by decide); intro e_; exact h_ (by rw [e_]; rfl)) _; exact bk⟩
     have n3_ : Aside0 ((w37.setCell ⟨go12, (t243 : Int).toNat, none⟩ (.int .i64 (wrap64 ((rd t238 t243) - t247)))).heap[gb233]? = some (.cells #[.int .i64 a1_0, .int .i64 a1_1, .int .i64 a1_2, .int .i64 a1_3, .int .i64 a1_4, .int .i64 a1_5, .int .i64 a1_6, .slice A1_7 l1_7.length c1_7] 33 (0, 0))) := ⟨by refine blk_far ?_ (by have h_ := R_ne HO240.out BK233.out (by decide); intro e_; exact h_ (by rw [e_]; rfl)) _; exact bk⟩
     have n4_ : Aside0 ((w37.setCell ⟨go12, (t243 : Int).toNat, none⟩ (.int .i64 (wrap64 ((rd t238 t243) - t247)))).heap[gb234]? = some (.cells #[.slice none 0 0, .slice none 0 0] 27 (0, 0))) := ⟨by refine blk_far ?_ (by have h_ := R_ne HO240.out BK234.out (by decide); intro e_; exact h_ (by rw [e_]; rfl)) _; exact bk⟩
     have n5_ : Aside0 ((w37.setCell ⟨go12, (t243 : Int).toNat, none⟩ (.int .i64 (wrap64 ((rd t238 t243) - t247)))).heap[gb241]? = some (.cells #[.slice (some ⟨go9, 0, none⟩) t235.length co21, .slice (some ⟨go12, 0, none⟩) t238.length co26] 27 (0, 0))) := ⟨by refine blk_far ?_ (by have h_ := R_ne HO240.out BK241.out (by decide); intro e_; exact h_ (by rw [e_]; rfl)) _; exact bk⟩
     have n6_ : Aside0 (Below w.heap.size w (w37.setCell ⟨go12, (t243 : Int).toNat, none⟩ (.int .i64 (wrap64 ((rd t238 t243) - t247))))) := ⟨by repeat (first | (with_reducible first | exact HB.out | apply below_alloc | apply pw_below_drewN | apply below_drew1 | refine below_set ?_ GB12.out | refine below_set ?_ GE232.out | refine below_set ?_ GE233.out | refine below_set ?_ GE234.out | refine below_set ?_ GE241.out) | exact HB.out)⟩
     (try clear HO237); (try clear HO240); (try clear BK232); (try clear BK233); (try clear BK234); (try clear BK241); (try clear HB); generalize (w37.setCell ⟨go12, (t243 : Int).toNat, none⟩ (.int .i64 (wrap64 ((rd t238 t243) - t247)))) = w39 at n0_ n1_ n2_ n3_ n4_ n5_ n6_ ⊢; have HO237 := n0_; have HO240 := n1_; have BK232 := n2_; have BK233 := n3_; have BK234 := n4_; have BK241 := n5_; have HB := n6_; clear n0_ n1_ n2_ n3_ n4_ n5_ n6_; obtain ⟨hcz40_0, hcz40_1, hfz40_0, hfz40_1⟩ := bx2 BK241.out; obtain ⟨hcz41_0, hcz41_1, hfz41_0, hfz41_1⟩ := bx2 BK234.out; (try go_wp2); refine bodyPost_ret (results_ct rfl _ _ gb234 27 #[.slice (some ⟨go9, 0, none⟩) t235.length co21, .slice (some ⟨go12, 0, none⟩) t238.length co26] (0, 0) _ rfl (by refine blk_put (cs := #[.slice (some ⟨go9, 0, none⟩) t235.length co21, .slice none 0 0]) ?_ 1 _ rfl; refine blk_put (cs := #[.slice none 0 0, .slice none 0 0]) ?_ 0 _ rfl; exact bk) Try.underlying27 rfl (by kernel_rfl)) rfl ?_; exact ⟨_, _, er, by (with_reducible repeat (first | apply R_alloc | apply R_drewN | apply R_drew)); exact R_mono (rf2 HO237 BK234 (.slice (some ⟨go9, 0, none⟩) t235.length co21) (.slice (some ⟨go12, 0, none⟩) t238.length co26)) (fun _ hk => by first | exact hk.1 | exact hk), by (with_reducible repeat (first | apply R_alloc | apply R_drewN | apply R_drew)); exact R_mono (rf2 HO240 BK234 (.slice (some ⟨go9, 0, none⟩) t235.length co21) (.slice (some ⟨go12, 0, none⟩) t238.length co26)) (fun _ hk => by first | exact hk.1 | exact hk), bb⟩
    ·rw [if_neg c10] at H
     exact absurd H (by simp)
   ·rw [if_neg c8] at H
    exact absurd H (by simp)
  ·rw [if_neg c7] at H
   exact absurd H (by simp)
 ·replace c5 := Bool.eq_false_iff.mpr c5
  subst c5; (have H1 : (some (t235, t238, false)) = some (r1, r2, r3) := by rw [if_neg (show ¬ (false = true) by decide)] at H; exact H); clear H; have H := H1; clear H1; simp only [Option.some.injEq, Prod.mk.injEq] at H; obtain ⟨rfl, rfl, rfl⟩ := H; go_enter Try.func77, Try.ntmps77; go_wp2_with (first | ((with_reducible refine gate_dst (N := 2) rfl ?_); refine box_event ?hg (N := 2) ?hd (cs := #[.slice A0_0 l0_0.length c0_0, .slice A0_1 l0_1.length c0_1]) (t := 27) ?hr ?_; (case hd => rfl); (case hg => rfl); (case hr => exact hr_); intro gb232 hg w42 hbox hb; have t_ := fc4 (below_step bb hb) (hbox) (bg hg : w.heap.size ≤ gb232) (bg hg : w.heap.size ≤ gb232); clear HB; obtain ⟨HB, BK232, GW232, GE232⟩ := t_; clear hb hbox hg) | ((with_reducible refine gate_dst (N := 3) rfl ?_); refine box_event ?hg (N := 3) ?hd (cs := #[.int .i64 a1_0, .int .i64 a1_1, .int .i64 a1_2, .int .i64 a1_3, .int .i64 a1_4, .int .i64 a1_5, .int .i64 a1_6, .slice A1_7 l1_7.length c1_7]) (t := 33) ?hr ?_; (case hd => rfl); (case hg => rfl); (case hr => exact hr_); intro gb233 hg w43 hbox hb; have t_ := fc7 (bw BK232 hb) (below_step bb hb) (hbox) (bg hg : w.heap.size ≤ gb233) (bg hg : w.heap.size ≤ gb233) ((nl BK232 hg : gb232 ≠ gb233)) ((ng BK232 hg : gb233 ≠ gb232)); clear BK232 HB; obtain ⟨BK232, HB, BK233, GW233, GE233, NB232_233, NB233_232⟩ := t_; clear hb hbox hg) | ((with_reducible refine gate_dst (N := 4) rfl ?_); refine box_event ?hg (N := 4) ?hd (cs := #[.slice none 0 0, .slice none 0 0]) (t := 27) ?hr ?_; (case hd => rfl); (case hg => rfl); (case hr => exact hr_); intro gb234 hg w44 hbox hb; have t_ := fc10 (bw BK232 hb) (bw BK233 hb) (below_step bb hb) (hbox) (bg hg : w.heap.size ≤ gb234) (bg hg : w.heap.size ≤ gb234) ((nl BK232 hg : gb232 ≠ gb234)) ((ng BK232 hg : gb234 ≠ gb232)) ((nl BK233 hg : gb233 ≠ gb234)) ((ng BK233 hg : gb234 ≠ gb233)); clear BK232 BK233 HB; obtain ⟨BK232, BK233, HB, BK234, GW234, GE234, NB232_234, NB234_232, NB233_234, NB234_233⟩ := t_; clear hb hbox hg; have hnb45 := NB232_233.out; have hnc45 := NB233_232.out; have hnb46 := NB232_234.out; have hnc46 := NB234_232.out; obtain ⟨hcz47_0, hcz47_1, hfz47_0, hfz47_1⟩ := bx2 BK232.out) | ((with_reducible refine gate_callee (f := 74) rfl ?_); refine goesL_ (some 9) rfl rfl Try.func74 (by kernel_rfl) rfl #[.agg #[.slice A0_0 l0_0.length c0_0, .slice A0_1 l0_1.length c0_1]] rfl ms ?_; (with_reducible refine (impl_copyCredits.calls _ _ l0_0 _ _ l0_1 t235 t238 _ ?side1 ?side2 ?side3 ?side4 A3.out).mono ?_); (case side1 => exact kc); (case side2 => exact HC0_0.out); (case side3 => exact kc); (case side4 => exact HC0_1.out); rintro e w48 ⟨v236, v239, rfl, ho0, ho1, hb⟩; refine ⟨_, rfl, ?_⟩; have t_ := fc6 (R_lower ho0 (below_size bb)) (R_lower ho1 (below_size bb)) (bw BK232 hb) (bw BK233 hb) (bw BK234 hb) (below_step bb hb); clear BK232 BK233 BK234 HB; obtain ⟨HO237, HO240, BK232, BK233, BK234, HB⟩ := t_; (try clear hb); (try clear hk); (try clear ho0); (try clear ho1)) | ((with_reducible refine gate_dst (N := 6) rfl ?_); refine box_event ?hg (N := 6) ?hd (cs := #[.slice none 0 0, .slice none 0 0]) (t := 27) ?hr ?_; (case hd => rfl); (case hg => rfl); (case hr => exact hr_); intro gb241 hg w49 hbox hb; have t_ := fc15 (R_below (ra HO237.out) hb) (R_below (ra HO240.out) hb) (bw BK232 hb) (bw BK233 hb) (bw BK234 hb) (below_step bb hb) (hbox) (bg hg : w.heap.size ≤ gb241) (bg hg : w.heap.size ≤ gb241) ((nl BK232 hg : gb232 ≠ gb241)) ((ng BK232 hg : gb241 ≠ gb232)) ((nl BK233 hg : gb233 ≠ gb241)) ((ng BK233 hg : gb241 ≠ gb233)) ((nl BK234 hg : gb234 ≠ gb241)) ((ng BK234 hg : gb241 ≠ gb234)); clear HO237 HO240 BK232 BK233 BK234 HB; obtain ⟨HO237, HO240, BK232, BK233, BK234, HB, BK241, GW241, GE241, NB232_241, NB241_232, NB233_241, NB241_233, NB234_241, NB241_234⟩ := t_; clear hb hbox hg; obtain ⟨Ao50, co50, eo50⟩ := R_slice HO237.out; subst eo50; have hnb51 := NB241_232.out; have hnc51 := NB232_241.out; have hnb52 := NB241_233.out; have hnc52 := NB233_241.out; have hnb53 := NB241_234.out; have hnc53 := NB234_241.out; obtain ⟨hcz54_0, hcz54_1, hfz54_0, hfz54_1⟩ := bx2 BK241.out; obtain ⟨Ao55, co55, eo55⟩ := R_slice HO240.out; subst eo55; obtain ⟨hcz56_0, hcz56_1, hfz56_0, hfz56_1⟩ := bx2 BK232.out; have hnb57 := NB233_234.out; have hnc57 := NB234_233.out; obtain ⟨hcz58_0, hcz58_1, hcz58_2, hcz58_3, hcz58_4, hcz58_5, hcz58_6, hcz58_7, hfz58_0, hfz58_1, hfz58_2, hfz58_3, hfz58_4, hfz58_5, hfz58_6, hfz58_7⟩ := bx8 BK233.out) | ((with_reducible refine gate_callee (f := 52) rfl ?_); refine goesL_ (some 12) rfl rfl Try.func52 (by kernel_rfl) rfl #[.agg #[.slice A0_0 l0_0.length c0_0, .slice A0_1 l0_1.length c0_1], .agg #[.int .i64 a1_0, .int .i64 a1_1, .int .i64 a1_2, .int .i64 a1_3, .int .i64 a1_4, .int .i64 a1_5, .int .i64 a1_6, .slice A1_7 l1_7.length c1_7]] rfl ms ?_; (with_reducible refine (impl_CanSend.calls k _ _ l0_0 _ _ l0_1 a1_0 a1_1 a1_2 a1_3 a1_4 a1_5 a1_6 _ _ l1_7 false _ ?side1 ?side2 ?side3 ?side4 ?side5 ?side6 A4.out).mono ?_); (case side1 => exact C_below HR0_0.out bb); (case side2 => exact HC0_0.out); (case side3 => exact C_below HR0_1.out bb); (case side4 => exact HC0_1.out); (case side5 => exact C_below HR1_7.out bb); (case side6 => exact HC1_7.out); rintro e w59 ⟨rfl, hb⟩; refine ⟨_, rfl, ?_⟩; have t_ := fc7 (R_below (ra (R_mono (rf2 HO237 BK241 (.slice Ao50 t235.length co50) (.slice Ao55 t238.length co55)) (fun _ h_ => h_.1))) hb) (R_below (ra (R_mono (rf2 HO240 BK241 (.slice Ao50 t235.length co50) (.slice Ao55 t238.length co55)) (fun _ h_ => h_.1))) hb) (blk_below (g := gb232) (o := .cells #[.slice A0_0 l0_0.length c0_0, .slice A0_1 l0_1.length c0_1] 27 (0, 0)) (by refine blk_far ?_ NB232_241.out _; refine blk_far ?_ NB232_241.out _; exact bk) hb) (blk_below (g := gb233) (o := .cells #[.int .i64 a1_0, .int .i64 a1_1, .int .i64 a1_2, .int .i64 a1_3, .int .i64 a1_4, .int .i64 a1_5, .int .i64 a1_6, .slice A1_7 l1_7.length c1_7] 33 (0, 0)) (by refine blk_far ?_ NB233_241.out _; refine blk_far ?_ NB233_241.out _; exact bk) hb) (blk_below (g := gb234) (o := .cells #[.slice none 0 0, .slice none 0 0] 27 (0, 0)) (by refine blk_far ?_ NB234_241.out _; refine blk_far ?_ NB234_241.out _; exact bk) hb) (blk_below (g := gb241) (o := .cells #[.slice Ao50 t235.length co50, .slice Ao55 t238.length co55] 27 (0, 0)) (by refine blk_put (cs := #[.slice Ao50 t235.length co50, .slice none 0 0]) ?_ 1 _ rfl; refine blk_put (cs := #[.slice none 0 0, .slice none 0 0]) ?_ 0 _ rfl; exact bk) hb) (below_step bb hb); clear HO237 HO240 BK232 BK233 BK234 BK241 HB; obtain ⟨HO237, HO240, BK232, BK233, BK234, BK241, HB⟩ := t_; (try clear hb); (try clear hk); obtain ⟨hcz60_0, hcz60_1, hfz60_0, hfz60_1⟩ := bx2 BK241.out; obtain ⟨hcz61_0, hcz61_1, hfz61_0, hfz61_1⟩ := bx2 BK234.out)); refine bodyPost_ret (results_ct rfl _ _ gb234 27 #[.slice Ao50 t235.length co50, .slice Ao55 t238.length co55] (0, 0) _ rfl (by refine blk_put (cs := #[.slice Ao50 t235.length co50, .slice none 0 0]) ?_ 1 _ rfl; refine blk_put (cs := #[.slice none 0 0, .slice none 0 0]) ?_ 0 _ rfl; exact bk) Try.underlying27 rfl (by kernel_rfl)) rfl ?_; exact ⟨_, _, er, by (with_reducible repeat (first | apply R_alloc | apply R_drewN | apply R_drew)); exact R_mono (rf2 HO237 BK234 (.slice Ao50 t235.length co50) (.slice Ao55 t238.length co55)) (fun _ hk => by first | exact hk.1 | exact hk), by (with_reducible repeat (first | apply R_alloc | apply R_drewN | apply R_drew)); exact R_mono (rf2 HO240 BK234 (.slice Ao50 t235.length co50) (.slice Ao55 t238.length co55)) (fun _ hk => by first | exact hk.1 | exact hk), bb⟩

def QHas (w : World) (base : Nat) (v0 v1 v2 v3 : Value) (l0 : List S33) (l1 l2 : List Int) (l3 : List S33) : Prop :=
  ∃ P0 P1 P2 P3 : Nat → Prop, Kd.S k33 33 w base P0 v0 l0 ∧ Kd.R (Kd.int .i64) 3 w base P1 v1 l1 ∧ Kd.R (Kd.int .i64) 3 w base P2 v2 l2 ∧ Kd.S k33 33 w base P3 v3 l3 ∧
    (∀ k, P0 k → ¬ P1 k ∧ ¬ P2 k ∧ ¬ P3 k) ∧ (∀ k, P1 k → ¬ P2 k ∧ ¬ P3 k) ∧ (∀ k, P2 k → ¬ P3 k)
theorem QHas.below {w w1 : World} {b : Nat} {v0 v1 v2 v3 : Value} {l0 : List S33} {l1 l2 : List Int} {l3 : List S33} (h : QHas w b v0 v1 v2 v3 l0 l1 l2 l3) (hb : Below w.heap.size w w1) : QHas w1 b v0 v1 v2 v3 l0 l1 l2 l3 := by
  obtain ⟨P0, P1, P2, P3, a0, a1, a2, a3, d⟩ := h
  exact ⟨P0, P1, P2, P3, Kd.S_below a0 hb, Kd.R_below a1 hb, Kd.R_below a2 hb, Kd.S_below a3 hb, d⟩
theorem QHas.set {w : World} {b g : Nat} {cs : Array Value} {v0 v1 v2 v3 : Value} {l0 : List S33} {l1 l2 : List Int} {l3 : List S33} (h : QHas w b v0 v1 v2 v3 l0 l1 l2 l3) (hb : w.heap[g]? = some (.cells cs 29 (0, 0))) (j : Nat) (u : Value) : QHas (w.setCell ⟨g, j, none⟩ u) b v0 v1 v2 v3 l0 l1 l2 l3 := by
  obtain ⟨P0, P1, P2, P3, a0, a1, a2, a3, d⟩ := h
  exact ⟨P0, P1, P2, P3, Kd.S_set a0 hb (by decide) j u, Kd.R_set a1 hb (by decide) j u, Kd.R_set a2 hb (by decide) j u, Kd.S_set a3 hb (by decide) j u, d⟩
theorem QHas.lower {w : World} {b b' : Nat} {v0 v1 v2 v3 : Value} {l0 : List S33} {l1 l2 : List Int} {l3 : List S33} (h : QHas w b v0 v1 v2 v3 l0 l1 l2 l3) (hb : b' ≤ b) : QHas w b' v0 v1 v2 v3 l0 l1 l2 l3 := by
  obtain ⟨P0, P1, P2, P3, a0, a1, a2, a3, d⟩ := h
  exact ⟨P0, P1, P2, P3, Kd.S_lower a0 hb, Kd.R_lower a1 hb, Kd.R_lower a2 hb, Kd.S_lower a3 hb, d⟩
theorem QHas.form {w : World} {b : Nat} {v0 v1 v2 v3 : Value} {l0 : List S33} {l1 l2 : List Int} {l3 : List S33} (h : QHas w b v0 v1 v2 v3 l0 l1 l2 l3) : ∃ A0 c0 A1 c1 A2 c2 A3 c3, v0 = .slice A0 l0.length c0 ∧ v1 = .slice A1 l1.length c1 ∧ v2 = .slice A2 l2.length c2 ∧ v3 = .slice A3 l3.length c3 := by
  obtain ⟨P0, P1, P2, P3, a0, a1, a2, a3, d⟩ := h
  obtain ⟨A0, c0, rfl⟩ := Kd.S_slice a0
  obtain ⟨A1, c1, rfl⟩ := Kd.R_slice a1
  obtain ⟨A2, c2, rfl⟩ := Kd.R_slice a2
  obtain ⟨A3, c3, rfl⟩ := Kd.S_slice a3
  exact ⟨_, _, _, _, _, _, _, _, rfl, rfl, rfl, rfl⟩
theorem QHas.reads {w : World} {b : Nat} {A0 A1 A2 A3 : Option Addr} {c0 c1 c2 c3 n0 n1 n2 n3 : Nat} {l0 : List S33} {l1 l2 : List Int} {l3 : List S33} (h : QHas w b (.slice A0 n0 c0) (.slice A1 n1 c1) (.slice A2 n2 c2) (.slice A3 n3 c3) l0 l1 l2 l3) :
    (l0.length ≤ c0 ∧ Kd.C k33 w A0 l0.length l0) ∧ (l1.length ≤ c1 ∧ Kd.C (Kd.int .i64) w A1 l1.length l1) ∧ (l2.length ≤ c2 ∧ Kd.C (Kd.int .i64) w A2 l2.length l2) ∧ (l3.length ≤ c3 ∧ Kd.C k33 w A3 l3.length l3) := by
  obtain ⟨P0, P1, P2, P3, a0, a1, a2, a3, d⟩ := h
  obtain ⟨e0, f0, g0⟩ := Kd.S_reads' a0
  obtain ⟨e1, f1, g1⟩ := Kd.R_reads' a1
  obtain ⟨e2, f2, g2⟩ := Kd.R_reads' a2
  obtain ⟨e3, f3, g3⟩ := Kd.S_reads' a3
  exact ⟨⟨by omega, g0⟩, ⟨by omega, g1⟩, ⟨by omega, g2⟩, ⟨by omega, g3⟩⟩
set_option maxHeartbeats 4000000 in
set_option maxRecDepth 1000000 in
theorem impl_copyQueue.callsQ (k : Nat) (A0 : Option Addr) (c0 : Nat) (l0 : List S33) (A1 : Option Addr) (c1 : Nat) (l1 : List Int) (A2 : Option Addr) (c2 : Nat) (l2 : List Int) (A3 : Option Addr) (c3 : Nat) (l3 : List S33) (r0 : List S33) (r1 r2 : List Int) (r3 : List S33) (w : World)
    (hr0 : Kd.C k33 w A0 l0.length l0) (hc0 : l0.length ≤ c0) (hr1 : Kd.C (Kd.int .i64) w A1 l1.length l1) (hc1 : l1.length ≤ c1) (hr2 : Kd.C (Kd.int .i64) w A2 l2.length l2) (hc2 : l2.length ≤ c2) (hr3 : Kd.C k33 w A3 l3.length l3) (hc3 : l3.length ≤ c3)
    (h : impl_copyQueue.f k l0 l1 l2 l3 = some (r0, r1, r2, r3)) :
    Calls Try.prog 38 #[.agg #[.slice A0 l0.length c0, .slice A1 l1.length c1, .slice A2 l2.length c2, .slice A3 l3.length c3]] w fun e w' => ∃ u0 u1 u2 u3 : Value, e = .returned (.agg #[u0, u1, u2, u3]) ∧ QHas w' w.heap.size u0 u1 u2 u3 r0 r1 r2 r3 ∧ Below w.heap.size w w' := by
  unfold impl_copyQueue.f at h
  obtain ⟨y0, h0, h⟩ := Option.bind_eq_some_iff.1 h
  obtain ⟨⟨y1, y2⟩, h1, h⟩ := Option.bind_eq_some_iff.1 h
  obtain ⟨y3, h3, h⟩ := Option.bind_eq_some_iff.1 h
  injection h with h; injection h with e1 e2; injection e2 with e2 e3; injection e3 with e3 e4
  subst e1 e2 e3 e4
  have hu29 := Try.underlying29
  have hu27 := Try.underlying27
  have mixed : Try.prog.follows Departure.mixedOrders = true := by kernel_rfl
  have late : Try.prog.follows Departure.lateStores = true := by kernel_rfl
  have H0 := Aside0.mk h0
  have H1 := Aside0.mk h1
  have H3 := Aside0.mk h3
  clear h0 h1 h3
  go_enter Try.func38, Try.ntmps38
  go_wp2_with fail
  obtain ⟨gb, hgb⟩ : ∃ gb, gb = w.heap.size := ⟨_, rfl⟩
  obtain ⟨W, hW⟩ : ∃ W, W = (w.alloc (.cells #[.slice A0 l0.length c0, .slice A1 l1.length c1, .slice A2 l2.length c2, .slice A3 l3.length c3] 29)).alloc (.cells #[.slice none 0 0, .slice none 0 0, .slice none 0 0, .slice none 0 0] 29) := ⟨_, rfl⟩
  have hBW : Below w.heap.size w W.drew := by rw [hW]; exact below_drew ((below_alloc (Below.refl _ _) _).alloc (below_alloc (Below.refl _ _) _).size _)
  have hsz : gb + 2 ≤ W.drew.heap.size := by rw [hW, hgb]; show w.heap.size + 2 ≤ ((w.heap.push _).push _).size; rw [Array.size_push, Array.size_push]; exact Nat.le_refl _
  have hqa : W.drew.heap[gb]? = some (.cells #[.slice A0 l0.length c0, .slice A1 l1.length c1, .slice A2 l2.length c2, .slice A3 l3.length c3] 29 (0, 0)) := by rw [hW, hgb]; exact blk_alloc (heap_alloc_new w _) _
  have hqb : W.drew.heap[gb + 1]? = some (.cells #[.slice none 0 0, .slice none 0 0, .slice none 0 0, .slice none 0 0] 29 (0, 0)) := by
    rw [hW, hgb]
    have h_ := heap_alloc_new (w.alloc (.cells #[.slice A0 l0.length c0, .slice A1 l1.length c1, .slice A2 l2.length c2, .slice A3 l3.length c3] 29)) (.cells #[.slice none 0 0, .slice none 0 0, .slice none 0 0, .slice none 0 0] 29)
    have e_ : (w.alloc (.cells #[.slice A0 l0.length c0, .slice A1 l1.length c1, .slice A2 l2.length c2, .slice A3 l3.length c3] 29)).heap.size = w.heap.size + 1 := Array.size_push ..
    rw [e_] at h_
    exact h_
  rw [← hW, ← hgb]
  have HGB := Aside0.mk hgb
  clear hW hgb
  have ca0 : W.drew.cell? ⟨gb, 0, none⟩ = some (.slice A0 l0.length c0) := (blk_cell hqa 0).trans rfl
  have ca1 : W.drew.cell? ⟨gb, 1, none⟩ = some (.slice A1 l1.length c1) := (blk_cell hqa 1).trans rfl
  have ca2 : W.drew.cell? ⟨gb, 2, none⟩ = some (.slice A2 l2.length c2) := (blk_cell hqa 2).trans rfl
  have ca3 : W.drew.cell? ⟨gb, 3, none⟩ = some (.slice A3 l3.length c3) := (blk_cell hqa 3).trans rfl
  go_region_held3 (fun w' : World => w'.cell? ⟨gb, 0, none⟩ = some (.slice A0 l0.length c0) ∧ w'.cell? ⟨gb, 1, none⟩ = some (.slice A1 l1.length c1) ∧ w'.cell? ⟨gb, 2, none⟩ = some (.slice A2 l2.length c2) ∧ w'.cell? ⟨gb, 3, none⟩ = some (.slice A3 l3.length c3)) (first | with_reducible exact ⟨ca0, ca1, ca2, ca3⟩ | with_reducible exact ⟨cb0, cb1, cb2, cb3⟩ | with_reducible exact ⟨cd0, cd1, cd2, cd3⟩ | with_reducible exact ⟨ce0, ce1, ce2, ce3⟩ | exact ⟨(ks _ _ _ _ 0).trans ce0, (ks _ _ _ _ 1).trans ce1, (ks _ _ _ _ 2).trans ce2, (ks _ _ _ _ 3).trans ce3⟩) (first
    | (go_simp; go_at_call 73; with_reducible refine (impl_copyPackets.calls k A0 c0 l0 y0 W.drew (Kd.C_below hr0 hBW) hc0 H0.out).mono ?_; rintro e w1 ⟨u0, rfl, hu0, hb1⟩; have hB1 := below_then hBW hBW.size hb1; have hqa1 := (hb1.block _ (blk_lt hqa)).trans hqa; have hqb1 := (hb1.block _ (blk_lt hqb)).trans hqb; have cb0 : w1.cell? ⟨gb, 0, none⟩ = some (.slice A0 l0.length c0) := (blk_cell hqa1 0).trans rfl; have cb1 : w1.cell? ⟨gb, 1, none⟩ = some (.slice A1 l1.length c1) := (blk_cell hqa1 1).trans rfl; have cb2 : w1.cell? ⟨gb, 2, none⟩ = some (.slice A2 l2.length c2) := (blk_cell hqa1 2).trans rfl; have cb3 : w1.cell? ⟨gb, 3, none⟩ = some (.slice A3 l3.length c3) := (blk_cell hqa1 3).trans rfl; obtain ⟨D0, d0, rfl⟩ := Kd.S_slice hu0)
    | (go_simp; go_at_call 74; with_reducible refine (impl_copyCredits.calls A1 c1 l1 A2 c2 l2 y1 y2 w1 (Kd.C_below hr1 hB1) hc1 (Kd.C_below hr2 hB1) hc2 H1.out).mono ?_; rintro e w2 ⟨u1, u2, rfl, hu1, hu2, hb2⟩; have hB2 := below_then hB1 hB1.size hb2; have hqa2 := (hb2.block _ (blk_lt hqa1)).trans hqa1; have hqb2 := (hb2.block _ (blk_lt hqb1)).trans hqb1; have cd0 : w2.cell? ⟨gb, 0, none⟩ = some (.slice A0 l0.length c0) := (blk_cell hqa2 0).trans rfl; have cd1 : w2.cell? ⟨gb, 1, none⟩ = some (.slice A1 l1.length c1) := (blk_cell hqa2 1).trans rfl; have cd2 : w2.cell? ⟨gb, 2, none⟩ = some (.slice A2 l2.length c2) := (blk_cell hqa2 2).trans rfl; have cd3 : w2.cell? ⟨gb, 3, none⟩ = some (.slice A3 l3.length c3) := (blk_cell hqa2 3).trans rfl; obtain ⟨D1, d1, rfl⟩ := Kd.R_slice hu1; obtain ⟨D2, d2, rfl⟩ := Kd.R_slice hu2)
    | (go_simp; go_at_call 73; with_reducible refine (impl_copyPackets.calls k A3 c3 l3 y3 w2 (Kd.C_below hr3 hB2) hc3 H3.out).mono ?_; rintro e w3 ⟨u3, rfl, hu3, hb3⟩; have hB3 := below_then hB2 hB2.size hb3; have hqa3 := (hb3.block _ (blk_lt hqa2)).trans hqa2; have hqb3 := (hb3.block _ (blk_lt hqb2)).trans hqb2; have ce0 : w3.cell? ⟨gb, 0, none⟩ = some (.slice A0 l0.length c0) := (blk_cell hqa3 0).trans rfl; have ce1 : w3.cell? ⟨gb, 1, none⟩ = some (.slice A1 l1.length c1) := (blk_cell hqa3 1).trans rfl; have ce2 : w3.cell? ⟨gb, 2, none⟩ = some (.slice A2 l2.length c2) := (blk_cell hqa3 2).trans rfl; have ce3 : w3.cell? ⟨gb, 3, none⟩ = some (.slice A3 l3.length c3) := (blk_cell hqa3 3).trans rfl; have g0 : w3.cell? ⟨gb + 1, 0, none⟩ = some (.slice none 0 0) := (blk_cell hqb3 0).trans rfl; have g1 : w3.cell? ⟨gb + 1, 1, none⟩ = some (.slice none 0 0) := (blk_cell hqb3 1).trans rfl; have g2 : w3.cell? ⟨gb + 1, 2, none⟩ = some (.slice none 0 0) := (blk_cell hqb3 2).trans rfl; have g3 : w3.cell? ⟨gb + 1, 3, none⟩ = some (.slice none 0 0) := (blk_cell hqb3 3).trans rfl; have f0 := blk_frozen hqb3 0; have f1 := blk_frozen hqb3 1; have f2 := blk_frozen hqb3 2; have f3 := blk_frozen hqb3 3; obtain ⟨D3, d3, rfl⟩ := Kd.S_slice hu3; have ks : ∀ (v0 v1 v2 v3 : Value) (j : Nat), ((((w3.setCell ⟨gb + 1, 0, none⟩ v0).setCell ⟨gb + 1, 1, none⟩ v1).setCell ⟨gb + 1, 2, none⟩ v2).setCell ⟨gb + 1, 3, none⟩ v3).cell? ⟨gb, j, none⟩ = w3.cell? ⟨gb, j, none⟩ := fun v0 v1 v2 v3 j => World.cell?_of_block (((Below.heap_setCell _ ⟨gb + 1, 3, none⟩ v3 gb (by show gb ≠ gb + 1; omega)).trans (Below.heap_setCell _ ⟨gb + 1, 2, none⟩ v2 gb (by show gb ≠ gb + 1; omega))).trans ((Below.heap_setCell _ ⟨gb + 1, 1, none⟩ v1 gb (by show gb ≠ gb + 1; omega)).trans (Below.heap_setCell _ ⟨gb + 1, 0, none⟩ v0 gb (by show gb ≠ gb + 1; omega))))))
  obtain ⟨w4, hw4⟩ : ∃ w4, w4 = ((((w3.setCell ⟨gb + 1, 0, none⟩ (.slice D0 y0.length d0)).setCell ⟨gb + 1, 1, none⟩ (.slice D1 y1.length d1)).setCell ⟨gb + 1, 2, none⟩ (.slice D2 y2.length d2)).setCell ⟨gb + 1, 3, none⟩ (.slice D3 y3.length d3)) := ⟨_, rfl⟩
  have hqb4 : w4.heap[gb + 1]? = some (.cells #[.slice D0 y0.length d0, .slice D1 y1.length d1, .slice D2 y2.length d2, .slice D3 y3.length d3] 29 (0, 0)) := by
    rw [hw4]; exact blk_put (blk_put (blk_put (blk_put hqb3 0 _ rfl) 1 _ rfl) 2 _ rfl) 3 _ rfl
  have far4 : ∀ k, k ≠ gb + 1 → w4.heap[k]? = w3.heap[k]? := fun k hk => by
    rw [hw4]
    exact ((Below.heap_setCell _ ⟨gb + 1, 3, none⟩ _ k hk).trans (Below.heap_setCell _ ⟨gb + 1, 2, none⟩ _ k hk)).trans ((Below.heap_setCell _ ⟨gb + 1, 1, none⟩ _ k hk).trans (Below.heap_setCell _ ⟨gb + 1, 0, none⟩ _ k hk))
  have hge : w.heap.size ≤ gb + 1 := by have := HGB.out; omega
  have hB4 : Below w.heap.size w w4 := by rw [hw4]; exact below_set (below_set (below_set (below_set hB3 hge) hge) hge) hge
  have s0 : W.drew.heap.size ≤ w1.heap.size := hb1.size
  have s1 : w1.heap.size ≤ w2.heap.size := hb2.size
  have s2 : w2.heap.size ≤ w3.heap.size := hb3.size
  have hbase : w.heap.size ≤ W.drew.heap.size := hBW.size
  have z0 := Kd.S_step (Kd.S_mono (ok' := fun k => W.drew.heap.size ≤ k ∧ k < w1.heap.size) (Kd.S_bound hu0) (fun k hk => ⟨hk.2.1, hk.2.2.1⟩)) (w1 := w4) (fun k hk hl => (far4 k (by omega)).trans ((hb3.block k (by omega)).trans (hb2.block k hl)))
  have z1 := Kd.R_step (Kd.R_tight rfl hu1) (w1 := w4) (fun k hk hl => (far4 k (by have := Kd.R_base hu1 k hk.symm; omega)).trans (hb3.block k hl))
  have z2 := Kd.R_step (Kd.R_tight rfl hu2) (w1 := w4) (fun k hk hl => (far4 k (by have := Kd.R_base hu2 k hk.symm; omega)).trans (hb3.block k hl))
  have z3 := Kd.S_step (Kd.S_mono (ok' := fun k => w2.heap.size ≤ k) (Kd.S_bound hu3) (fun k hk => hk.2.1)) (w1 := w4) (fun k hk hl => far4 k (by omega))
  have t1 := Kd.R_base hu1
  have t2 := Kd.R_base hu2
  have t3 := Kd.R_lt hu1
  have t4 := Kd.R_lt hu2
  have n12 := hu1.1
  have v0 : w4.cell? ⟨gb + 1, 0, none⟩ = some (.slice D0 y0.length d0) := (blk_cell hqb4 0).trans rfl
  have v1 : w4.cell? ⟨gb + 1, 1, none⟩ = some (.slice D1 y1.length d1) := (blk_cell hqb4 1).trans rfl
  have v2 : w4.cell? ⟨gb + 1, 2, none⟩ = some (.slice D2 y2.length d2) := (blk_cell hqb4 2).trans rfl
  have v3 : w4.cell? ⟨gb + 1, 3, none⟩ = some (.slice D3 y3.length d3) := (blk_cell hqb4 3).trans rfl
  rw [← hw4]
  clear hw4 ks ca0 ca1 ca2 ca3 cb0 cb1 cb2 cb3 cd0 cd1 cd2 cd3 ce0 ce1 ce2 ce3 g0 g1 g2 g3 f0 f1 f2 f3 hu0 hu3
  go_wp2
  refine bodyPost_ret (results_cell_row rfl _ _ (gb + 1) 29 #[.slice D0 y0.length d0, .slice D1 y1.length d1, .slice D2 y2.length d2, .slice D3 y3.length d3] (0, 0) _ rfl hqb4 hu29 rfl (by kernel_rfl)) rfl ?_
  refine ⟨_, _, _, _, rfl, ⟨fun k => W.drew.heap.size ≤ k ∧ k < w1.heap.size, fun k => some k = (Value.slice D1 y1.length d1).ownBlock, fun k => some k = (Value.slice D2 y2.length d2).ownBlock, fun k => w2.heap.size ≤ k,
    Kd.S_lower z0 hbase, Kd.R_lower z1 (by omega), Kd.R_lower z2 (by omega), Kd.S_lower z3 (by omega), fun k hk => ⟨fun h => ?_, fun h => ?_, fun h => ?_⟩, fun k hk => ⟨fun h => n12 k hk.symm h, fun h => ?_⟩, fun k hk h => ?_⟩, hB4⟩
  · have := t1 k h.symm; omega
  · have := t2 k h.symm; omega
  · omega
  · have := t3 k hk.symm; omega
  · have := t4 k hk.symm; omega
/-- A hole's row with the hole taken out. -/
theorem H_erase {α : Type} {d : Kd α} {e : Nat} {w : World} {base : Nat} {ok : Nat → Prop} {v : Value} {xs : List α} {i : Int} {c : List Value} {f : Nat → Nat}
    (h : (Kd.gap f d i.toNat c).R e w base ok v (xs.zipIdx.eraseIdx i.toNat)) : Kd.S d e w base ok v (xs.eraseIdx i.toNat) := by
  refine Kd.S_erase (f := f) ?_
  obtain ⟨h0, inner, ho, hr⟩ := h
  refine ⟨h0, inner, ho, hr.1, fun j p hj => ?_⟩
  have hne : p.2 ≠ i.toNat := by
    rw [List.getElem?_eraseIdx] at hj
    split at hj
    · rw [List.getElem?_zipIdx] at hj
      obtain ⟨x, _, rfl⟩ := Option.map_eq_some_iff.1 hj
      show 0 + j ≠ _
      omega
    · rw [List.getElem?_zipIdx] at hj
      obtain ⟨x, _, rfl⟩ := Option.map_eq_some_iff.1 hj
      show 0 + (j + 1) ≠ _
      omega
  exact (hr.2 j p hj).2 hne
def impl_Queue_forward.f (k : Nat) (l0 : List S33) (l1 l2 : List Int) (l3 : List S33) : Option (Bool × List S33 × List Int × List Int × List S33) :=
  (impl_Queue_next.f k l0 l1 l2 l3).bind fun i => if i < 0 then some (false, l0, l1, l2, l3) else if (l3.length : Int) = 1000 then some (false, l0, l1, l2, l3)
    else if i < (l0.length : Int) then (if l3.length < 1099511627776 then (impl_SpendCredits.f k l1 l2 (rd_T33 l0 i).f0 (rd_T33 l0 i).f1 (rd_T33 l0 i).f2 (rd_T33 l0 i).f3 (rd_T33 l0 i).f4 (rd_T33 l0 i).f5 (rd_T33 l0 i).f6 (rd_T33 l0 i).f7).bind fun x =>
      some (true, l0.eraseIdx i.toNat, x.1, x.2.1, l3 ++ [rd_T33 l0 i]) else none) else none

set_option maxHeartbeats 4000000 in
set_option maxRecDepth 1000000 in
theorem impl_Queue_forward.calls (k gq : Nat) (v0 v1 v2 v3 : Value) (l0 : List S33) (l1 l2 : List Int) (l3 : List S33) (b : Bool) (r0 : List S33) (r1 r2 : List Int) (r3 : List S33) (w0 w : World) (hB : Below w0.heap.size w0 w) (hgq : w0.heap.size ≤ gq)
    (hq : w.heap[gq]? = some (.cells #[v0, v1, v2, v3] 29 (0, 0))) (hQ : QHas w w0.heap.size v0 v1 v2 v3 l0 l1 l2 l3) (h : impl_Queue_forward.f k l0 l1 l2 l3 = some (b, r0, r1, r2, r3)) :
    Calls Try.prog 40 #[.pointer (some ⟨gq, 0, none⟩)] w fun e w' => e = .returned (.bool b) ∧ Below w0.heap.size w0 w' ∧ ∃ u0 u1 u2 u3, w'.heap[gq]? = some (.cells #[u0, u1, u2, u3] 29 (0, 0)) ∧ QHas w' w0.heap.size u0 u1 u2 u3 r0 r1 r2 r3 := by
  obtain ⟨P0, P1, P2, P3, hS0, hR1, hR2, hS3, d0, d1, d2⟩ := hQ
  obtain ⟨A0, c0, rfl⟩ := Kd.S_slice hS0
  obtain ⟨A1, c1, rfl⟩ := Kd.R_slice hR1
  obtain ⟨A2, c2, rfl⟩ := Kd.R_slice hR2
  obtain ⟨A3, c3, rfl⟩ := Kd.S_slice hS3
  obtain ⟨_, hc0, hC0⟩ := Kd.S_reads' hS0
  obtain ⟨_, hc1, hC1⟩ := Kd.R_reads' hR1
  obtain ⟨_, hc2, hC2⟩ := Kd.R_reads' hR2
  obtain ⟨_, hc3, hC3⟩ := Kd.S_reads' hS3
  have hu29 := Try.underlying29
  have hu27 := Try.underlying27
  have q0 : w.cell? ⟨gq, 0, none⟩ = some (.slice A0 l0.length c0) := (blk_cell hq 0).trans rfl
  have q1 : w.cell? ⟨gq, 1, none⟩ = some (.slice A1 l1.length c1) := (blk_cell hq 1).trans rfl
  have q2 : w.cell? ⟨gq, 2, none⟩ = some (.slice A2 l2.length c2) := (blk_cell hq 2).trans rfl
  have q3 : w.cell? ⟨gq, 3, none⟩ = some (.slice A3 l3.length c3) := (blk_cell hq 3).trans rfl
  unfold impl_Queue_forward.f at h
  obtain ⟨i, hi, h⟩ := Option.bind_eq_some_iff.1 h
  have hn := impl_Queue_next.calls k A0 c0 l0 A1 c1 l1 A2 c2 l2 A3 c3 l3 i w hC0 hc0 hC1 hc1 hC2 hc2 hC3 hc3 hi
  by_cases hneg : i < 0
  · rw [if_pos hneg] at h
    injection h with h; injection h with e1 e2; injection e2 with e2 e3; injection e3 with e3 e4; injection e4 with e4 e5
    subst e1 e2 e3 e4 e5
    have hlt0 : decide (i < 0) = true := decide_eq_true hneg
    go_enter Try.func40, Try.ntmps40
    go_wp2_with (go_at_call 48; refine hn.mono ?_; rintro e w1 ⟨rfl, hb1⟩; have hb0 := below_then hB hB.size hb1; have hq1 := (hb1.block gq (blk_lt hq)).trans hq; have hz0 := Kd.S_below hS0 hb1; have hz1 := Kd.R_below hR1 hb1; have hz2 := Kd.R_below hR2 hb1; have hz3 := Kd.S_below hS3 hb1)
    all_goals first | (exfalso; omega) | skip
    go_ret
    exact ⟨rfl, hb0, _, _, _, _, hq1, P0, P1, P2, P3, hz0, hz1, hz2, hz3, d0, d1, d2⟩
  rw [if_neg hneg] at h
  by_cases hth : (l3.length : Int) = 1000
  · rw [if_pos hth] at h
    injection h with h; injection h with e1 e2; injection e2 with e2 e3; injection e3 with e3 e4; injection e4 with e4 e5
    subst e1 e2 e3 e4 e5
    have hth2 : ((l3.length : Int) == 1000) = true := by simpa using hth
    go_enter Try.func40, Try.ntmps40
    go_wp2_with (go_at_call 48; refine hn.mono ?_; rintro e w1 ⟨rfl, hb1⟩; have hb0 := below_then hB hB.size hb1; have hq1 := (hb1.block gq (blk_lt hq)).trans hq; have y3 := pb_ hb1 q3; have hz0 := Kd.S_below hS0 hb1; have hz1 := Kd.R_below hR1 hb1; have hz2 := Kd.R_below hR2 hb1; have hz3 := Kd.S_below hS3 hb1)
    all_goals first | (exfalso; omega) | skip
    go_ret
    exact ⟨rfl, hb0, _, _, _, _, hq1, P0, P1, P2, P3, hz0, hz1, hz2, hz3, d0, d1, d2⟩
  rw [if_neg hth] at h
  by_cases hlt : i < (l0.length : Int)
  case neg => rw [if_neg hlt] at h; cases h
  rw [if_pos hlt] at h
  by_cases hN : l3.length < 1099511627776
  case neg => rw [if_neg hN] at h; cases h
  rw [if_pos hN] at h
  obtain ⟨⟨x1, x2, x3⟩, hx, h⟩ := Option.bind_eq_some_iff.1 h
  injection h with h; injection h with e1 e2; injection e2 with e2 e3; injection e3 with e3 e4; injection e4 with e4 e5
  subst e1 e2 e3 e4 e5
  have hth2 : ((l3.length : Int) == 1000) = false := by simpa using hth
  obtain ⟨m, rfl⟩ : ∃ m : Nat, i = m := ⟨i.toNat, by omega⟩
  have hm : m < l0.length := by omega
  obtain ⟨g0, cap0, e0, hg0, hg0l, cells0, hcells0⟩ := Kd.S_form hS0 (by omega)
  injection e0 with ea _ ec
  subst ea ec
  have hm2 : (m : Int) < l0.length := by omega
  have HX := Aside0.mk hx
  have HN := Aside0.mk hN
  clear hx hlt hN
  obtain ⟨x, hxe⟩ : ∃ x, x = rd_T33 l0 m := ⟨_, rfl⟩
  rw [← hxe] at HX ⊢
  have HE := Aside0.mk hxe
  clear hxe
  go_enter Try.func40, Try.ntmps40
  go_wp2_with (go_at_call 48; refine hn.mono ?_; rintro e w1 ⟨rfl, hb1⟩; have hB1 := below_drew (below_then hB hB.size hb1); have hq1 : w1.drew.heap[gq]? = some (.cells #[.slice (some ⟨g0, 0, none⟩) l0.length c0, .slice A1 l1.length c1, .slice A2 l2.length c2, .slice A3 l3.length c3] 29 (0, 0)) := (hb1.block gq (blk_lt hq)).trans hq; have y3 := pb_ hb1 q3; have z0 := Kd.S_drew (Kd.S_below hS0 hb1); have z1 := Kd.R_drew (Kd.R_below hR1 hb1); have z2 := Kd.R_drew (Kd.R_below hR2 hb1); have z3 := Kd.S_drew (Kd.S_below hS3 hb1); clear hn hb1 q0 q1 q2 q3 hq hB hS0 hR1 hR2 hS3 hC0 hC1 hC2 hC3 hcells0)
  all_goals first | (exfalso; omega) | skip
  obtain ⟨W, hW⟩ : ∃ W, W = w1.drew := ⟨_, rfl⟩
  rw [← hW] at hB1 hq1 z0 z1 z2 z3
  have y0 : W.cell? ⟨gq, 0, none⟩ = some (.slice (some ⟨g0, 0, none⟩) l0.length c0) := (blk_cell hq1 0).trans rfl
  have y1 : W.cell? ⟨gq, 1, none⟩ = some (.slice A1 l1.length c1) := (blk_cell hq1 1).trans rfl
  have y2 : W.cell? ⟨gq, 2, none⟩ = some (.slice A2 l2.length c2) := (blk_cell hq1 2).trans rfl
  have hg0q : g0 ≠ gq := by
    obtain ⟨_, _, he_, _, _, cs_, hc_⟩ := Kd.S_form z0 (by omega)
    injection he_ with he_; injection he_ with he_; injection he_ with he_; subst he_
    exact blk_ne hc_ hq1 (by decide)
  have hg1 : g0 < W.heap.size := by
    obtain ⟨_, _, he_, _, hl_, _⟩ := Kd.S_form z0 (by omega)
    injection he_ with he_; injection he_ with he_; injection he_ with he_; subst he_
    exact hl_
  replace z0 := Kd.S_mono (ok' := fun k => P0 k ∧ k ≠ gq ∧ k < W.heap.size) (Kd.S_bound (Kd.S_types z0 hq1 (by decide))) (fun k hk => ⟨hk.1.1, hk.1.2, hk.2.2.1⟩)
  replace z3 := Kd.S_mono (ok' := fun k => P3 k ∧ k ≠ gq ∧ k < W.heap.size) (Kd.S_bound (Kd.S_types z3 hq1 (by decide))) (fun k hk => ⟨hk.1.1, hk.1.2, hk.2.2.1⟩)
  have hPg : P0 g0 := ((Kd.S_R z0).1 g0 rfl).1
  obtain ⟨oki, ce, hcl, hM, hcc, hfr, hoki, hH⟩ := Kd.S_elem z0 z33 (m : Int) (by omega) hm2
  have hMx : k33.M W w0.heap.size oki x ce := by rw [HE.out]; exact hM
  obtain ⟨v7, rfl, ge7⟩ := k33_openM hMx
  obtain ⟨A7, c7, rfl⟩ := Kd.R_slice ge7
  have k0 : W.cell? ⟨g0, m * 8, none⟩ = some (.int .i64 x.f0) := hcc 0 _ rfl
  have k1 : W.cell? ⟨g0, m * 8 + 1, none⟩ = some (.int .i64 x.f1) := hcc 1 _ rfl
  have k2 : W.cell? ⟨g0, m * 8 + 2, none⟩ = some (.int .i64 x.f2) := hcc 2 _ rfl
  have k3 : W.cell? ⟨g0, m * 8 + 3, none⟩ = some (.int .i64 x.f3) := hcc 3 _ rfl
  have k4 : W.cell? ⟨g0, m * 8 + 4, none⟩ = some (.int .i64 x.f4) := hcc 4 _ rfl
  have k5 : W.cell? ⟨g0, m * 8 + 5, none⟩ = some (.int .i64 x.f5) := hcc 5 _ rfl
  have k6 : W.cell? ⟨g0, m * 8 + 6, none⟩ = some (.int .i64 x.f6) := hcc 6 _ rfl
  have k7 : W.cell? ⟨g0, m * 8 + 7, none⟩ = some (.slice A7 x.f7.length c7) := hcc 7 _ rfl
  have hsp := impl_SpendCredits.calls k A1 c1 l1 A2 c2 l2 x.f0 x.f1 x.f2 x.f3 x.f4 x.f5 x.f6 A7 c7 x.f7 x1 x2 x3 W (Kd.R_reads' z1).2.2 hc1 (Kd.R_reads' z2).2.2 hc2 (Kd.R_reads' ge7).2.2 (Kd.R_reads' ge7).2.1 HX.out
  subst hW
  have mixed : Try.prog.follows Departure.mixedOrders = true := by kernel_rfl
  have late : Try.prog.follows Departure.lateStores = true := by kernel_rfl
  go_region_law_o (first | (go_simp; go_at_call 77; refine hsp.mono ?_; rintro e w2 ⟨u1, u2, rfl, hu1, hu2, hb2⟩; have hq2 := (hb2.block gq (blk_lt hq1)).trans hq1; have cc1 : w2.cell? ⟨gq, 1, none⟩ = some (.slice A1 l1.length c1) := (blk_cell hq2 1).trans rfl; have cc2 : w2.cell? ⟨gq, 2, none⟩ = some (.slice A2 l2.length c2) := (blk_cell hq2 2).trans rfl; have f1 := blk_frozen hq2 1; have f2 := blk_frozen hq2 2; obtain ⟨B1, b1, rfl⟩ := Kd.R_slice hu1; obtain ⟨B2, b2, rfl⟩ := Kd.R_slice hu2))
  all_goals
    obtain ⟨w3, hw3⟩ : ∃ w3, w3 = (w2.setCell ⟨gq, 1, none⟩ (.slice B1 x1.length b1)).setCell ⟨gq, 2, none⟩ (.slice B2 x2.length b2) := ⟨_, rfl⟩
    have hq3 : w3.heap[gq]? = some (.cells #[.slice (some ⟨g0, 0, none⟩) l0.length c0, .slice B1 x1.length b1, .slice B2 x2.length b2, .slice A3 l3.length c3] 29 (0, 0)) := by
      rw [hw3]; exact blk_put (blk_put hq2 1 _ rfl) 2 _ rfl
    have far3 : ∀ k, k ≠ gq → w3.heap[k]? = w2.heap[k]? := fun k hk => by rw [hw3]; exact (Below.heap_setCell _ ⟨gq, 2, none⟩ _ k hk).trans (Below.heap_setCell _ ⟨gq, 1, none⟩ _ k hk)
    have sz3 : Aside0 (w3.heap.size = w2.heap.size) := ⟨by rw [hw3]; simp [World.setCell]⟩
    have old3 : ∀ k, k ≠ gq → k < w1.drew.heap.size → w3.heap[k]? = w1.drew.heap[k]? := fun k hk hl => (far3 k hk).trans (hb2.block k hl)
    have hb3 : Below w0.heap.size w0 w3 := by
      rw [hw3]
      exact below_set (below_set (below_then hB1 hB1.size hb2) hgq) hgq
    have H3 := Kd.H_step hH (w1 := w3) (fun k hk _ hl => old3 k hk.2.1 hl)
    have y3' := Kd.S_step z3 (w1 := w3) (fun k hk hl => old3 k hk.2.1 hl)
    have M3 : k33.M w3 w0.heap.size oki x _ := Kd.M_step hMx (w1 := w3) (fun k hk hl => old3 k (hoki k hk).1.2.1 hl)
    have r1 := Kd.R_mono (ok' := fun k => some k = (Value.slice B1 x1.length b1).ownBlock) (Kd.R_tight rfl (Kd.R_step (Kd.R_types hu1 hq2 (by decide)) (w1 := w3) (fun k hk hl => far3 k hk.2))) (fun _ h => h)
    have r2 := Kd.R_mono (ok' := fun k => some k = (Value.slice B2 x2.length b2).ownBlock) (Kd.R_tight rfl (Kd.R_step (Kd.R_types hu2 hq2 (by decide)) (w1 := w3) (fun k hk hl => far3 k hk.2))) (fun _ h => h)
    have n12 : ∀ k, some k = (Value.slice B1 x1.length b1).ownBlock → some k ≠ (Value.slice B2 x2.length b2).ownBlock := fun k hk => hu1.1 k hk.symm
    have b1' := Kd.R_base hu1
    have b2' := Kd.R_base hu2
    have l1' := Kd.R_lt r1
    have l2' := Kd.R_lt r2
    have e0 : w3.drew.cell? ⟨g0, m * 8, none⟩ = some (.int .i64 x.f0) := (World.cell?_of_block (old3 g0 hg0q hg1)).trans k0
    have e1 : w3.drew.cell? ⟨g0, m * 8 + 1, none⟩ = some (.int .i64 x.f1) := (World.cell?_of_block (old3 g0 hg0q hg1)).trans k1
    have e2 : w3.drew.cell? ⟨g0, m * 8 + 2, none⟩ = some (.int .i64 x.f2) := (World.cell?_of_block (old3 g0 hg0q hg1)).trans k2
    have e3 : w3.drew.cell? ⟨g0, m * 8 + 3, none⟩ = some (.int .i64 x.f3) := (World.cell?_of_block (old3 g0 hg0q hg1)).trans k3
    have e4 : w3.drew.cell? ⟨g0, m * 8 + 4, none⟩ = some (.int .i64 x.f4) := (World.cell?_of_block (old3 g0 hg0q hg1)).trans k4
    have e5 : w3.drew.cell? ⟨g0, m * 8 + 5, none⟩ = some (.int .i64 x.f5) := (World.cell?_of_block (old3 g0 hg0q hg1)).trans k5
    have e6 : w3.drew.cell? ⟨g0, m * 8 + 6, none⟩ = some (.int .i64 x.f6) := (World.cell?_of_block (old3 g0 hg0q hg1)).trans k6
    have e7 : w3.drew.cell? ⟨g0, m * 8 + 7, none⟩ = some (.slice A7 x.f7.length c7) := (World.cell?_of_block (old3 g0 hg0q hg1)).trans k7
    have p0 : w3.drew.cell? ⟨gq, 0, none⟩ = some (.slice (some ⟨g0, 0, none⟩) l0.length c0) := (blk_cell hq3 0).trans rfl
    have p3 : w3.drew.cell? ⟨gq, 3, none⟩ = some (.slice A3 l3.length c3) := (blk_cell hq3 3).trans rfl
    have p3a : (w3.alloc (.cells #[.int .i64 x.f0, .int .i64 x.f1, .int .i64 x.f2, .int .i64 x.f3, .int .i64 x.f4, .int .i64 x.f5, .int .i64 x.f6, .slice A7 x.f7.length c7] 33)).cell? ⟨gq, 3, none⟩ = some (.slice A3 l3.length c3) := (blk_cell (blk_alloc hq3 _) 3).trans rfl
    rw [← hw3]
    clear hcl hu1 hu2 hH z0 z1 z2 z3 hMx ge7 hM hcc hfr hsp y0 y1 y2 y3 k0 k1 k2 k3 k4 k5 k6 k7 cc1 cc2 f1 f2 hw3
    go_wp2_with fail
    go_region_law_o (first | (refine Kd.S_append_step k33 (w0 := w0) (W := w3.drew) w0.heap.size (by rfl) (.tmp 40) (.tmp 48) 24 33 (.agg #[(.int .i64 0), (.int .i64 0), (.int .i64 0), (.int .i64 0), (.int .i64 0), (.int .i64 0), (.int .i64 0), (.slice none 0 0)]) 80 (by rfl) Try.underlying24 info33 rfl (by decide) (by decide) (.slice A3 l3.length c3) l3 x [.int .i64 x.f0, .int .i64 x.f1, .int .i64 x.f2, .int .i64 x.f3, .int .i64 x.f4, .int .i64 x.f5, .int .i64 x.f6, .slice A7 x.f7.length c7] (fun k => (P3 k ∧ k ≠ gq ∧ k < w1.drew.heap.size) ∨ oki k ∨ w2.heap.size ≤ k) oki (by rfl) (by rfl) (Kd.M_step (w1 := w3.drew) M3 (fun _ _ _ => rfl)) (fun k hk => ⟨Or.inr (Or.inl hk), fun he => (d0 k (hoki k hk).1.1).2.2 ((Kd.S_R y3').1 k he.symm).1⟩) (fun k hk => Or.inr (Or.inr (by rw [← sz3.out]; exact hk))) (Kd.S_mono (Kd.S_drew y3') (fun k hk => ⟨Or.inl hk, fun h2 => (d0 k (hoki k h2).1.1).2.2 hk.1⟩)) (below_drew hb3) hb3.size (by have := HN.out; omega) ?_; intro v5 w4 ho hbl hgr hat; obtain ⟨C5, cc5, rfl⟩ := Kd.S_slice ho; have hq4 := blk_grown (w := w3.drew) hq3 hgr (Kd.S_ne y3' hq3 (by decide)); have f4 := blk_frozen hq4 3; have p4 : w4.cell? ⟨gq, 3, none⟩ = some (.slice A3 l3.length c3) := (blk_cell hq4 3).trans rfl))
  all_goals
    have hlen : (l3 ++ [x]).length = l3.length + 1 := by simp
    rw [hlen] at ho
    obtain ⟨w5, hw5⟩ : ∃ w5, w5 = w4.setCell ⟨gq, 3, none⟩ (.slice C5 (l3.length + 1) cc5) := ⟨_, rfl⟩
    have hq5 : w5.heap[gq]? = some (.cells #[.slice (some ⟨g0, 0, none⟩) l0.length c0, .slice B1 x1.length b1, .slice B2 x2.length b2, .slice C5 (l3.length + 1) cc5] 29 (0, 0)) := by
      rw [hw5]; exact blk_put hq4 3 _ rfl
    have far5 : ∀ k, k ≠ gq → w5.heap[k]? = w4.heap[k]? := fun k hk => by rw [hw5]; exact Below.heap_setCell _ ⟨gq, 3, none⟩ _ k hk
    have hb5 : Below w0.heap.size w0 w5 := by rw [hw5]; exact below_set hbl hgq
    have H5 := Kd.H_step H3 (w1 := w5) (fun k hk _ hl => (far5 k hk.2.1).trans (hgr.block k hl (fun he => (d0 k hk.1).2.2 ((Kd.S_R y3').1 k he.symm).1)))
    have hgq3 : gq < w3.heap.size := blk_lt hq3
    have z5 := Kd.S_mono (ok' := fun k => ((P3 k ∧ k ≠ gq ∧ k < w1.drew.heap.size) ∨ oki k ∨ w2.heap.size ≤ k) ∧ k ≠ gq) (Kd.S_step (Kd.S_types ho hq4 (by decide)) (w1 := w5) (fun k hk _ => far5 k hk.2)) (fun _ h => h)
    have hne5 : ∀ k, (k < w3.heap.size) → w1.drew.heap.size ≤ k → some k ≠ (Value.slice A3 l3.length c3).ownBlock := fun k _ h2 he => by have := ((Kd.S_R y3').1 k he.symm).2.2; omega
    have r15 := Kd.R_step (Kd.R_types r1 hq3 (by decide)) (w1 := w5) (fun k hk hl => (far5 k hk.2).trans (hgr.block k hl (hne5 k hl (b1' k hk.1.symm))))
    have r25 := Kd.R_step (Kd.R_types r2 hq3 (by decide)) (w1 := w5) (fun k hk hl => (far5 k hk.2).trans (hgr.block k hl (hne5 k hl (b2' k hk.1.symm))))
    clear hb3 ho hbl y3' r1 r2 H3 M3 e0 e1 e2 e3 e4 e5 e6 e7 p0 p3 p3a p4 f4
    obtain ⟨_, f, hRg⟩ := H5
    obtain ⟨i0, hi0, hz_⟩ := Option.map_eq_some_iff.1 info33
    simp only [Prod.mk.injEq] at hz_
    have hd := Fns.delete_R (Kd.gap f k33 (m : Int).toNat [.int .i64 x.f0, .int .i64 x.f1, .int .i64 x.f2, .int .i64 x.f3, .int .i64 x.f4, .int .i64 x.f5, .int .i64 x.f6, .slice A7 x.f7.length c7]) rfl i0 hi0 hz_.2.1 g0 l0.length c0 m (m + 1) rfl _ l0.zipIdx w0 w5 hb5 hRg hm
    have u0 : w5.cell? ⟨gq, 0, none⟩ = some (.slice (some ⟨g0, 0, none⟩) l0.length c0) := (blk_cell hq5 0).trans rfl
    have S12 : w1.drew.heap.size ≤ w2.heap.size := hb2.size
    have hw63 : (m : Int) + 1 ≤ 9223372036854775807 := by have := Fns.R_cap hRg; have := (Kd.R_reads' hRg).2.1; omega
    clear hz_ hi0 hRg
    rw [← hw5]
    clear hw5
    go_wp2_with (go_at_call 78; refine hd.mono ?_; rintro e w6 ⟨rfl, hR6, hg6⟩; have hq6 := blk_grown hq5 hg6 (fun e_ => hg0q (by injection e_ with e_; exact e_.symm)); have u6 : w6.cell? ⟨gq, 0, none⟩ = some (.slice (some ⟨g0, 0, none⟩) l0.length c0) := (blk_cell hq6 0).trans rfl; have f6 := blk_frozen hq6 0; have hb6 := hb5.grown hg6 hb5.size (fun k hk => by injection hk with hk; subst hk; exact hg0))
    all_goals first | (exfalso; omega) | skip
    go_ret
    have hS6 := H_erase (i := (m : Int)) hR6
    have k6 : ∀ k, w1.drew.heap.size ≤ k → some k ≠ some g0 := fun k hk he => by injection he with he; omega
    have r16 := Kd.R_step r15 (w1 := w6) (fun k hk hl => hg6.block k hl (k6 k (b1' k hk.1.symm)))
    have r26 := Kd.R_step r25 (w1 := w6) (fun k hk hl => hg6.block k hl (k6 k (b2' k hk.1.symm)))
    have z6 := Kd.S_step z5 (w1 := w6) (fun k hk hl => hg6.block k hl (fun he => by
      injection he with he
      subst he
      rcases hk.1 with h1 | h1 | h1
      · exact (d0 k hPg).2.2 h1.1
      · exact (hoki k h1).2 rfl
      · omega))
    refine ⟨rfl, below_set hb6 hgq, _, _, _, _, blk_put hq6 0 _ rfl, fun k => (P0 k ∧ k ≠ gq ∧ k < w1.drew.heap.size) ∧ ¬ oki k, fun k => some k = (Value.slice B1 x1.length b1).ownBlock ∧ k ≠ gq, fun k => some k = (Value.slice B2 x2.length b2).ownBlock ∧ k ≠ gq,
      fun k => ((P3 k ∧ k ≠ gq ∧ k < w1.drew.heap.size) ∨ oki k ∨ w2.heap.size ≤ k) ∧ k ≠ gq, Kd.S_far (p := ⟨gq, 0, none⟩) hS6 (fun k hk => hk.1.2.1) _, Kd.R_lower (Kd.R_far (p := ⟨gq, 0, none⟩) r16 (fun k hk => hk.2) _) hB1.size, Kd.R_lower (Kd.R_far (p := ⟨gq, 0, none⟩) r26 (fun k hk => hk.2) _) hB1.size, Kd.S_far (p := ⟨gq, 0, none⟩) z6 (fun k hk => hk.2) _, ?_, ?_, ?_⟩
    · intro k hk
      refine ⟨fun h1 => by have := b1' k h1.1.symm; omega, fun h1 => by have := b2' k h1.1.symm; omega, fun h1 => ?_⟩
      rcases h1.1 with h1 | h1 | h1
      · exact (d0 k hk.1.1).2.2 h1.1
      · exact hk.2 h1
      · omega
    · intro k hk
      have h2 := b1' k hk.1.symm
      refine ⟨fun h1 => n12 k hk.1 h1.1, fun h1 => ?_⟩
      rcases h1.1 with h1 | h1 | h1
      · omega
      · have := (hoki k h1).1.2.2; omega
      · have := l1' k hk.1.symm; have := sz3.out; omega
    · intro k hk h1
      have h2 := b2' k hk.1.symm
      rcases h1.1 with h1 | h1 | h1
      · omega
      · have := (hoki k h1).1.2.2; omega
      · have := l2' k hk.1.symm; have := sz3.out; omega
def impl_ForwardAll.l0 : Nat → List S33 → List Int → List Int → List S33 → Option (List S33 × List Int × List Int × List S33)
  | 0, _, _, _, _ => none
  | k + 1, x0, x1, x2, x3 => (impl_Queue_forward.f k x0 x1 x2 x3).bind fun x => if x.1 = true then impl_ForwardAll.l0 k x.2.1 x.2.2.1 x.2.2.2.1 x.2.2.2.2 else some x.2
def impl_ForwardAll.f (k : Nat) (l0 : List S33) (l1 l2 : List Int) (l3 : List S33) : Option (List S33 × List Int × List Int × List S33) :=
  (impl_copyQueue.f k l0 l1 l2 l3).bind fun q => (impl_QueueOk.f l0 l1 l2 l3).bind fun b => if b = true then impl_ForwardAll.l0 k q.1 q.2.1 q.2.2.1 q.2.2.2 else some q

set_option maxHeartbeats 4000000 in
set_option maxRecDepth 1000000 in
theorem impl_ForwardAll.callsQ (k : Nat) (A0 : Option Addr) (c0 : Nat) (l0 : List S33) (A1 : Option Addr) (c1 : Nat) (l1 : List Int) (A2 : Option Addr) (c2 : Nat) (l2 : List Int) (A3 : Option Addr) (c3 : Nat) (l3 : List S33) (r0 : List S33) (r1 r2 : List Int) (r3 : List S33) (w : World)
    (hr0 : Kd.C k33 w A0 l0.length l0) (hc0 : l0.length ≤ c0) (hr1 : Kd.C (Kd.int .i64) w A1 l1.length l1) (hc1 : l1.length ≤ c1) (hr2 : Kd.C (Kd.int .i64) w A2 l2.length l2) (hc2 : l2.length ≤ c2) (hr3 : Kd.C k33 w A3 l3.length l3) (hc3 : l3.length ≤ c3)
    (h : impl_ForwardAll.f k l0 l1 l2 l3 = some (r0, r1, r2, r3)) :
    Calls Try.prog 13 #[.agg #[.slice A0 l0.length c0, .slice A1 l1.length c1, .slice A2 l2.length c2, .slice A3 l3.length c3]] w fun e w' => ∃ u0 u1 u2 u3 : Value, e = .returned (.agg #[u0, u1, u2, u3]) ∧ QHas w' w.heap.size u0 u1 u2 u3 r0 r1 r2 r3 ∧ Below w.heap.size w w' := by
  unfold impl_ForwardAll.f at h
  obtain ⟨⟨y0, y1, y2, y3⟩, hcp, h⟩ := Option.bind_eq_some_iff.1 h
  obtain ⟨bok, hok, h⟩ := Option.bind_eq_some_iff.1 h
  have hu29 := Try.underlying29
  have hu27 := Try.underlying27
  have H := Aside0.mk h
  have HC := Aside0.mk hcp
  have HO := Aside0.mk hok
  clear h hcp hok
  obtain ⟨gb, hgb⟩ : ∃ gb, gb = w.heap.size := ⟨_, rfl⟩
  obtain ⟨W, hW⟩ : ∃ W, W = (w.alloc (.cells #[.slice A0 l0.length c0, .slice A1 l1.length c1, .slice A2 l2.length c2, .slice A3 l3.length c3] 29)).alloc (.cells #[.slice none 0 0, .slice none 0 0, .slice none 0 0, .slice none 0 0] 29) := ⟨_, rfl⟩
  have hBW : Below w.heap.size w W := by rw [hW]; exact (below_alloc (Below.refl _ _) _).alloc (below_alloc (Below.refl _ _) _).size _
  have hsz : W.heap.size = gb + 2 := by rw [hW, hgb]; show ((w.heap.push _).push _).size = w.heap.size + 2; rw [Array.size_push, Array.size_push]
  have hqa : W.heap[gb]? = some (.cells #[.slice A0 l0.length c0, .slice A1 l1.length c1, .slice A2 l2.length c2, .slice A3 l3.length c3] 29 (0, 0)) := by rw [hW, hgb]; exact blk_alloc (heap_alloc_new w _) _
  have hqb : W.heap[gb + 1]? = some (.cells #[.slice none 0 0, .slice none 0 0, .slice none 0 0, .slice none 0 0] 29 (0, 0)) := by
    rw [hW, hgb]
    have h_ := heap_alloc_new (w.alloc (.cells #[.slice A0 l0.length c0, .slice A1 l1.length c1, .slice A2 l2.length c2, .slice A3 l3.length c3] 29)) (.cells #[.slice none 0 0, .slice none 0 0, .slice none 0 0, .slice none 0 0] 29)
    have e_ : (w.alloc (.cells #[.slice A0 l0.length c0, .slice A1 l1.length c1, .slice A2 l2.length c2, .slice A3 l3.length c3] 29)).heap.size = w.heap.size + 1 := Array.size_push ..
    rw [e_] at h_
    exact h_
  have ca0 : W.cell? ⟨gb, 0, none⟩ = some (.slice A0 l0.length c0) := (blk_cell hqa 0).trans rfl
  have ca1 : W.cell? ⟨gb, 1, none⟩ = some (.slice A1 l1.length c1) := (blk_cell hqa 1).trans rfl
  have ca2 : W.cell? ⟨gb, 2, none⟩ = some (.slice A2 l2.length c2) := (blk_cell hqa 2).trans rfl
  have ca3 : W.cell? ⟨gb, 3, none⟩ = some (.slice A3 l3.length c3) := (blk_cell hqa 3).trans rfl
  have hcq := impl_copyQueue.callsQ k A0 c0 l0 A1 c1 l1 A2 c2 l2 A3 c3 l3 y0 y1 y2 y3 W (Kd.C_below hr0 hBW) hc0 (Kd.C_below hr1 hBW) hc1 (Kd.C_below hr2 hBW) hc2 (Kd.C_below hr3 hBW) hc3 HC.out
  have HB0 := Aside0.mk hBW
  have HSZ := Aside0.mk hsz
  rw [hW] at hcq
  subst hgb
  clear hsz
  have HW := Aside0.mk hW
  cases bok with
  | false =>
    have hh := H.out
    simp only [Bool.false_eq_true, if_false] at hh
    injection hh with hh; injection hh with e1 e2; injection e2 with e2 e3; injection e3 with e3 e4
    subst e1 e2 e3 e4
    clear H
    go_enter Try.func13, Try.ntmps13
    go_wp2_with (first
      | (go_at_call 38; refine hcq.mono ?_; rintro e w2 ⟨u0, u1, u2, u3, rfl, hQ, hb2⟩; rw [← HW.out] at hQ hb2; obtain ⟨B0, b0, B1, b1, B2, b2, B3, b3, rfl, rfl, rfl, rfl⟩ := hQ.form; have hqa2 := (hb2.block _ (blk_lt hqa)).trans hqa; have hqb2 := (hb2.block _ (blk_lt hqb)).trans hqb; have hB2 := below_then HB0.out HB0.out.size hb2; have x0 : (w2.alloc (.cells #[.slice B0 y0.length b0, .slice B1 y1.length b1, .slice B2 y2.length b2, .slice B3 y3.length b3] 29)).cell? ⟨w.heap.size, 0, none⟩ = some (.slice A0 l0.length c0) := (blk_cell (blk_alloc hqa2 _) 0).trans rfl; have x1 : (w2.alloc (.cells #[.slice B0 y0.length b0, .slice B1 y1.length b1, .slice B2 y2.length b2, .slice B3 y3.length b3] 29)).cell? ⟨w.heap.size, 1, none⟩ = some (.slice A1 l1.length c1) := (blk_cell (blk_alloc hqa2 _) 1).trans rfl; have x2 : (w2.alloc (.cells #[.slice B0 y0.length b0, .slice B1 y1.length b1, .slice B2 y2.length b2, .slice B3 y3.length b3] 29)).cell? ⟨w.heap.size, 2, none⟩ = some (.slice A2 l2.length c2) := (blk_cell (blk_alloc hqa2 _) 2).trans rfl; have x3 : (w2.alloc (.cells #[.slice B0 y0.length b0, .slice B1 y1.length b1, .slice B2 y2.length b2, .slice B3 y3.length b3] 29)).cell? ⟨w.heap.size, 3, none⟩ = some (.slice A3 l3.length c3) := (blk_cell (blk_alloc hqa2 _) 3).trans rfl)
      | (go_at_call 39; with_reducible refine (impl_QueueOk.calls A0 c0 l0 A1 c1 l1 A2 c2 l2 A3 c3 l3 false _ (Kd.C_alloc (Kd.C_below hr0 hB2) _) hc0 (Kd.C_alloc (Kd.C_below hr1 hB2) _) hc1 (Kd.C_alloc (Kd.C_below hr2 hB2) _) hc2 (Kd.C_alloc (Kd.C_below hr3 hB2) _) hc3 HO.out).mono ?_; rintro e w5 ⟨rfl, hb5⟩; have hB5 := below_then (hB2.alloc hB2.size (.cells #[.slice B0 y0.length b0, .slice B1 y1.length b1, .slice B2 y2.length b2, .slice B3 y3.length b3] 29)) (hB2.alloc hB2.size _).size hb5; have hWB5 := below_then (below_alloc hb2 (.cells #[.slice B0 y0.length b0, .slice B1 y1.length b1, .slice B2 y2.length b2, .slice B3 y3.length b3] 29)) (below_alloc hb2 _).size hb5; have hq5 := (hb5.block _ (blk_lt (blk_new w2 (.cells #[.slice B0 y0.length b0, .slice B1 y1.length b1, .slice B2 y2.length b2, .slice B3 y3.length b3] 29)))).trans (blk_new w2 _); have hQ5 := (hQ.below (below_alloc (Below.refl _ _) (.cells #[.slice B0 y0.length b0, .slice B1 y1.length b1, .slice B2 y2.length b2, .slice B3 y3.length b3] 29))).below hb5; have zr := (hWB5.block _ (blk_lt hqb)).trans hqb; have zm0 : w5.cell? ⟨w2.heap.size, 0, none⟩ = some (.slice B0 y0.length b0) := (blk_cell hq5 0).trans rfl; have zn0 : w5.cell? ⟨w.heap.size + 1, 0, none⟩ = some (.slice none 0 0) := (blk_cell zr 0).trans rfl; have zf0 := blk_frozen zr 0; have zm1 : w5.cell? ⟨w2.heap.size, 1, none⟩ = some (.slice B1 y1.length b1) := (blk_cell hq5 1).trans rfl; have zn1 : w5.cell? ⟨w.heap.size + 1, 1, none⟩ = some (.slice none 0 0) := (blk_cell zr 1).trans rfl; have zf1 := blk_frozen zr 1; have zm2 : w5.cell? ⟨w2.heap.size, 2, none⟩ = some (.slice B2 y2.length b2) := (blk_cell hq5 2).trans rfl; have zn2 : w5.cell? ⟨w.heap.size + 1, 2, none⟩ = some (.slice none 0 0) := (blk_cell zr 2).trans rfl; have zf2 := blk_frozen zr 2; have zm3 : w5.cell? ⟨w2.heap.size, 3, none⟩ = some (.slice B3 y3.length b3) := (blk_cell hq5 3).trans rfl; have zn3 : w5.cell? ⟨w.heap.size + 1, 3, none⟩ = some (.slice none 0 0) := (blk_cell zr 3).trans rfl; have zf3 := blk_frozen zr 3))
    have k1 := blk_put zr 0 (.slice B0 y0.length b0) rfl
    have k2 := blk_put k1 1 (.slice B1 y1.length b1) rfl
    have k3 := blk_put k2 2 (.slice B2 y2.length b2) rfl
    have k4 := blk_put k3 3 (.slice B3 y3.length b3) rfl
    have g4 := ((((hQ5).set zr 0 (.slice B0 y0.length b0)).set k1 1 (.slice B1 y1.length b1)).set k2 2 (.slice B2 y2.length b2)).set k3 3 (.slice B3 y3.length b3)
    have hge : w.heap.size ≤ w.heap.size + 1 := Nat.le_succ _
    have hB6 := below_set (below_set (below_set (below_set hB5 hge (j := 0) (v := (.slice B0 y0.length b0))) hge (j := 1) (v := (.slice B1 y1.length b1))) hge (j := 2) (v := (.slice B2 y2.length b2))) hge (j := 3) (v := (.slice B3 y3.length b3))
    refine bodyPost_ret (results_cell_row rfl _ _ (w.heap.size + 1) 29 #[.slice B0 y0.length b0, .slice B1 y1.length b1, .slice B2 y2.length b2, .slice B3 y3.length b3] (0, 0) _ rfl k4 hu29 rfl (by kernel_rfl)) rfl ?_
    exact ⟨_, _, _, _, rfl, g4.lower HB0.out.size, hB6⟩
  | true =>
    have hh := H.out
    simp only [if_true] at hh
    have HL := Aside0.mk hh
    clear H hh
    go_enter Try.func13, Try.ntmps13
    go_wp2_with (first
      | (go_at_call 38; refine hcq.mono ?_; rintro e w2 ⟨u0, u1, u2, u3, rfl, hQ, hb2⟩; rw [← HW.out] at hQ hb2; obtain ⟨B0, b0, B1, b1, B2, b2, B3, b3, rfl, rfl, rfl, rfl⟩ := hQ.form; have hqa2 := (hb2.block _ (blk_lt hqa)).trans hqa; have hqb2 := (hb2.block _ (blk_lt hqb)).trans hqb; have hB2 := below_then HB0.out HB0.out.size hb2; have x0 : (w2.alloc (.cells #[.slice B0 y0.length b0, .slice B1 y1.length b1, .slice B2 y2.length b2, .slice B3 y3.length b3] 29)).cell? ⟨w.heap.size, 0, none⟩ = some (.slice A0 l0.length c0) := (blk_cell (blk_alloc hqa2 _) 0).trans rfl; have x1 : (w2.alloc (.cells #[.slice B0 y0.length b0, .slice B1 y1.length b1, .slice B2 y2.length b2, .slice B3 y3.length b3] 29)).cell? ⟨w.heap.size, 1, none⟩ = some (.slice A1 l1.length c1) := (blk_cell (blk_alloc hqa2 _) 1).trans rfl; have x2 : (w2.alloc (.cells #[.slice B0 y0.length b0, .slice B1 y1.length b1, .slice B2 y2.length b2, .slice B3 y3.length b3] 29)).cell? ⟨w.heap.size, 2, none⟩ = some (.slice A2 l2.length c2) := (blk_cell (blk_alloc hqa2 _) 2).trans rfl; have x3 : (w2.alloc (.cells #[.slice B0 y0.length b0, .slice B1 y1.length b1, .slice B2 y2.length b2, .slice B3 y3.length b3] 29)).cell? ⟨w.heap.size, 3, none⟩ = some (.slice A3 l3.length c3) := (blk_cell (blk_alloc hqa2 _) 3).trans rfl)
      | (go_at_call 39; with_reducible refine (impl_QueueOk.calls A0 c0 l0 A1 c1 l1 A2 c2 l2 A3 c3 l3 true _ (Kd.C_alloc (Kd.C_below hr0 hB2) _) hc0 (Kd.C_alloc (Kd.C_below hr1 hB2) _) hc1 (Kd.C_alloc (Kd.C_below hr2 hB2) _) hc2 (Kd.C_alloc (Kd.C_below hr3 hB2) _) hc3 HO.out).mono ?_; rintro e w5 ⟨rfl, hb5⟩; have hB5 := below_then (hB2.alloc hB2.size (.cells #[.slice B0 y0.length b0, .slice B1 y1.length b1, .slice B2 y2.length b2, .slice B3 y3.length b3] 29)) (hB2.alloc hB2.size _).size hb5; have hWB5 := below_then (below_alloc hb2 (.cells #[.slice B0 y0.length b0, .slice B1 y1.length b1, .slice B2 y2.length b2, .slice B3 y3.length b3] 29)) (below_alloc hb2 _).size hb5; have hq5 := (hb5.block _ (blk_lt (blk_new w2 (.cells #[.slice B0 y0.length b0, .slice B1 y1.length b1, .slice B2 y2.length b2, .slice B3 y3.length b3] 29)))).trans (blk_new w2 _); have hQ5 := (hQ.below (below_alloc (Below.refl _ _) (.cells #[.slice B0 y0.length b0, .slice B1 y1.length b1, .slice B2 y2.length b2, .slice B3 y3.length b3] 29))).below hb5; have zr := (hWB5.block _ (blk_lt hqb)).trans hqb))
    go_loopg [8] k (fun gg s8 wr => ∃ (kk : Nat) (x0 : List S33) (x1 x2 : List Int) (x3 : List S33) (v0 v1 v2 v3 : Value), kk ≤ gg ∧ Aside0 (impl_ForwardAll.l0 kk x0 x1 x2 x3 = some (r0, r1, r2, r3)) ∧ Aside0 (wr.heap[w2.heap.size]? = some (.cells #[v0, v1, v2, v3] 29 (0, 0))) ∧ Aside0 (QHas wr W.heap.size v0 v1 v2 v3 x0 x1 x2 x3) ∧ Aside0 (Below W.heap.size W wr))
    case atStart => exact ⟨k, y0, y1, y2, y3, _, _, _, _, Nat.le_refl _, HL, ⟨hq5⟩, ⟨hQ5⟩, ⟨hWB5⟩⟩
    case round =>
      obtain ⟨kk, x0, x1, x2, x3, v0, v1, v2, v3, hkk, hl, hqr, hQr, hBr⟩ := hrel
      cases kk with
      | zero => have := hl.out; simp [impl_ForwardAll.l0] at this
      | succ kk =>
        have hl2 := hl.out
        simp only [impl_ForwardAll.l0] at hl2
        obtain ⟨⟨bb, z0, z1, z2, z3⟩, hf, hl2⟩ := Option.bind_eq_some_iff.1 hl2
        have hcall := impl_Queue_forward.calls kk w2.heap.size v0 v1 v2 v3 x0 x1 x2 x3 bb z0 z1 z2 z3 W wr hBr.out hb2.size hqr.out hQr.out hf
        have HL2 := Aside0.mk hl2
        clear hl2 hl hf
        cases bb with
        | true =>
          have hl3 := HL2.out
          simp only [if_true] at hl3
          have HL3 := Aside0.mk hl3
          clear hl3 HL2
          go_wp2_with (go_at_call 40; refine hcall.mono ?_; rintro e w7 ⟨rfl, hB7, t0, t1, t2, t3, hq7, hQ7⟩)
          go_roundg kk
          case measure => omega
          case rel => exact ⟨kk, z0, z1, z2, z3, t0, t1, t2, t3, Nat.le_refl _, HL3, ⟨hq7⟩, ⟨hQ7⟩, ⟨hB7⟩⟩
        | false =>
          have hl3 := HL2.out
          simp only [Bool.false_eq_true, if_false] at hl3
          injection hl3 with hl3; injection hl3 with e1 e2; injection e2 with e2 e3; injection e3 with e3 e4
          subst e1 e2 e3 e4
          clear HL2 HL
          go_wp2_with (go_at_call 40; refine hcall.mono ?_; rintro e w7 ⟨rfl, hWB7, t0, t1, t2, t3, hq7, hQ7⟩; obtain ⟨C0, e0, C1, e1, C2, e2, C3, e3, rfl, rfl, rfl, rfl⟩ := hQ7.form; have hB7 := below_then HB0.out HB0.out.size hWB7; have zr7 := (hWB7.block _ (blk_lt hqb)).trans hqb; have zm0 : w7.cell? ⟨w2.heap.size, 0, none⟩ = some (.slice C0 z0.length e0) := (blk_cell hq7 0).trans rfl; have zn0 : w7.cell? ⟨w.heap.size + 1, 0, none⟩ = some (.slice none 0 0) := (blk_cell zr7 0).trans rfl; have zf0 := blk_frozen zr7 0; have zm1 : w7.cell? ⟨w2.heap.size, 1, none⟩ = some (.slice C1 z1.length e1) := (blk_cell hq7 1).trans rfl; have zn1 : w7.cell? ⟨w.heap.size + 1, 1, none⟩ = some (.slice none 0 0) := (blk_cell zr7 1).trans rfl; have zf1 := blk_frozen zr7 1; have zm2 : w7.cell? ⟨w2.heap.size, 2, none⟩ = some (.slice C2 z2.length e2) := (blk_cell hq7 2).trans rfl; have zn2 : w7.cell? ⟨w.heap.size + 1, 2, none⟩ = some (.slice none 0 0) := (blk_cell zr7 2).trans rfl; have zf2 := blk_frozen zr7 2; have zm3 : w7.cell? ⟨w2.heap.size, 3, none⟩ = some (.slice C3 z3.length e3) := (blk_cell hq7 3).trans rfl; have zn3 : w7.cell? ⟨w.heap.size + 1, 3, none⟩ = some (.slice none 0 0) := (blk_cell zr7 3).trans rfl; have zf3 := blk_frozen zr7 3)
          have k1 := blk_put zr7 0 (.slice C0 z0.length e0) rfl
          have k2 := blk_put k1 1 (.slice C1 z1.length e1) rfl
          have k3 := blk_put k2 2 (.slice C2 z2.length e2) rfl
          have k4 := blk_put k3 3 (.slice C3 z3.length e3) rfl
          have g4 := ((((hQ7).set zr7 0 (.slice C0 z0.length e0)).set k1 1 (.slice C1 z1.length e1)).set k2 2 (.slice C2 z2.length e2)).set k3 3 (.slice C3 z3.length e3)
          have hge : w.heap.size ≤ w.heap.size + 1 := Nat.le_succ _
          have hB6 := below_set (below_set (below_set (below_set hB7 hge (j := 0) (v := (.slice C0 z0.length e0))) hge (j := 1) (v := (.slice C1 z1.length e1))) hge (j := 2) (v := (.slice C2 z2.length e2))) hge (j := 3) (v := (.slice C3 z3.length e3))
          refine bodyPost_ret (results_cell_row rfl _ _ (w.heap.size + 1) 29 #[.slice C0 z0.length e0, .slice C1 z1.length e1, .slice C2 z2.length e2, .slice C3 z3.length e3] (0, 0) _ rfl k4 hu29 rfl (by kernel_rfl)) rfl ?_
          exact ⟨_, _, _, _, rfl, g4.lower HB0.out.size, hB6⟩
def laws_szIntS.f (l0 : List Int) (a1 : Int) : Option (Int) := if (wrap64 (a1 - (l0.length : Int))) < 0 then (some (-1)) else (some (wrap64 (a1 - (l0.length : Int))))
set_option maxHeartbeats 8000000 in
set_option maxRecDepth 100000 in
theorem laws_szIntS.calls (A0 : Option Addr) (c0 : Nat) (l0 : List Int) (a1 : Int) (r : Int) (w : World) (hr0 : Kd.C (Kd.int .i64) w A0 l0.length l0) (hc0 : l0.length ≤ c0) (h : laws_szIntS.f l0 a1 = some r) :
  Calls Try.prog 54 #[.slice A0 l0.length c0, .int .i64 a1] w fun e w' => e = .returned (.int .i64 r) ∧ Drawn0 w w' := by
 have HR0 := Aside0.mk hr0; have HC0 := Aside0.mk hc0; clear hr0 hc0; have H : (if (wrap64 (a1 - (l0.length : Int))) < 0 then (some (-1)) else (some (wrap64 (a1 - (l0.length : Int))))) = some r := h; clear h
 by_cases c3 : (wrap64 (a1 - (l0.length : Int))) < 0
 ·rw [if_pos c3] at H
  have c3b0 : decide ((wrap64 (a1 - (l0.length : Int))) < 0) = true := decide_eq_true c3; clear c3; obtain rfl := Option.some.inj H; go_enter Try.func54, Try.ntmps54; go_wp2; go_ret; exact ⟨sd_, ds_⟩
 ·rw [if_neg c3] at H
  have c3b0 : decide ((wrap64 (a1 - (l0.length : Int))) < 0) = false := decide_eq_false c3; clear c3; obtain rfl := Option.some.inj H; go_enter Try.func54, Try.ntmps54; go_wp2; go_ret; exact ⟨sd_, ds_⟩

def laws_szPacket.f (a0_0 : Int) (a0_1 : Int) (a0_2 : Int) (a0_3 : Int) (a0_4 : Int) (a0_5 : Int) (a0_6 : Int) (l0_7 : List Int) (a1 : Int) : Option (Int) := (laws_szIntS.f l0_7 a1).bind fun t250 => (if t250 < 0 then (some (-1)) else (some t250))
set_option maxHeartbeats 8000000 in
set_option maxRecDepth 100000 in
theorem laws_szPacket.calls (a0_0 : Int) (a0_1 : Int) (a0_2 : Int) (a0_3 : Int) (a0_4 : Int) (a0_5 : Int) (a0_6 : Int) (A0_7 : Option Addr) (c0_7 : Nat) (l0_7 : List Int) (a1 : Int) (r : Int) (w : World) (hr0_7 : Kd.C (Kd.int .i64) w A0_7 l0_7.length l0_7) (hc0_7 : l0_7.length ≤ c0_7) (h : laws_szPacket.f a0_0 a0_1 a0_2 a0_3 a0_4 a0_5 a0_6 l0_7 a1 = some r) :
  Calls Try.prog 22 #[.agg #[.int .i64 a0_0, .int .i64 a0_1, .int .i64 a0_2, .int .i64 a0_3, .int .i64 a0_4, .int .i64 a0_5, .int .i64 a0_6, .slice A0_7 l0_7.length c0_7], .int .i64 a1] w fun e w' => e = .returned (.int .i64 r) ∧ Below w.heap.size w w' := by
 have hu46 := Try.underlying46; have HR0_7 := Aside0.mk hr0_7; have HC0_7 := Aside0.mk hc0_7; clear hr0_7 hc0_7; have HB := Aside0.mk (Below.refl w.heap.size w); have H : ((laws_szIntS.f l0_7 a1).bind fun t250 => (if t250 < 0 then (some (-1)) else (some t250))) = some r := h; clear h; replace H := bi_ H; obtain ⟨t250, A30, H⟩ := H; replace H : (if t250 < 0 then (some (-1)) else (some t250)) = some r := H; have A3 := Aside0.mk A30; clear A30
 by_cases c4 : t250 < 0
 ·rw [if_pos c4] at H
  have c4b0 : decide (t250 < 0) = true := decide_eq_true c4; clear c4; obtain rfl := Option.some.inj H; go_enter Try.func22, Try.ntmps22; go_wp2_with (first | ((with_reducible refine gate_dst (N := 2) rfl ?_); refine box_event ?hg (N := 2) ?hd (cs := #[.int .i64 a0_0, .int .i64 a0_1, .int .i64 a0_2, .int .i64 a0_3, .int .i64 a0_4, .int .i64 a0_5, .int .i64 a0_6, .slice A0_7 l0_7.length c0_7]) (t := 46) ?hr ?_; (case hd => rfl); (case hg => rfl); (case hr => exact hr_); intro gb249 hg w5 hbox hb; have t_ := fc4 (below_step bb hb) (hbox) (bg hg : w.heap.size ≤ gb249) (bg hg : w.heap.size ≤ gb249); clear HB; obtain ⟨HB, BK249, GW249, GE249⟩ := t_; clear hb hbox hg; obtain ⟨hcz6_0, hcz6_1, hcz6_2, hcz6_3, hcz6_4, hcz6_5, hcz6_6, hcz6_7, hfz6_0, hfz6_1, hfz6_2, hfz6_3, hfz6_4, hfz6_5, hfz6_6, hfz6_7⟩ := bx8 BK249.out) | ((with_reducible refine gate_callee (f := 54) rfl ?_); refine goesL_ (some 8) rfl rfl Try.func54 (by kernel_rfl) rfl #[.slice A0_7 l0_7.length c0_7, .int .i64 a1] rfl ms ?_; (with_reducible refine (laws_szIntS.calls _ _ l0_7 a1 t250 _ ?side1 ?side2 A3.out).mono ?_); (case side1 => exact kc); (case side2 => exact HC0_7.out); rintro e w' ⟨rfl, ⟨nd, rfl⟩⟩; refine ⟨_, rfl, ?_⟩)); go_ret; exact ⟨er, bb⟩
 ·rw [if_neg c4] at H
  have c4b0 : decide (t250 < 0) = false := decide_eq_false c4; clear c4; obtain rfl := Option.some.inj H; go_enter Try.func22, Try.ntmps22; go_wp2_with (first | ((with_reducible refine gate_dst (N := 2) rfl ?_); refine box_event ?hg (N := 2) ?hd (cs := #[.int .i64 a0_0, .int .i64 a0_1, .int .i64 a0_2, .int .i64 a0_3, .int .i64 a0_4, .int .i64 a0_5, .int .i64 a0_6, .slice A0_7 l0_7.length c0_7]) (t := 46) ?hr ?_; (case hd => rfl); (case hg => rfl); (case hr => exact hr_); intro gb249 hg w7 hbox hb; have t_ := fc4 (below_step bb hb) (hbox) (bg hg : w.heap.size ≤ gb249) (bg hg : w.heap.size ≤ gb249); clear HB; obtain ⟨HB, BK249, GW249, GE249⟩ := t_; clear hb hbox hg; obtain ⟨hcz8_0, hcz8_1, hcz8_2, hcz8_3, hcz8_4, hcz8_5, hcz8_6, hcz8_7, hfz8_0, hfz8_1, hfz8_2, hfz8_3, hfz8_4, hfz8_5, hfz8_6, hfz8_7⟩ := bx8 BK249.out) | ((with_reducible refine gate_callee (f := 54) rfl ?_); refine goesL_ (some 8) rfl rfl Try.func54 (by kernel_rfl) rfl #[.slice A0_7 l0_7.length c0_7, .int .i64 a1] rfl ms ?_; (with_reducible refine (laws_szIntS.calls _ _ l0_7 a1 t250 _ ?side1 ?side2 A3.out).mono ?_); (case side1 => exact kc); (case side2 => exact HC0_7.out); rintro e w' ⟨rfl, ⟨nd, rfl⟩⟩; refine ⟨_, rfl, ?_⟩)); go_ret; exact ⟨er, bb⟩
end Go.Proofs.Ytabefbjagompoaa.PFnExactForwardAll
