/- Printed by a program of this session out of the translation: each Go function as a Lean function, with the proof that Go comes to just its answer (no condition beyond what each theorem says). (squeezed) -/
import Derived.Test.YtbbppknnkghkjaaPFnExactDownToIdx0
import Derived.Test.YtbbppknnkghkjaaSteps
import Derived.Test.YtbbppknnkghkjaaPFnExactDownToIdx3
import Derived.Test.YtbbppknnkghkjaaPFnExactDownToIdx5
import Derived.Test.YtbbppknnkghkjaaPFnExactDownToIdx6
namespace Go.Proofs.Ytbbppknnkghkjaa.PFnExactDownToId
open Go.RowKit Go.Proofs.YtbbppknnkghkjaaW.PrintWords Go.Proofs.YtbbppknnkghkjaaW.PrintLast Go.Proofs.YtbbppknnkghkjaaW.PrintMore Go.Proofs.Ytbbppknnkghkjaa.Kit Go.Proofs.Ytbbppknnkghkjaa.Steps Go.Proofs.Ytbbppknnkghkjaa.Kit2
attribute [local go_sem] max2_int min2_int max_two min_two max_three min_three max_four min_four   -- for this text's walks alone
set_option linter.unusedVariables false
set_option linter.unusedSimpArgs false

/-! ### spec_l21Next: function 73 -/
def spec_l21Next.l0 : Nat → List (S50) → Int → Int → List Int → Int → List Int → List Int → List Int → Option (Int)
 | 0, _, _, _, _, _, _, _, _ => none
 | k + 1, x0, x2, x3, x9, x10, x191000, x191001, x191002 => if x10 < (x9.length : Int) then (if 0 ≤ x2 then (if x2 < (x191001.length : Int) then ((spec_BusOf.f x3).bind fun t195 => (if (rd x191001 x2) = t195 then (if 0 ≤ x10 then (if 0 ≤ (rd x9 x10) then (if (rd x9 x10) < (x0.length : Int) then ((spec_DeviceOf.f x3).bind fun t198 => (if ((rd_T50 x0 (rd x9 x10)).f1) = t198 then (some (rd x9 x10)) else (spec_l21Next.l0 k x0 x2 x3 x9 (wrap64 (x10 + 1)) x191000 x191001 x191002))) else (none)) else (none)) else (none)) else (if 0 ≤ x10 then ((spec_BusOf.f x3).bind fun t201 => ((spec_IsUnder.f x191000 x191001 x191002 (rd x9 x10) t201).bind fun t202 => (if t202 = true then (some (rd x9 x10)) else (spec_l21Next.l0 k x0 x2 x3 x9 (wrap64 (x10 + 1)) x191000 x191001 x191002)))) else (none)))) else (none)) else (none)) else (some (-1))
def spec_l21Next.f (k : Nat) (l0 : List (S50)) (l1_0 : List Int) (l1_1 : List Int) (l1_2 : List Int) (a2 : Int) (a3 : Int) : Option (Int) := (spec_ChildrenOf.f k l0 a2).bind fun t191 => (spec_l21Next.l0 k l0 a2 a3 t191 0 l1_0 l1_1 l1_2)
def spec_l21Next.T5 : Bool × List (List Nat × List Nat) := (true, [([], []), ([0], [0]), ([], []), ([1, 2], [1, 2]), ([3], [3]), ([], []), ([5], [5]), ([4, 6], [4, 6])])
def spec_l21Next.B5 : List Nat := [0, 1, 0, 7, 15, 0, 32, 127]
theorem spec_l21Next.tab5 : rtab .any (opsOf Try.f73 5) = spec_l21Next.T5 := by kernel_rfl
theorem spec_l21Next.bits5 : waitsOk spec_l21Next.T5.2 spec_l21Next.B5 = true := by kernel_rfl
def spec_l21Next.T6 : Bool × List (List Nat × List Nat) := (true, [([], []), ([], []), ([], []), ([1, 2], [1, 2]), ([3], [3]), ([0, 4], [0, 4]), ([5], [5]), ([6], [6]), ([], []), ([8], [8]), ([7, 9], [7, 9])])
def spec_l21Next.B6 : List Nat := [0, 0, 0, 6, 14, 31, 63, 127, 0, 256, 1023]
theorem spec_l21Next.tab6 : rtab .any (opsOf Try.f73 6) = spec_l21Next.T6 := by kernel_rfl
theorem spec_l21Next.bits6 : waitsOk spec_l21Next.T6.2 spec_l21Next.B6 = true := by kernel_rfl
def spec_l21Next.T8 : Bool × List (List Nat × List Nat) := (true, [([], []), ([], []), ([], []), ([1, 2], [1, 2]), ([3], [3]), ([], []), ([5], [5]), ([0, 4, 6, 6], [0, 4, 6])])
def spec_l21Next.B8 : List Nat := [0, 0, 0, 6, 14, 0, 32, 127]
theorem spec_l21Next.tab8 : rtab .any (opsOf Try.f73 8) = spec_l21Next.T8 := by kernel_rfl
theorem spec_l21Next.bits8 : waitsOk spec_l21Next.T8.2 spec_l21Next.B8 = true := by kernel_rfl
set_option maxHeartbeats 8000000 in
set_option maxRecDepth 100000 in
theorem spec_l21Next.calls (k : Nat) (A0 : Option Addr) (c0 : Nat) (l0 : List (S50)) (A1_0 : Option Addr) (c1_0 : Nat) (l1_0 : List Int) (A1_1 : Option Addr) (c1_1 : Nat) (l1_1 : List Int) (A1_2 : Option Addr) (c1_2 : Nat) (l1_2 : List Int) (a2 : Int) (a3 : Int) (r : Int) (w : World) (hr0 : Kd.C k50 w A0 l0.length l0) (hc0 : l0.length ≤ c0) (hr1_0 : Kd.C (Kd.int .i64) w A1_0 l1_0.length l1_0) (hc1_0 : l1_0.length ≤ c1_0) (hr1_1 : Kd.C (Kd.int .i64) w A1_1 l1_1.length l1_1) (hc1_1 : l1_1.length ≤ c1_1) (hr1_2 : Kd.C (Kd.int .i64) w A1_2 l1_2.length l1_2) (hc1_2 : l1_2.length ≤ c1_2) (h : spec_l21Next.f k l0 l1_0 l1_1 l1_2 a2 a3 = some r) :
  Calls Try.prog 73 #[.slice A0 l0.length c0, .agg #[.slice A1_0 l1_0.length c1_0, .slice A1_1 l1_1.length c1_1, .slice A1_2 l1_2.length c1_2], .int .i64 a2, .int .i64 a3] w fun e w' => e = .returned (.int .i64 r) ∧ Below w.heap.size w w' := by
 have hu31 := Try.underlying31
 have HR0 := Aside0.mk hr0
 have HC0 := Aside0.mk hc0
 clear hr0 hc0
 have HR1_0 := Aside0.mk hr1_0
 have HC1_0 := Aside0.mk hc1_0
 clear hr1_0 hc1_0
 have HR1_1 := Aside0.mk hr1_1
 have HC1_1 := Aside0.mk hc1_1
 clear hr1_1 hc1_1
 have HR1_2 := Aside0.mk hr1_2
 have HC1_2 := Aside0.mk hc1_2
 clear hr1_2 hc1_2
 have HB := Aside0.mk (Below.refl w.heap.size w)
 have H : ((spec_ChildrenOf.f k l0 a2).bind fun t191 => (spec_l21Next.l0 k l0 a2 a3 t191 0 l1_0 l1_1 l1_2)) = some r := h
 clear h
 replace H := Option.bind_eq_some_iff.mp H
 obtain ⟨t191, A50, H⟩ := H
 replace H : (spec_l21Next.l0 k l0 a2 a3 t191 0 l1_0 l1_1 l1_2) = some r := H
 have A5 := Aside0.mk A50
 clear A50
 have H' := Aside0.mk H
 clear H
 go_enter Try.func73, Try.ntmps73
 go_wp2_with (first | ((with_reducible refine gate_dst (N := 5) rfl ?_); refine box_event ?hg (N := 5) ?hd (cs := #[.slice A1_0 l1_0.length c1_0, .slice A1_1 l1_1.length c1_1, .slice A1_2 l1_2.length c1_2]) (t := 31) ?hr ?_; (case hd => rfl); (case hg => rfl); (case hr => first | (go_simp; done) | (go_simp; rfl)); intro gb190 hg w6 hbox hb; have t_ := fc4 (below_step bb hb) (hbox) (bg hg : w.heap.size ≤ gb190) (bg hg : w.heap.size ≤ gb190); clear HB; obtain ⟨HB, BK190, GW190, GE190⟩ := t_; clear hb hbox hg) | ((with_reducible refine gate_callee (f := 41) rfl ?_); refine goesL_ (some 13) rfl rfl Try.func41 (by kernel_rfl) rfl #[.slice A0 l0.length c0, .int .i64 a2] rfl ms ?_; (with_reducible refine (spec_ChildrenOf.calls k _ _ l0 a2 t191 _ ?side1 ?side2 A5.out).mono ?_); (case side1 => exact kc); (case side2 => exact HC0.out); rintro e w7 ⟨v192, rfl, ho0, hb⟩; refine ⟨_, rfl, ?_⟩; have t_ := fc3 (Kd.R_lower ho0 (below_size bb)) (bw BK190 hb) (below_step bb hb); clear BK190 HB; obtain ⟨HO193, BK190, HB⟩ := t_; (try clear hb); (try clear ho0)))
 go_loopg [10] k (fun kq v10 w' => ∃ (x10_1 : Int), v10 = .int .i64 x10_1 ∧ Aside0 (spec_l21Next.l0 kq l0 a2 a3 t191 x10_1 l1_0 l1_1 l1_2 = some r) ∧ Aside0 (kq ≤ k) ∧ Aside0 (Kd.R (Kd.int .i64) 3 w' w.heap.size (fun _ => True) v192 t191) ∧ Aside0 (w'.heap[gb190]? = some (.cells #[(.slice A1_0 l1_0.length c1_0), (.slice A1_1 l1_1.length c1_1), (.slice A1_2 l1_2.length c1_2)] 31 (0, 0))) ∧ Aside0 (Below w.heap.size w w'))
 case atStart => exact ⟨(0), (by first | rfl | (simp; done) | (simp [*]; done)), H', ⟨Nat.le_refl _⟩, ⟨by (with_reducible repeat (first | apply Kd.R_alloc | apply Kd.R_drewN | apply Kd.R_drew)); exact HO193.out⟩, ⟨by exact bk⟩, ⟨bb⟩⟩
 case round =>
  clear H'
  try clear c1
  try clear p2
  try clear c4
  try clear c7
  obtain ⟨x10_1, rfl, HA, HK1, HO_9, BK190, HB⟩ := hrel
  cases gk with
  | zero => exact absurd HA.out (by simp [spec_l21Next.l0])
  | succ k1 =>
   have H := HA.out
   clear HA
   simp only [spec_l21Next.l0] at H
   by_cases c8 : x10_1 < (t191.length : Int)
   ·rw [if_pos c8] at H
    have c8b0 : decide (x10_1 < (t191.length : Int)) = true := decide_eq_true c8
    clear c8
    by_cases c9 : 0 ≤ a2
    ·rw [if_pos c9] at H
     have c9b0 : decide (0 ≤ a2) = true := decide_eq_true c9
     clear c9
     by_cases c10 : a2 < (l1_1.length : Int)
     ·rw [if_pos c10] at H
      have c10b0 : decide (a2 < (l1_1.length : Int)) = true := decide_eq_true c10
      clear c10
      replace H := Option.bind_eq_some_iff.mp H
      obtain ⟨t195, A110, H⟩ := H
      replace H : (if (rd l1_1 a2) = t195 then (if 0 ≤ x10_1 then (if 0 ≤ (rd t191 x10_1) then (if (rd t191 x10_1) < (l0.length : Int) then ((spec_DeviceOf.f a3).bind fun t198 => (if ((rd_T50 l0 (rd t191 x10_1)).f1) = t198 then (some (rd t191 x10_1)) else (spec_l21Next.l0 k1 l0 a2 a3 t191 (wrap64 (x10_1 + 1)) l1_0 l1_1 l1_2))) else (none)) else (none)) else (none)) else (if 0 ≤ x10_1 then ((spec_BusOf.f a3).bind fun t201 => ((spec_IsUnder.f l1_0 l1_1 l1_2 (rd t191 x10_1) t201).bind fun t202 => (if t202 = true then (some (rd t191 x10_1)) else (spec_l21Next.l0 k1 l0 a2 a3 t191 (wrap64 (x10_1 + 1)) l1_0 l1_1 l1_2)))) else (none))) = some r := H
      have A11 := Aside0.mk A110
      clear A110
      by_cases c12 : (rd l1_1 a2) = t195
      ·rw [if_pos c12] at H
       have c12b0 : ((rd l1_1 a2) == t195) = true := beq_iff_eq.mpr c12
       have c12b1 : ((rd l1_1 a2) != t195) = false := bne_eq_false_iff_eq.mpr c12
       clear c12
       by_cases c13 : 0 ≤ x10_1
       ·rw [if_pos c13] at H
        have c13b0 : decide (0 ≤ x10_1) = true := decide_eq_true c13
        clear c13
        by_cases c14 : 0 ≤ (rd t191 x10_1)
        ·rw [if_pos c14] at H
         have c14b0 : decide (0 ≤ (rd t191 x10_1)) = true := decide_eq_true c14
         clear c14
         by_cases c15 : (rd t191 x10_1) < (l0.length : Int)
         ·rw [if_pos c15] at H
          have c15b0 : decide ((rd t191 x10_1) < (l0.length : Int)) = true := decide_eq_true c15
          clear c15
          replace H := Option.bind_eq_some_iff.mp H
          obtain ⟨t198, A160, H⟩ := H
          replace H : (if ((rd_T50 l0 (rd t191 x10_1)).f1) = t198 then (some (rd t191 x10_1)) else (spec_l21Next.l0 k1 l0 a2 a3 t191 (wrap64 (x10_1 + 1)) l1_0 l1_1 l1_2)) = some r := H
          have A16 := Aside0.mk A160
          clear A160
          by_cases c17 : ((rd_T50 l0 (rd t191 x10_1)).f1) = t198
          ·rw [if_pos c17] at H
           have c17b0 : (((rd_T50 l0 (rd t191 x10_1)).f1) == t198) = true := beq_iff_eq.mpr c17
           have c17b1 : (((rd_T50 l0 (rd t191 x10_1)).f1) != t198) = false := bne_eq_false_iff_eq.mpr c17
           clear c17
           obtain rfl := Option.some.inj H
           obtain ⟨Ao18, co18, eo18⟩ := Kd.R_slice HO_9.out
           subst eo18
           try go_wp2
           have t_ := fc3 (Kd.R_drew HO_9.out) (blk_drew BK190.out) (below_drew1 HB.out)
           clear HO_9 BK190 HB
           obtain ⟨HO_9, BK190, HB⟩ := t_
           have p194 : 0 ≤ (a2 : Int) := of_decide_eq_true as_
           have q194 : a2 < (l1_1.length : Int) := of_decide_eq_true as_
           obtain ⟨ad194, e194, hx194_0⟩ := Kd.at_int HR1_1.out a2 p194 q194
           have hw194_0 := hx194_0
           cases e194
           replace hx194_0 := pw_cell_below HB.out hx194_0
           replace p194 := eq_true p194
           replace q194 := eq_true q194
           refine start_ (n := 8) (S := fun w' => w'.cell? ⟨gb190, 0, none⟩ = some (.slice A1_0 l1_0.length c1_0) ∧ w'.cell? ⟨gb190, 1, none⟩ = some (.slice (some ad194) l1_1.length c1_1) ∧ w'.cell? ⟨gb190, 2, none⟩ = some (.slice A1_2 l1_2.length c1_2) ∧ w'.cell? (ad194.add (a2).toNat) = some (.int .i64 (rd l1_1 a2))) (ds := []) (bz 8 0) (by kernel_rfl) rfl (by kernel_rfl) ⟨(blk_cell BK190.out 0).trans rfl, (blk_cell BK190.out 1).trans rfl, (blk_cell BK190.out 2).trans rfl, ((HB.out.cell (World.block_lt_of_cell? w _ hw194_0)).trans hw194_0)⟩ (fun hHeld => ?_); refine with_tabW spec_l21Next.tab5 spec_l21Next.bits5 (fun HT_ HW_ => ?_)
           generalize wr.drew = w19 at HO_9 BK190 HB hx194_0 hHeld ⊢
           refine pv 0 20 (bz 8 1) HT_ (h := ?_)
           refine pv 2 22 (bz 8 5) HT_ (h := ?_)
           refine pv 5 25 (bz 8 37) HT_ (h := ?_)
           refine tv4 1 21 (bz 8 39) HT_ HW_ hHeld (h := ?_)
           refine pv 3 23 (bz 8 47) HT_ (h := ?_)
           refine tv4 4 24 (bz 8 63) HT_ HW_ hHeld (h := ?_)
           refine one_ (i := 6) (N := some 26) (bz 8 127) rfl rfl (one_of HT_.out (by kernel_rfl)) (by decide) (fun K hK => ?_)
           refine goes_ Try.func72 (by kernel_rfl) rfl #[.int .i64 a3] (by rfl) rfl rfl ms ?_
           with_reducible refine (spec_BusOf.calls a3 t195 _ A11.out).mono ?_
           rintro e w' ⟨rfl, ⟨nd, rfl⟩⟩
           refine ⟨_, rfl, ?_⟩
           refine hK.out _ _ ⟨(blk_cell BK190.out 0).trans rfl, (blk_cell BK190.out 1).trans rfl, (blk_cell BK190.out 2).trans rfl, ((HB.out.cell (World.block_lt_of_cell? w _ hw194_0)).trans hw194_0)⟩ (fun hHeld => ?_)
           clear hK K
           refine norm_ (a' := ?_) ?_ ?_
           rotate_left
           ·show Act.put _ (some 26) _ = _
            simp only [Act.put, List.setIfInBounds_toArray, List.set_cons_zero, List.set_cons_succ, i64_w, i32_w]
            rfl
           refine pv 7 27 (bz 8 255) HT_ (h := ?_)
           refine done_ (done_of HT_.out (by kernel_rfl)) ?_
           try go_wp2
           (try (rw [drewN_self w19]; generalize hq_ : World.drewN w19 _ = w19; have n0_ : Aside0 (Kd.R (Kd.int .i64) 3 w19 w.heap.size (fun _ => True) (.slice Ao18 t191.length co18) t191) := ⟨by rw [← hq_]; exact (ra HO_9.out)⟩; have n1_ : Aside0 (w19.heap[gb190]? = some (.cells #[.slice A1_0 l1_0.length c1_0, .slice (some ad194) l1_1.length c1_1, .slice A1_2 l1_2.length c1_2] 31 (0, 0))) := ⟨by rw [← hq_]; exact bk⟩; have n2_ : Aside0 (Below w.heap.size w w19) := ⟨by rw [← hq_]; exact bb⟩; clear HO_9 BK190 HB hq_; have HO_9 := n0_; have BK190 := n1_; have HB := n2_; clear n0_ n1_ n2_))
           have t_ := fc3 (Kd.R_drew HO_9.out) (blk_drew BK190.out) (below_drew1 HB.out)
           clear HO_9 BK190 HB
           obtain ⟨HO_9, BK190, HB⟩ := t_
           have p196 : 0 ≤ (x10_1 : Int) := of_decide_eq_true as_
           have q196 : x10_1 < (t191.length : Int) := of_decide_eq_true as_
           obtain ⟨ad196, e196, hx196_0⟩ := Kd.at_int (Kd.R_reads' HO_9.out).2.2 x10_1 p196 q196
           cases e196
           replace p196 := eq_true p196
           replace q196 := eq_true q196
           have p197 : 0 ≤ ((rd t191 x10_1) : Int) := of_decide_eq_true as_
           have q197 : (rd t191 x10_1) < (l0.length : Int) := of_decide_eq_true as_
           obtain ⟨ad197, e197, hx197_0, hx197_1, hx197_2⟩ := at_T50 HR0.out (rd t191 x10_1) p197 q197
           have hw197_2 := hx197_2
           have hw197_1 := hx197_1
           have hw197_0 := hx197_0
           cases e197
           replace hx197_0 := pw_cell_below HB.out hx197_0
           replace hx197_1 := pw_cell_below HB.out hx197_1
           replace hx197_2 := pw_cell_below HB.out hx197_2
           replace p197 := eq_true p197
           replace q197 := eq_true q197
           refine start_ (n := 11) (S := fun w' => w'.cell? (ad196.add (x10_1).toNat) = some (.int .i64 (rd t191 x10_1)) ∧ w'.cell? (ad197.add (((rd t191 x10_1)).toNat * 3)) = some (.int .i64 ((rd_T50 l0 (rd t191 x10_1)).f0)) ∧ w'.cell? ⟨(ad197.add (((rd t191 x10_1)).toNat * 3)).block, (ad197.add (((rd t191 x10_1)).toNat * 3)).off + 1, none⟩ = some (.int .i64 ((rd_T50 l0 (rd t191 x10_1)).f1)) ∧ w'.cell? ⟨(ad197.add (((rd t191 x10_1)).toNat * 3)).block, (ad197.add (((rd t191 x10_1)).toNat * 3)).off + 2, none⟩ = some (.int .i64 ((rd_T50 l0 (rd t191 x10_1)).f2))) (ds := []) (bz 11 0) (by kernel_rfl) rfl (by kernel_rfl) ⟨hx196_0, ((HB.out.cell (World.block_lt_of_cell? w _ hw197_0)).trans hw197_0), ((HB.out.cell (World.block_lt_of_cell? w _ hw197_1)).trans hw197_1), ((HB.out.cell (World.block_lt_of_cell? w _ hw197_2)).trans hw197_2)⟩ (fun hHeld => ?_); refine with_tabW spec_l21Next.tab6 spec_l21Next.bits6 (fun HT_ HW_ => ?_)
           generalize w19.drew = w20 at HO_9 BK190 HB hx196_0 hx197_0 hx197_1 hx197_2 hHeld ⊢
           refine pv 0 28 (bz 11 1) HT_ (h := ?_)
           refine pv 1 29 (bz 11 3) HT_ (h := ?_)
           refine pv 2 30 (bz 11 7) HT_ (h := ?_)
           refine pv 3 31 (bz 11 15) HT_ (h := ?_)
           refine pv 8 36 (bz 11 271) HT_ (h := ?_)
           refine tv4 4 32 (bz 11 287) HT_ HW_ hHeld (h := ?_)
           refine pv 5 33 (bz 11 319) HT_ (h := ?_)
           refine pv 6 34 (bz 11 383) HT_ (h := ?_)
           refine tv4 7 35 (bz 11 511) HT_ HW_ hHeld (h := ?_)
           refine one_ (i := 9) (N := some 37) (bz 11 1023) rfl rfl (one_of HT_.out (by kernel_rfl)) (by decide) (fun K hK => ?_)
           refine goes_ Try.func119 (by kernel_rfl) rfl #[.int .i64 a3] (by rfl) rfl rfl ms ?_
           with_reducible refine (spec_DeviceOf.calls a3 t198 _ A16.out).mono ?_
           rintro e w' ⟨rfl, ⟨nd, rfl⟩⟩
           refine ⟨_, rfl, ?_⟩
           refine hK.out _ _ ⟨hHeld.1, ((HB.out.cell (World.block_lt_of_cell? w _ hw197_0)).trans hw197_0), ((HB.out.cell (World.block_lt_of_cell? w _ hw197_1)).trans hw197_1), ((HB.out.cell (World.block_lt_of_cell? w _ hw197_2)).trans hw197_2)⟩ (fun hHeld => ?_)
           clear hK K
           refine norm_ (a' := ?_) ?_ ?_
           rotate_left
           ·show Act.put _ (some 37) _ = _
            simp only [Act.put, List.setIfInBounds_toArray, List.set_cons_zero, List.set_cons_succ, i64_w, i32_w]
            rfl
           refine pv 10 38 (bz 11 2047) HT_ (h := ?_)
           refine done_ (done_of HT_.out (by kernel_rfl)) ?_
           have p199 : 0 ≤ (x10_1 : Int) := of_decide_eq_true as_
           have q199 : x10_1 < (t191.length : Int) := of_decide_eq_true as_
           obtain ⟨ad199, e199, hx199_0⟩ := Kd.at_int (Kd.R_reads' HO_9.out).2.2 x10_1 p199 q199
           obtain rfl : ad196 = ad199 := (by injection e199)
           replace p199 := eq_true p199
           replace q199 := eq_true q199
           try go_wp2
           go_ret
           exact ⟨er, bb⟩
          ·rw [if_neg c17] at H
           have c17b0 : (((rd_T50 l0 (rd t191 x10_1)).f1) == t198) = false := beq_eq_false_iff_ne.mpr c17
           have c17b1 : (((rd_T50 l0 (rd t191 x10_1)).f1) != t198) = true := bne_iff_ne.mpr c17
           have H' := Aside0.mk H
           clear H
           obtain ⟨Ao21, co21, eo21⟩ := Kd.R_slice HO_9.out
           subst eo21
           try go_wp2
           have t_ := fc3 (Kd.R_drew HO_9.out) (blk_drew BK190.out) (below_drew1 HB.out)
           clear HO_9 BK190 HB
           obtain ⟨HO_9, BK190, HB⟩ := t_
           have p194 : 0 ≤ (a2 : Int) := of_decide_eq_true as_
           have q194 : a2 < (l1_1.length : Int) := of_decide_eq_true as_
           obtain ⟨ad194, e194, hx194_0⟩ := Kd.at_int HR1_1.out a2 p194 q194
           have hw194_0 := hx194_0
           cases e194
           replace hx194_0 := pw_cell_below HB.out hx194_0
           replace p194 := eq_true p194
           replace q194 := eq_true q194
           refine start_ (n := 8) (S := fun w' => w'.cell? ⟨gb190, 0, none⟩ = some (.slice A1_0 l1_0.length c1_0) ∧ w'.cell? ⟨gb190, 1, none⟩ = some (.slice (some ad194) l1_1.length c1_1) ∧ w'.cell? ⟨gb190, 2, none⟩ = some (.slice A1_2 l1_2.length c1_2) ∧ w'.cell? (ad194.add (a2).toNat) = some (.int .i64 (rd l1_1 a2))) (ds := []) (bz 8 0) (by kernel_rfl) rfl (by kernel_rfl) ⟨(blk_cell BK190.out 0).trans rfl, (blk_cell BK190.out 1).trans rfl, (blk_cell BK190.out 2).trans rfl, ((HB.out.cell (World.block_lt_of_cell? w _ hw194_0)).trans hw194_0)⟩ (fun hHeld => ?_); refine with_tabW spec_l21Next.tab5 spec_l21Next.bits5 (fun HT_ HW_ => ?_)
           generalize wr.drew = w22 at HO_9 BK190 HB hx194_0 hHeld ⊢
           refine pv 0 20 (bz 8 1) HT_ (h := ?_)
           refine pv 2 22 (bz 8 5) HT_ (h := ?_)
           refine pv 5 25 (bz 8 37) HT_ (h := ?_)
           refine tv4 1 21 (bz 8 39) HT_ HW_ hHeld (h := ?_)
           refine pv 3 23 (bz 8 47) HT_ (h := ?_)
           refine tv4 4 24 (bz 8 63) HT_ HW_ hHeld (h := ?_)
           refine one_ (i := 6) (N := some 26) (bz 8 127) rfl rfl (one_of HT_.out (by kernel_rfl)) (by decide) (fun K hK => ?_)
           refine goes_ Try.func72 (by kernel_rfl) rfl #[.int .i64 a3] (by rfl) rfl rfl ms ?_
           with_reducible refine (spec_BusOf.calls a3 t195 _ A11.out).mono ?_
           rintro e w' ⟨rfl, ⟨nd, rfl⟩⟩
           refine ⟨_, rfl, ?_⟩
           refine hK.out _ _ ⟨(blk_cell BK190.out 0).trans rfl, (blk_cell BK190.out 1).trans rfl, (blk_cell BK190.out 2).trans rfl, ((HB.out.cell (World.block_lt_of_cell? w _ hw194_0)).trans hw194_0)⟩ (fun hHeld => ?_)
           clear hK K
           refine norm_ (a' := ?_) ?_ ?_
           rotate_left
           ·show Act.put _ (some 26) _ = _
            simp only [Act.put, List.setIfInBounds_toArray, List.set_cons_zero, List.set_cons_succ, i64_w, i32_w]
            rfl
           refine pv 7 27 (bz 8 255) HT_ (h := ?_)
           refine done_ (done_of HT_.out (by kernel_rfl)) ?_
           try go_wp2
           (try (rw [drewN_self w22]; generalize hq_ : World.drewN w22 _ = w22; have n0_ : Aside0 (Kd.R (Kd.int .i64) 3 w22 w.heap.size (fun _ => True) (.slice Ao21 t191.length co21) t191) := ⟨by rw [← hq_]; exact (ra HO_9.out)⟩; have n1_ : Aside0 (w22.heap[gb190]? = some (.cells #[.slice A1_0 l1_0.length c1_0, .slice (some ad194) l1_1.length c1_1, .slice A1_2 l1_2.length c1_2] 31 (0, 0))) := ⟨by rw [← hq_]; exact bk⟩; have n2_ : Aside0 (Below w.heap.size w w22) := ⟨by rw [← hq_]; exact bb⟩; clear HO_9 BK190 HB hq_; have HO_9 := n0_; have BK190 := n1_; have HB := n2_; clear n0_ n1_ n2_))
           have t_ := fc3 (Kd.R_drew HO_9.out) (blk_drew BK190.out) (below_drew1 HB.out)
           clear HO_9 BK190 HB
           obtain ⟨HO_9, BK190, HB⟩ := t_
           have p196 : 0 ≤ (x10_1 : Int) := of_decide_eq_true as_
           have q196 : x10_1 < (t191.length : Int) := of_decide_eq_true as_
           obtain ⟨ad196, e196, hx196_0⟩ := Kd.at_int (Kd.R_reads' HO_9.out).2.2 x10_1 p196 q196
           cases e196
           replace p196 := eq_true p196
           replace q196 := eq_true q196
           have p197 : 0 ≤ ((rd t191 x10_1) : Int) := of_decide_eq_true as_
           have q197 : (rd t191 x10_1) < (l0.length : Int) := of_decide_eq_true as_
           obtain ⟨ad197, e197, hx197_0, hx197_1, hx197_2⟩ := at_T50 HR0.out (rd t191 x10_1) p197 q197
           have hw197_2 := hx197_2
           have hw197_1 := hx197_1
           have hw197_0 := hx197_0
           cases e197
           replace hx197_0 := pw_cell_below HB.out hx197_0
           replace hx197_1 := pw_cell_below HB.out hx197_1
           replace hx197_2 := pw_cell_below HB.out hx197_2
           replace p197 := eq_true p197
           replace q197 := eq_true q197
           refine start_ (n := 11) (S := fun w' => w'.cell? (ad196.add (x10_1).toNat) = some (.int .i64 (rd t191 x10_1)) ∧ w'.cell? (ad197.add (((rd t191 x10_1)).toNat * 3)) = some (.int .i64 ((rd_T50 l0 (rd t191 x10_1)).f0)) ∧ w'.cell? ⟨(ad197.add (((rd t191 x10_1)).toNat * 3)).block, (ad197.add (((rd t191 x10_1)).toNat * 3)).off + 1, none⟩ = some (.int .i64 ((rd_T50 l0 (rd t191 x10_1)).f1)) ∧ w'.cell? ⟨(ad197.add (((rd t191 x10_1)).toNat * 3)).block, (ad197.add (((rd t191 x10_1)).toNat * 3)).off + 2, none⟩ = some (.int .i64 ((rd_T50 l0 (rd t191 x10_1)).f2))) (ds := []) (bz 11 0) (by kernel_rfl) rfl (by kernel_rfl) ⟨hx196_0, ((HB.out.cell (World.block_lt_of_cell? w _ hw197_0)).trans hw197_0), ((HB.out.cell (World.block_lt_of_cell? w _ hw197_1)).trans hw197_1), ((HB.out.cell (World.block_lt_of_cell? w _ hw197_2)).trans hw197_2)⟩ (fun hHeld => ?_); refine with_tabW spec_l21Next.tab6 spec_l21Next.bits6 (fun HT_ HW_ => ?_)
           generalize w22.drew = w23 at HO_9 BK190 HB hx196_0 hx197_0 hx197_1 hx197_2 hHeld ⊢
           refine pv 0 28 (bz 11 1) HT_ (h := ?_)
           refine pv 1 29 (bz 11 3) HT_ (h := ?_)
           refine pv 2 30 (bz 11 7) HT_ (h := ?_)
           refine pv 3 31 (bz 11 15) HT_ (h := ?_)
           refine pv 8 36 (bz 11 271) HT_ (h := ?_)
           refine tv4 4 32 (bz 11 287) HT_ HW_ hHeld (h := ?_)
           refine pv 5 33 (bz 11 319) HT_ (h := ?_)
           refine pv 6 34 (bz 11 383) HT_ (h := ?_)
           refine tv4 7 35 (bz 11 511) HT_ HW_ hHeld (h := ?_)
           refine one_ (i := 9) (N := some 37) (bz 11 1023) rfl rfl (one_of HT_.out (by kernel_rfl)) (by decide) (fun K hK => ?_)
           refine goes_ Try.func119 (by kernel_rfl) rfl #[.int .i64 a3] (by rfl) rfl rfl ms ?_
           with_reducible refine (spec_DeviceOf.calls a3 t198 _ A16.out).mono ?_
           rintro e w' ⟨rfl, ⟨nd, rfl⟩⟩
           refine ⟨_, rfl, ?_⟩
           refine hK.out _ _ ⟨hHeld.1, ((HB.out.cell (World.block_lt_of_cell? w _ hw197_0)).trans hw197_0), ((HB.out.cell (World.block_lt_of_cell? w _ hw197_1)).trans hw197_1), ((HB.out.cell (World.block_lt_of_cell? w _ hw197_2)).trans hw197_2)⟩ (fun hHeld => ?_)
           clear hK K
           refine norm_ (a' := ?_) ?_ ?_
           rotate_left
           ·show Act.put _ (some 37) _ = _
            simp only [Act.put, List.setIfInBounds_toArray, List.set_cons_zero, List.set_cons_succ, i64_w, i32_w]
            rfl
           refine pv 10 38 (bz 11 2047) HT_ (h := ?_)
           refine done_ (done_of HT_.out (by kernel_rfl)) ?_
           try go_wp2
           go_roundg k1
           case measure => have := HK1.out; omega
           case rel => exact ⟨(wrap64 (x10_1 + 1)), (by first | rfl | (simp; done) | (simp [*]; done)), H', ⟨by have := HK1.out; omega⟩, ⟨by (with_reducible repeat (first | apply Kd.R_alloc | apply Kd.R_drewN | apply Kd.R_drew)); exact HO_9.out⟩, ⟨by exact bk⟩, ⟨bb⟩⟩
         ·rw [if_neg c15] at H
          exact absurd H (by simp)
        ·rw [if_neg c14] at H
         exact absurd H (by simp)
       ·rw [if_neg c13] at H
        exact absurd H (by simp)
      ·rw [if_neg c12] at H
       have c12b0 : ((rd l1_1 a2) == t195) = false := beq_eq_false_iff_ne.mpr c12
       have c12b1 : ((rd l1_1 a2) != t195) = true := bne_iff_ne.mpr c12
       by_cases c24 : 0 ≤ x10_1
       ·rw [if_pos c24] at H
        have c24b0 : decide (0 ≤ x10_1) = true := decide_eq_true c24
        clear c24
        replace H := Option.bind_eq_some_iff.mp H
        obtain ⟨t201, A250, H⟩ := H
        replace H : ((spec_IsUnder.f l1_0 l1_1 l1_2 (rd t191 x10_1) t201).bind fun t202 => (if t202 = true then (some (rd t191 x10_1)) else (spec_l21Next.l0 k1 l0 a2 a3 t191 (wrap64 (x10_1 + 1)) l1_0 l1_1 l1_2))) = some r := H
        have A25 := Aside0.mk A250
        clear A250
        replace H := Option.bind_eq_some_iff.mp H
        obtain ⟨t202, A260, H⟩ := H
        replace H : (if t202 = true then (some (rd t191 x10_1)) else (spec_l21Next.l0 k1 l0 a2 a3 t191 (wrap64 (x10_1 + 1)) l1_0 l1_1 l1_2)) = some r := H
        have A26 := Aside0.mk A260
        clear A260
        by_cases c27 : t202 = true
        ·subst c27
         have H1 : (some (rd t191 x10_1)) = some r := by rw [if_pos rfl] at H; exact H
         clear H
         have H := H1
         clear H1
         obtain rfl := Option.some.inj H
         obtain ⟨Ao28, co28, eo28⟩ := Kd.R_slice HO_9.out
         subst eo28
         try go_wp2
         have t_ := fc3 (Kd.R_drew HO_9.out) (blk_drew BK190.out) (below_drew1 HB.out)
         clear HO_9 BK190 HB
         obtain ⟨HO_9, BK190, HB⟩ := t_
         have p194 : 0 ≤ (a2 : Int) := of_decide_eq_true as_
         have q194 : a2 < (l1_1.length : Int) := of_decide_eq_true as_
         obtain ⟨ad194, e194, hx194_0⟩ := Kd.at_int HR1_1.out a2 p194 q194
         have hw194_0 := hx194_0
         cases e194
         replace hx194_0 := pw_cell_below HB.out hx194_0
         replace p194 := eq_true p194
         replace q194 := eq_true q194
         refine start_ (n := 8) (S := fun w' => w'.cell? ⟨gb190, 0, none⟩ = some (.slice A1_0 l1_0.length c1_0) ∧ w'.cell? ⟨gb190, 1, none⟩ = some (.slice (some ad194) l1_1.length c1_1) ∧ w'.cell? ⟨gb190, 2, none⟩ = some (.slice A1_2 l1_2.length c1_2) ∧ w'.cell? (ad194.add (a2).toNat) = some (.int .i64 (rd l1_1 a2))) (ds := []) (bz 8 0) (by kernel_rfl) rfl (by kernel_rfl) ⟨(blk_cell BK190.out 0).trans rfl, (blk_cell BK190.out 1).trans rfl, (blk_cell BK190.out 2).trans rfl, ((HB.out.cell (World.block_lt_of_cell? w _ hw194_0)).trans hw194_0)⟩ (fun hHeld => ?_); refine with_tabW spec_l21Next.tab5 spec_l21Next.bits5 (fun HT_ HW_ => ?_)
         generalize wr.drew = w29 at HO_9 BK190 HB hx194_0 hHeld ⊢
         refine pv 0 20 (bz 8 1) HT_ (h := ?_)
         refine pv 2 22 (bz 8 5) HT_ (h := ?_)
         refine pv 5 25 (bz 8 37) HT_ (h := ?_)
         refine tv4 1 21 (bz 8 39) HT_ HW_ hHeld (h := ?_)
         refine pv 3 23 (bz 8 47) HT_ (h := ?_)
         refine tv4 4 24 (bz 8 63) HT_ HW_ hHeld (h := ?_)
         refine one_ (i := 6) (N := some 26) (bz 8 127) rfl rfl (one_of HT_.out (by kernel_rfl)) (by decide) (fun K hK => ?_)
         refine goes_ Try.func72 (by kernel_rfl) rfl #[.int .i64 a3] (by rfl) rfl rfl ms ?_
         with_reducible refine (spec_BusOf.calls a3 t195 _ A11.out).mono ?_
         rintro e w' ⟨rfl, ⟨nd, rfl⟩⟩
         refine ⟨_, rfl, ?_⟩
         refine hK.out _ _ ⟨(blk_cell BK190.out 0).trans rfl, (blk_cell BK190.out 1).trans rfl, (blk_cell BK190.out 2).trans rfl, ((HB.out.cell (World.block_lt_of_cell? w _ hw194_0)).trans hw194_0)⟩ (fun hHeld => ?_)
         clear hK K
         refine norm_ (a' := ?_) ?_ ?_
         rotate_left
         ·show Act.put _ (some 26) _ = _
          simp only [Act.put, List.setIfInBounds_toArray, List.set_cons_zero, List.set_cons_succ, i64_w, i32_w]
          rfl
         refine pv 7 27 (bz 8 255) HT_ (h := ?_)
         refine done_ (done_of HT_.out (by kernel_rfl)) ?_
         try go_wp2
         (try (rw [drewN_self w29]; generalize hq_ : World.drewN w29 _ = w29; have n0_ : Aside0 (Kd.R (Kd.int .i64) 3 w29 w.heap.size (fun _ => True) (.slice Ao28 t191.length co28) t191) := ⟨by rw [← hq_]; exact (ra HO_9.out)⟩; have n1_ : Aside0 (w29.heap[gb190]? = some (.cells #[.slice A1_0 l1_0.length c1_0, .slice (some ad194) l1_1.length c1_1, .slice A1_2 l1_2.length c1_2] 31 (0, 0))) := ⟨by rw [← hq_]; exact bk⟩; have n2_ : Aside0 (Below w.heap.size w w29) := ⟨by rw [← hq_]; exact bb⟩; clear HO_9 BK190 HB hq_; have HO_9 := n0_; have BK190 := n1_; have HB := n2_; clear n0_ n1_ n2_))
         have t_ := fc3 (Kd.R_drew HO_9.out) (blk_drew BK190.out) (below_drew1 HB.out)
         clear HO_9 BK190 HB
         obtain ⟨HO_9, BK190, HB⟩ := t_
         have p200 : 0 ≤ (x10_1 : Int) := of_decide_eq_true as_
         have q200 : x10_1 < (t191.length : Int) := of_decide_eq_true as_
         obtain ⟨ad200, e200, hx200_0⟩ := Kd.at_int (Kd.R_reads' HO_9.out).2.2 x10_1 p200 q200
         cases e200
         replace p200 := eq_true p200
         replace q200 := eq_true q200
         refine start_ (n := 8) (S := fun w' => w'.cell? ⟨gb190, 0, none⟩ = some (.slice A1_0 l1_0.length c1_0) ∧ w'.cell? ⟨gb190, 1, none⟩ = some (.slice (some ad194) l1_1.length c1_1) ∧ w'.cell? ⟨gb190, 2, none⟩ = some (.slice A1_2 l1_2.length c1_2) ∧ w'.cell? (ad200.add (x10_1).toNat) = some (.int .i64 (rd t191 x10_1))) (ds := []) (bz 8 0) (by kernel_rfl) rfl (by kernel_rfl) ⟨(blk_cell BK190.out 0).trans rfl, (blk_cell BK190.out 1).trans rfl, (blk_cell BK190.out 2).trans rfl, hx200_0⟩ (fun hHeld => ?_); refine with_tabW spec_l21Next.tab8 spec_l21Next.bits8 (fun HT_ HW_ => ?_)
         generalize w29.drew = w30 at HO_9 BK190 HB hx200_0 hHeld ⊢
         refine pv 1 44 (bz 8 2) HT_ (h := ?_)
         refine pv 2 45 (bz 8 6) HT_ (h := ?_)
         refine pv 3 46 (bz 8 14) HT_ (h := ?_)
         refine pv 5 48 (bz 8 46) HT_ (h := ?_)
         refine tv4 0 43 (bz 8 47) HT_ HW_ hHeld (h := ?_)
         refine tv4 4 47 (bz 8 63) HT_ HW_ hHeld (h := ?_)
         refine one_ (i := 6) (N := some 49) (bz 8 127) rfl rfl (one_of HT_.out (by kernel_rfl)) (by decide) (fun K hK => ?_)
         refine goes_ Try.func72 (by kernel_rfl) rfl #[.int .i64 a3] (by rfl) rfl rfl ms ?_
         with_reducible refine (spec_BusOf.calls a3 t201 _ A25.out).mono ?_
         rintro e w' ⟨rfl, ⟨nd, rfl⟩⟩
         refine ⟨_, rfl, ?_⟩
         refine hK.out _ _ ⟨(blk_cell BK190.out 0).trans rfl, (blk_cell BK190.out 1).trans rfl, (blk_cell BK190.out 2).trans rfl, hHeld.2.2.2⟩ (fun hHeld => ?_)
         clear hK K
         refine norm_ (a' := ?_) ?_ ?_
         rotate_left
         ·show Act.put _ (some 49) _ = _
          simp only [Act.put, List.setIfInBounds_toArray, List.set_cons_zero, List.set_cons_succ, i64_w, i32_w]
          rfl
         refine one_ (i := 7) (N := some 50) (bz 8 255) rfl rfl (one_of HT_.out (by kernel_rfl)) (by decide) (fun K hK => ?_)
         refine goes_ Try.func120 (by kernel_rfl) rfl #[.agg #[.slice A1_0 l1_0.length c1_0, .slice (some ad194) l1_1.length c1_1, .slice A1_2 l1_2.length c1_2], .int .i64 (rd t191 x10_1), .int .i64 t201] (by rfl) rfl rfl ms ?_
         with_reducible refine (spec_IsUnder.calls _ _ l1_0 _ _ l1_1 _ _ l1_2 (rd t191 x10_1) t201 true _ ?side1 ?side2 ?side3 ?side4 ?side5 ?side6 A26.out).mono ?_
         (case side1 => exact kc)
         (case side2 => exact HC1_0.out)
         (case side3 => exact kc)
         (case side4 => exact HC1_1.out)
         (case side5 => exact kc)
         (case side6 => exact HC1_2.out)
         rintro e w31 ⟨rfl, hb⟩
         have HS3_ := (hb.cell (World.block_lt_of_cell? _ _ (hHeld.2.2.2))).trans (hHeld.2.2.2)
         refine ⟨_, rfl, ?_⟩
         have t_ := fc3 (Kd.R_below (ra HO_9.out) hb) (bw BK190 hb) (below_step bb hb)
         clear HO_9 BK190 HB
         obtain ⟨HO_9, BK190, HB⟩ := t_
         (try clear hb)
         (try clear hb2)
         (try clear hk)
         (try clear hi)
         refine hK.out _ _ ⟨(blk_cell BK190.out 0).trans rfl, (blk_cell BK190.out 1).trans rfl, (blk_cell BK190.out 2).trans rfl, HS3_⟩ (fun hHeld => ?_)
         clear hK K
         refine norm_ (a' := ?_) ?_ ?_
         rotate_left
         ·show Act.put _ (some 50) _ = _
          simp only [Act.put, List.setIfInBounds_toArray, List.set_cons_zero, List.set_cons_succ, i64_w, i32_w]
          rfl
         refine done_ (done_of HT_.out (by kernel_rfl)) ?_
         have p203 : 0 ≤ (x10_1 : Int) := of_decide_eq_true as_
         have q203 : x10_1 < (t191.length : Int) := of_decide_eq_true as_
         obtain ⟨ad203, e203, hx203_0⟩ := Kd.at_int (Kd.R_reads' HO_9.out).2.2 x10_1 p203 q203
         obtain rfl : ad200 = ad203 := (by injection e203)
         replace p203 := eq_true p203
         replace q203 := eq_true q203
         try go_wp2
         go_ret
         exact ⟨er, bb⟩
        ·replace c27 := Bool.eq_false_iff.mpr c27
         subst c27
         have H1 : (spec_l21Next.l0 k1 l0 a2 a3 t191 (wrap64 (x10_1 + 1)) l1_0 l1_1 l1_2) = some r := by rw [if_neg (show ¬ (false = true) by decide)] at H; exact H
         clear H
         have H := H1
         clear H1
         have H' := Aside0.mk H
         clear H
         obtain ⟨Ao32, co32, eo32⟩ := Kd.R_slice HO_9.out
         subst eo32
         try go_wp2
         have t_ := fc3 (Kd.R_drew HO_9.out) (blk_drew BK190.out) (below_drew1 HB.out)
         clear HO_9 BK190 HB
         obtain ⟨HO_9, BK190, HB⟩ := t_
         have p194 : 0 ≤ (a2 : Int) := of_decide_eq_true as_
         have q194 : a2 < (l1_1.length : Int) := of_decide_eq_true as_
         obtain ⟨ad194, e194, hx194_0⟩ := Kd.at_int HR1_1.out a2 p194 q194
         have hw194_0 := hx194_0
         cases e194
         replace hx194_0 := pw_cell_below HB.out hx194_0
         replace p194 := eq_true p194
         replace q194 := eq_true q194
         refine start_ (n := 8) (S := fun w' => w'.cell? ⟨gb190, 0, none⟩ = some (.slice A1_0 l1_0.length c1_0) ∧ w'.cell? ⟨gb190, 1, none⟩ = some (.slice (some ad194) l1_1.length c1_1) ∧ w'.cell? ⟨gb190, 2, none⟩ = some (.slice A1_2 l1_2.length c1_2) ∧ w'.cell? (ad194.add (a2).toNat) = some (.int .i64 (rd l1_1 a2))) (ds := []) (bz 8 0) (by kernel_rfl) rfl (by kernel_rfl) ⟨(blk_cell BK190.out 0).trans rfl, (blk_cell BK190.out 1).trans rfl, (blk_cell BK190.out 2).trans rfl, ((HB.out.cell (World.block_lt_of_cell? w _ hw194_0)).trans hw194_0)⟩ (fun hHeld => ?_); refine with_tabW spec_l21Next.tab5 spec_l21Next.bits5 (fun HT_ HW_ => ?_)
         generalize wr.drew = w33 at HO_9 BK190 HB hx194_0 hHeld ⊢
         refine pv 0 20 (bz 8 1) HT_ (h := ?_)
         refine pv 2 22 (bz 8 5) HT_ (h := ?_)
         refine pv 5 25 (bz 8 37) HT_ (h := ?_)
         refine tv4 1 21 (bz 8 39) HT_ HW_ hHeld (h := ?_)
         refine pv 3 23 (bz 8 47) HT_ (h := ?_)
         refine tv4 4 24 (bz 8 63) HT_ HW_ hHeld (h := ?_)
         refine one_ (i := 6) (N := some 26) (bz 8 127) rfl rfl (one_of HT_.out (by kernel_rfl)) (by decide) (fun K hK => ?_)
         refine goes_ Try.func72 (by kernel_rfl) rfl #[.int .i64 a3] (by rfl) rfl rfl ms ?_
         with_reducible refine (spec_BusOf.calls a3 t195 _ A11.out).mono ?_
         rintro e w' ⟨rfl, ⟨nd, rfl⟩⟩
         refine ⟨_, rfl, ?_⟩
         refine hK.out _ _ ⟨(blk_cell BK190.out 0).trans rfl, (blk_cell BK190.out 1).trans rfl, (blk_cell BK190.out 2).trans rfl, ((HB.out.cell (World.block_lt_of_cell? w _ hw194_0)).trans hw194_0)⟩ (fun hHeld => ?_)
         clear hK K
         refine norm_ (a' := ?_) ?_ ?_
         rotate_left
         ·show Act.put _ (some 26) _ = _
          simp only [Act.put, List.setIfInBounds_toArray, List.set_cons_zero, List.set_cons_succ, i64_w, i32_w]
          rfl
         refine pv 7 27 (bz 8 255) HT_ (h := ?_)
         refine done_ (done_of HT_.out (by kernel_rfl)) ?_
         try go_wp2
         (try (rw [drewN_self w33]; generalize hq_ : World.drewN w33 _ = w33; have n0_ : Aside0 (Kd.R (Kd.int .i64) 3 w33 w.heap.size (fun _ => True) (.slice Ao32 t191.length co32) t191) := ⟨by rw [← hq_]; exact (ra HO_9.out)⟩; have n1_ : Aside0 (w33.heap[gb190]? = some (.cells #[.slice A1_0 l1_0.length c1_0, .slice (some ad194) l1_1.length c1_1, .slice A1_2 l1_2.length c1_2] 31 (0, 0))) := ⟨by rw [← hq_]; exact bk⟩; have n2_ : Aside0 (Below w.heap.size w w33) := ⟨by rw [← hq_]; exact bb⟩; clear HO_9 BK190 HB hq_; have HO_9 := n0_; have BK190 := n1_; have HB := n2_; clear n0_ n1_ n2_))
         have t_ := fc3 (Kd.R_drew HO_9.out) (blk_drew BK190.out) (below_drew1 HB.out)
         clear HO_9 BK190 HB
         obtain ⟨HO_9, BK190, HB⟩ := t_
         have p200 : 0 ≤ (x10_1 : Int) := of_decide_eq_true as_
         have q200 : x10_1 < (t191.length : Int) := of_decide_eq_true as_
         obtain ⟨ad200, e200, hx200_0⟩ := Kd.at_int (Kd.R_reads' HO_9.out).2.2 x10_1 p200 q200
         cases e200
         replace p200 := eq_true p200
         replace q200 := eq_true q200
         refine start_ (n := 8) (S := fun w' => w'.cell? ⟨gb190, 0, none⟩ = some (.slice A1_0 l1_0.length c1_0) ∧ w'.cell? ⟨gb190, 1, none⟩ = some (.slice (some ad194) l1_1.length c1_1) ∧ w'.cell? ⟨gb190, 2, none⟩ = some (.slice A1_2 l1_2.length c1_2) ∧ w'.cell? (ad200.add (x10_1).toNat) = some (.int .i64 (rd t191 x10_1))) (ds := []) (bz 8 0) (by kernel_rfl) rfl (by kernel_rfl) ⟨(blk_cell BK190.out 0).trans rfl, (blk_cell BK190.out 1).trans rfl, (blk_cell BK190.out 2).trans rfl, hx200_0⟩ (fun hHeld => ?_); refine with_tabW spec_l21Next.tab8 spec_l21Next.bits8 (fun HT_ HW_ => ?_)
         generalize w33.drew = w34 at HO_9 BK190 HB hx200_0 hHeld ⊢
         refine pv 1 44 (bz 8 2) HT_ (h := ?_)
         refine pv 2 45 (bz 8 6) HT_ (h := ?_)
         refine pv 3 46 (bz 8 14) HT_ (h := ?_)
         refine pv 5 48 (bz 8 46) HT_ (h := ?_)
         refine tv4 0 43 (bz 8 47) HT_ HW_ hHeld (h := ?_)
         refine tv4 4 47 (bz 8 63) HT_ HW_ hHeld (h := ?_)
         refine one_ (i := 6) (N := some 49) (bz 8 127) rfl rfl (one_of HT_.out (by kernel_rfl)) (by decide) (fun K hK => ?_)
         refine goes_ Try.func72 (by kernel_rfl) rfl #[.int .i64 a3] (by rfl) rfl rfl ms ?_
         with_reducible refine (spec_BusOf.calls a3 t201 _ A25.out).mono ?_
         rintro e w' ⟨rfl, ⟨nd, rfl⟩⟩
         refine ⟨_, rfl, ?_⟩
         refine hK.out _ _ ⟨(blk_cell BK190.out 0).trans rfl, (blk_cell BK190.out 1).trans rfl, (blk_cell BK190.out 2).trans rfl, hHeld.2.2.2⟩ (fun hHeld => ?_)
         clear hK K
         refine norm_ (a' := ?_) ?_ ?_
         rotate_left
         ·show Act.put _ (some 49) _ = _
          simp only [Act.put, List.setIfInBounds_toArray, List.set_cons_zero, List.set_cons_succ, i64_w, i32_w]
          rfl
         refine one_ (i := 7) (N := some 50) (bz 8 255) rfl rfl (one_of HT_.out (by kernel_rfl)) (by decide) (fun K hK => ?_)
         refine goes_ Try.func120 (by kernel_rfl) rfl #[.agg #[.slice A1_0 l1_0.length c1_0, .slice (some ad194) l1_1.length c1_1, .slice A1_2 l1_2.length c1_2], .int .i64 (rd t191 x10_1), .int .i64 t201] (by rfl) rfl rfl ms ?_
         with_reducible refine (spec_IsUnder.calls _ _ l1_0 _ _ l1_1 _ _ l1_2 (rd t191 x10_1) t201 false _ ?side1 ?side2 ?side3 ?side4 ?side5 ?side6 A26.out).mono ?_
         (case side1 => exact kc)
         (case side2 => exact HC1_0.out)
         (case side3 => exact kc)
         (case side4 => exact HC1_1.out)
         (case side5 => exact kc)
         (case side6 => exact HC1_2.out)
         rintro e w35 ⟨rfl, hb⟩
         have HS3_ := (hb.cell (World.block_lt_of_cell? _ _ (hHeld.2.2.2))).trans (hHeld.2.2.2)
         refine ⟨_, rfl, ?_⟩
         have t_ := fc3 (Kd.R_below (ra HO_9.out) hb) (bw BK190 hb) (below_step bb hb)
         clear HO_9 BK190 HB
         obtain ⟨HO_9, BK190, HB⟩ := t_
         (try clear hb)
         (try clear hb2)
         (try clear hk)
         (try clear hi)
         refine hK.out _ _ ⟨(blk_cell BK190.out 0).trans rfl, (blk_cell BK190.out 1).trans rfl, (blk_cell BK190.out 2).trans rfl, HS3_⟩ (fun hHeld => ?_)
         clear hK K
         refine norm_ (a' := ?_) ?_ ?_
         rotate_left
         ·show Act.put _ (some 50) _ = _
          simp only [Act.put, List.setIfInBounds_toArray, List.set_cons_zero, List.set_cons_succ, i64_w, i32_w]
          rfl
         refine done_ (done_of HT_.out (by kernel_rfl)) ?_
         try go_wp2
         go_roundg k1
         case measure => have := HK1.out; omega
         case rel => exact ⟨(wrap64 (x10_1 + 1)), (by first | rfl | (simp; done) | (simp [*]; done)), H', ⟨by have := HK1.out; omega⟩, ⟨by (with_reducible repeat (first | apply Kd.R_alloc | apply Kd.R_drewN | apply Kd.R_drew)); exact HO_9.out⟩, ⟨by exact bk⟩, ⟨bb⟩⟩
       ·rw [if_neg c24] at H
        exact absurd H (by simp)
     ·rw [if_neg c10] at H
      exact absurd H (by simp)
    ·rw [if_neg c9] at H
     exact absurd H (by simp)
   ·rw [if_neg c8] at H
    have c8b0 : decide (x10_1 < (t191.length : Int)) = false := decide_eq_false c8
    clear c8
    obtain rfl := Option.some.inj H
    obtain ⟨Ao36, co36, eo36⟩ := Kd.R_slice HO_9.out
    subst eo36
    go_wp2
    go_ret
    exact ⟨er, bb⟩

end Go.Proofs.Ytbbppknnkghkjaa.PFnExactDownToId
