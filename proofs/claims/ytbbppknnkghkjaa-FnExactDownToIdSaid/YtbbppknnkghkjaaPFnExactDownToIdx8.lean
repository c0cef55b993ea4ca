/- Printed by a program of this session out of the translation: each Go function as a Lean function, with the proof that Go comes to just its answer (no condition beyond what each theorem says). (squeezed) -/
import Derived.Test.YtbbppknnkghkjaaPFnExactDownToIdx0
import Derived.Test.YtbbppknnkghkjaaPFnExactDownToIdx5
import Derived.Test.YtbbppknnkghkjaaPFnExactDownToIdx7
namespace Go.Proofs.Ytbbppknnkghkjaa.PFnExactDownToId
open Go.RowKit Go.Proofs.YtbbppknnkghkjaaW.PrintWords Go.Proofs.YtbbppknnkghkjaaW.PrintLast Go.Proofs.YtbbppknnkghkjaaW.PrintMore Go.Proofs.Ytbbppknnkghkjaa.Kit Go.Proofs.Ytbbppknnkghkjaa.Kit2
attribute [local go_sem] max2_int min2_int max_two min_two max_three min_three max_four min_four   -- for this text's walks alone
set_option linter.unusedVariables false
set_option linter.unusedSimpArgs false

/-! ### spec_FunctionOf: function 74 -/
def spec_FunctionOf.f (a0 : Int) : Option (Int) := (spec_IsId.f a0).bind fun t204 => (if t204 = true then (some (Int.tmod a0 4)) else (some (-1)))
set_option maxHeartbeats 8000000 in
set_option maxRecDepth 100000 in
theorem spec_FunctionOf.calls (a0 : Int) (r : Int) (w : World) (h : spec_FunctionOf.f a0 = some r) :
  Calls Try.prog 74 #[.int .i64 a0] w fun e w' => e = .returned (.int .i64 r) ∧ Drawn0 w w' := by
 have H : ((spec_IsId.f a0).bind fun t204 => (if t204 = true then (some (Int.tmod a0 4)) else (some (-1)))) = some r := h
 clear h
 replace H := Option.bind_eq_some_iff.mp H
 obtain ⟨t204, A20, H⟩ := H
 replace H : (if t204 = true then (some (Int.tmod a0 4)) else (some (-1))) = some r := H
 have A2 := Aside0.mk A20
 clear A20
 by_cases c3 : t204 = true
 ·subst c3
  have H1 : (some (Int.tmod a0 4)) = some r := by rw [if_pos rfl] at H; exact H
  clear H
  have H := H1
  clear H1
  obtain rfl := Option.some.inj H
  go_enter Try.func74, Try.ntmps74
  go_wp2_with (first | ((with_reducible refine gate_callee (f := 71) rfl ?_); refine goesL_ (some 4) rfl rfl Try.func71 (by kernel_rfl) rfl #[.int .i64 a0] rfl ms ?_; (with_reducible refine (spec_IsId.calls a0 true _ A2.out).mono ?_); rintro e w' ⟨rfl, ⟨nd, rfl⟩⟩; refine ⟨_, rfl, ?_⟩))
  go_ret
  exact ⟨by first | rfl | (simp; done) | (simp [*]; done), by repeat (first | exact Drawn0.refl _ | apply Drawn0.step)⟩
 ·replace c3 := Bool.eq_false_iff.mpr c3
  subst c3
  have H1 : (some (-1)) = some r := by rw [if_neg (show ¬ (false = true) by decide)] at H; exact H
  clear H
  have H := H1
  clear H1
  obtain rfl := Option.some.inj H
  go_enter Try.func74, Try.ntmps74
  go_wp2_with (first | ((with_reducible refine gate_callee (f := 71) rfl ?_); refine goesL_ (some 4) rfl rfl Try.func71 (by kernel_rfl) rfl #[.int .i64 a0] rfl ms ?_; (with_reducible refine (spec_IsId.calls a0 false _ A2.out).mono ?_); rintro e w' ⟨rfl, ⟨nd, rfl⟩⟩; refine ⟨_, rfl, ?_⟩))
  go_ret
  exact ⟨by first | rfl | (simp; done) | (simp [*]; done), by repeat (first | exact Drawn0.refl _ | apply Drawn0.step)⟩

/-! ### spec_DownToId: function 20 -/
mutual
def spec_DownToId.j0 : Nat → List (S50) → Int → List Int → Bool → List Int → List Int → List Int → Option (List Int)
 | 0, _, _, _, _, _, _, _ => none
 | k + 1, x0, x2, x7, x19, x206000, x206001, x206002 => if x19 = true then (some x7) else (spec_DownToId.l0 k x0 x2 x7 0 x206000 x206001 x206002)
def spec_DownToId.l0 : Nat → List (S50) → Int → List Int → Int → List Int → List Int → List Int → Option (List Int)
 | 0, _, _, _, _, _, _, _ => none
 | k + 1, x0, x2, x7, x8, x206000, x206001, x206002 => if x7.length < 17592186044416 then ((some (x7 ++ [x8] : List Int)).bind fun y211 => (if 0 ≤ x8 then (if x8 < (x206001.length : Int) then ((spec_BusOf.f x2).bind fun t215 => ((spec_l21Next.f k x0 x206000 x206001 x206002 x8 x2).bind fun t216 => (if t216 < 0 then (some (([] : List Int))) else (if (rd x206001 x8) = t215 then ((spec_FunctionOf.f x2).bind fun t220 => (if 0 ≤ t216 then (if t216 < (x0.length : Int) then (if t220 ≥ (mx 1 ((rd_T50 x0 t216).f2)) then (some (([] : List Int))) else (if y211.length < 17592186044416 then (some (y211 ++ [t216])) else (none))) else (none)) else (none))) else (spec_DownToId.l0 k x0 x2 y211 t216 x206000 x206001 x206002))))) else (none)) else (none))) else (none)
end
def spec_DownToId.f (k : Nat) (l0 : List (S50)) (l1_0 : List Int) (l1_1 : List Int) (l1_2 : List Int) (a2 : Int) : Option (List Int) := (some (([] : List Int) : List Int)).bind fun y206 => ((spec_l20Is.f k l0 l1_0 l1_1 l1_2).bind fun t209 => (if t209 = true then ((spec_IsId.f a2).bind fun t210 => (spec_DownToId.j0 k l0 a2 y206 (!t210) l1_0 l1_1 l1_2)) else (spec_DownToId.j0 k l0 a2 y206 true l1_0 l1_1 l1_2)))
set_option maxHeartbeats 8000000 in
set_option maxRecDepth 100000 in
theorem spec_DownToId.calls (k : Nat) (A0 : Option Addr) (c0 : Nat) (l0 : List (S50)) (A1_0 : Option Addr) (c1_0 : Nat) (l1_0 : List Int) (A1_1 : Option Addr) (c1_1 : Nat) (l1_1 : List Int) (A1_2 : Option Addr) (c1_2 : Nat) (l1_2 : List Int) (a2 : Int) (r : List Int) (w : World) (hr0 : Kd.C k50 w A0 l0.length l0) (hc0 : l0.length ≤ c0) (hr1_0 : Kd.C (Kd.int .i64) w A1_0 l1_0.length l1_0) (hc1_0 : l1_0.length ≤ c1_0) (hr1_1 : Kd.C (Kd.int .i64) w A1_1 l1_1.length l1_1) (hc1_1 : l1_1.length ≤ c1_1) (hr1_2 : Kd.C (Kd.int .i64) w A1_2 l1_2.length l1_2) (hc1_2 : l1_2.length ≤ c1_2) (h : spec_DownToId.f k l0 l1_0 l1_1 l1_2 a2 = some r) :
  Calls Try.prog 20 #[.slice A0 l0.length c0, .agg #[.slice A1_0 l1_0.length c1_0, .slice A1_1 l1_1.length c1_1, .slice A1_2 l1_2.length c1_2], .int .i64 a2] w fun e w' => ∃ v0_ : Value, e = .returned (v0_) ∧ Kd.R (Kd.int .i64) 3 w' w.heap.size (fun _ => True) v0_ r ∧ Below w.heap.size w w' := by
 have hu31 := Try.underlying31
 have HR0 := Aside0.mk hr0
 have HC0 := Aside0.mk hc0
 clear hr0 hc0
 have HR1_0 := Aside0.mk hr1_0
 have HC1_0 := Aside0.mk hc1_0
 clear hr1_0 hc1_0
 have HR1_1 := Aside0.mk hr1_1
 have HC1_1 := Aside0.mk hc1_1
 clear hr1_1 hc1_1
 have HR1_2 := Aside0.mk hr1_2
 have HC1_2 := Aside0.mk hc1_2
 clear hr1_2 hc1_2
 have HB := Aside0.mk (Below.refl w.heap.size w)
 have H : ((some (([] : List Int) : List Int)).bind fun y206 => ((spec_l20Is.f k l0 l1_0 l1_1 l1_2).bind fun t209 => (if t209 = true then ((spec_IsId.f a2).bind fun t210 => (spec_DownToId.j0 k l0 a2 y206 (!t210) l1_0 l1_1 l1_2)) else (spec_DownToId.j0 k l0 a2 y206 true l1_0 l1_1 l1_2)))) = some r := h
 clear h
 obtain ⟨y206, hy206⟩ : ∃ y_ : List Int, y_ = (([] : List Int)) := ⟨_, rfl⟩
 replace H : ((spec_l20Is.f k l0 l1_0 l1_1 l1_2).bind fun t209 => (if t209 = true then ((spec_IsId.f a2).bind fun t210 => (spec_DownToId.j0 k l0 a2 y206 (!t210) l1_0 l1_1 l1_2)) else (spec_DownToId.j0 k l0 a2 y206 true l1_0 l1_1 l1_2))) = some r := by first | (rw [hy206]; with_reducible exact H) | (have H2_ := (Option.bind_some _ _).symm.trans H; rw [hy206]; with_reducible exact H2_) | (have H2_ := (Option.bind_some _ _).symm.trans H; with_reducible exact H2_) | with_reducible exact H | (rw [hy206]; exact H) | exact H
 have Ny206 := Aside0.mk hy206
 clear hy206
 have HC4 := Aside0.mk H
 clear H
 go_enter Try.func20, Try.ntmps20
 go_upto_region 2 with (first | ((with_reducible refine gate_dst (N := 4) rfl ?_); refine box_event ?hg (N := 4) ?hd (cs := #[.slice A1_0 l1_0.length c1_0, .slice A1_1 l1_1.length c1_1, .slice A1_2 l1_2.length c1_2]) (t := 31) ?hr ?_; (case hd => rfl); (case hg => rfl); (case hr => first | (go_simp; done) | (go_simp; rfl)); intro gb205 hg w5 hbox hb; have t_ := fc4 (below_step bb hb) (hbox) (bg hg : w.heap.size ≤ gb205) (bg hg : w.heap.size ≤ gb205); clear HB; obtain ⟨HB, BK205, GW205, GE205⟩ := t_; clear hb hbox hg) | ((with_reducible refine gate_dst (N := 10) rfl ?_); refine Kd.R_lit (Kd.int .i64) _ 3 ?hg (N := 10) ?hd (xs := ([] : List Int)) (inner := []) (ok := fun _ => True) (okp := fun _ => True) ?hr ?hp (fun _ hk => hk) trivial (Below.refl _ _) (Nat.le_refl _) (by simp) ?_; (case hd => rfl); (case hg => rfl); (case hr => first | (go_simp; done) | (go_simp; rfl)); (case hp => exact (Reps.none _ _)); intro v207 w6 ho7 hb hg_ hnew_; clear hg_ hnew_; (first | rw [← Ny206.out] at ho7 | (simp only [Int.reduceToNat] at ho7; rw [← Ny206.out] at ho7)); have t_ := fc3 (Kd.R_lower ho7 (below_size bb)) (bw BK205 hb) (below_step bb hb); clear BK205 HB; obtain ⟨HO208, BK205, HB⟩ := t_; clear hb ho7))
 repeat (go_quiet (first | ((with_reducible refine gate_dst (N := 4) rfl ?_); refine box_event ?hg (N := 4) ?hd (cs := #[.slice A1_0 l1_0.length c1_0, .slice A1_1 l1_1.length c1_1, .slice A1_2 l1_2.length c1_2]) (t := 31) ?hr ?_; (case hd => rfl); (case hg => rfl); (case hr => first | (go_simp; done) | (go_simp; rfl)); intro gb205 hg w5 hbox hb; have t_ := fc4 (below_step bb hb) (hbox) (bg hg : w.heap.size ≤ gb205) (bg hg : w.heap.size ≤ gb205); clear HB; obtain ⟨HB, BK205, GW205, GE205⟩ := t_; clear hb hbox hg) | ((with_reducible refine gate_dst (N := 10) rfl ?_); refine Kd.R_lit (Kd.int .i64) _ 3 ?hg (N := 10) ?hd (xs := ([] : List Int)) (inner := []) (ok := fun _ => True) (okp := fun _ => True) ?hr ?hp (fun _ hk => hk) trivial (Below.refl _ _) (Nat.le_refl _) (by simp) ?_; (case hd => rfl); (case hg => rfl); (case hr => first | (go_simp; done) | (go_simp; rfl)); (case hp => exact (Reps.none _ _)); intro v207 w6 ho7 hb hg_ hnew_; clear hg_ hnew_; (first | rw [← Ny206.out] at ho7 | (simp only [Int.reduceToNat] at ho7; rw [← Ny206.out] at ho7)); have t_ := fc3 (Kd.R_lower ho7 (below_size bb)) (bw BK205 hb) (below_step bb hb); clear BK205 HB; obtain ⟨HO208, BK205, HB⟩ := t_; clear hb ho7)); go_upto_region 2 with (first | ((with_reducible refine gate_dst (N := 4) rfl ?_); refine box_event ?hg (N := 4) ?hd (cs := #[.slice A1_0 l1_0.length c1_0, .slice A1_1 l1_1.length c1_1, .slice A1_2 l1_2.length c1_2]) (t := 31) ?hr ?_; (case hd => rfl); (case hg => rfl); (case hr => first | (go_simp; done) | (go_simp; rfl)); intro gb205 hg w5 hbox hb; have t_ := fc4 (below_step bb hb) (hbox) (bg hg : w.heap.size ≤ gb205) (bg hg : w.heap.size ≤ gb205); clear HB; obtain ⟨HB, BK205, GW205, GE205⟩ := t_; clear hb hbox hg) | ((with_reducible refine gate_dst (N := 10) rfl ?_); refine Kd.R_lit (Kd.int .i64) _ 3 ?hg (N := 10) ?hd (xs := ([] : List Int)) (inner := []) (ok := fun _ => True) (okp := fun _ => True) ?hr ?hp (fun _ hk => hk) trivial (Below.refl _ _) (Nat.le_refl _) (by simp) ?_; (case hd => rfl); (case hg => rfl); (case hr => first | (go_simp; done) | (go_simp; rfl)); (case hp => exact (Reps.none _ _)); intro v207 w6 ho7 hb hg_ hnew_; clear hg_ hnew_; (first | rw [← Ny206.out] at ho7 | (simp only [Int.reduceToNat] at ho7; rw [← Ny206.out] at ho7)); have t_ := fc3 (Kd.R_lower ho7 (below_size bb)) (bw BK205 hb) (below_step bb hb); clear BK205 HB; obtain ⟨HO208, BK205, HB⟩ := t_; clear hb ho7)))
 (try simp only [Act.put, List.setIfInBounds_toArray, List.set_cons_zero, List.set_cons_succ])
 go_cut [19] (fun v19 wc => ∃ (kq : Nat) (x19_3 : Bool), v19 = .bool x19_3 ∧ Aside0 (spec_DownToId.j0 kq l0 a2 y206 x19_3 l1_0 l1_1 l1_2 = some r) ∧ Aside0 (kq ≤ k) ∧ Aside0 (Kd.R (Kd.int .i64) 3 wc w.heap.size (fun _ => True) v207 y206) ∧ Aside0 (wc.heap[gb205]? = some (.cells #[(.slice A1_0 l1_0.length c1_0), (.slice A1_1 l1_1.length c1_1), (.slice A1_2 l1_2.length c1_2)] 31 (0, 0))) ∧ Aside0 (Below w.heap.size w wc))
 case first =>
  have H := HC4.out
  clear HC4
  replace H := Option.bind_eq_some_iff.mp H
  obtain ⟨t209, A80, H⟩ := H
  replace H : (if t209 = true then ((spec_IsId.f a2).bind fun t210 => (spec_DownToId.j0 k l0 a2 y206 (!t210) l1_0 l1_1 l1_2)) else (spec_DownToId.j0 k l0 a2 y206 true l1_0 l1_1 l1_2)) = some r := H
  have A8 := Aside0.mk A80
  clear A80
  by_cases c9 : t209 = true
  ·subst c9
   have H1 : ((spec_IsId.f a2).bind fun t210 => (spec_DownToId.j0 k l0 a2 y206 (!t210) l1_0 l1_1 l1_2)) = some r := by rw [if_pos rfl] at H; exact H
   clear H
   have H := H1
   clear H1
   replace H := Option.bind_eq_some_iff.mp H
   obtain ⟨t210, A100, H⟩ := H
   replace H : (spec_DownToId.j0 k l0 a2 y206 (!t210) l1_0 l1_1 l1_2) = some r := H
   have A10 := Aside0.mk A100
   clear A100
   have H' := Aside0.mk H
   clear H
   obtain ⟨hcz11_0, hcz11_1, hcz11_2, hfz11_0, hfz11_1, hfz11_2⟩ := bx3 BK205.out
   go_wp2_with (first | (go_at_call 70; (with_reducible refine (spec_l20Is.calls k _ _ l0 _ _ l1_0 _ _ l1_1 _ _ l1_2 true _ ?side1 ?side2 ?side3 ?side4 ?side5 ?side6 ?side7 ?side8 A8.out).mono ?_); (case side1 => exact kc); (case side2 => exact HC0.out); (case side3 => exact kc); (case side4 => exact HC1_0.out); (case side5 => exact kc); (case side6 => exact HC1_1.out); (case side7 => exact kc); (case side8 => exact HC1_2.out); rintro e w12 ⟨rfl, hb⟩; have t_ := fc3 (Kd.R_below (ra HO208.out) hb) (bw BK205 hb) (below_step bb hb); clear HO208 BK205 HB; obtain ⟨HO208, BK205, HB⟩ := t_; (try clear hb); (try clear hk)) | (go_at_call 71; (with_reducible refine (spec_IsId.calls a2 t210 _ A10.out).mono ?_); rintro e w' ⟨rfl, ⟨nd, rfl⟩⟩; (try first | exact ⟨rfl, _, World.drewN_drewN _ _ _⟩ | exact ⟨rfl, _, Eq.trans (World.drewN_drewN _ _ _) (congrArg (World.drewN _) (Nat.add_assoc _ _ _))⟩)))
   repeat (go_quiet (first | (go_at_call 70; (with_reducible refine (spec_l20Is.calls k _ _ l0 _ _ l1_0 _ _ l1_1 _ _ l1_2 true _ ?side1 ?side2 ?side3 ?side4 ?side5 ?side6 ?side7 ?side8 A8.out).mono ?_); (case side1 => exact kc); (case side2 => exact HC0.out); (case side3 => exact kc); (case side4 => exact HC1_0.out); (case side5 => exact kc); (case side6 => exact HC1_1.out); (case side7 => exact kc); (case side8 => exact HC1_2.out); rintro e w12 ⟨rfl, hb⟩; have t_ := fc3 (Kd.R_below (ra HO208.out) hb) (bw BK205 hb) (below_step bb hb); clear HO208 BK205 HB; obtain ⟨HO208, BK205, HB⟩ := t_; (try clear hb); (try clear hk)) | (go_at_call 71; (with_reducible refine (spec_IsId.calls a2 t210 _ A10.out).mono ?_); rintro e w' ⟨rfl, ⟨nd, rfl⟩⟩; (try first | exact ⟨rfl, _, World.drewN_drewN _ _ _⟩ | exact ⟨rfl, _, Eq.trans (World.drewN_drewN _ _ _) (congrArg (World.drewN _) (Nat.add_assoc _ _ _))⟩))); try go_wp2_with (first | (go_at_call 70; (with_reducible refine (spec_l20Is.calls k _ _ l0 _ _ l1_0 _ _ l1_1 _ _ l1_2 true _ ?side1 ?side2 ?side3 ?side4 ?side5 ?side6 ?side7 ?side8 A8.out).mono ?_); (case side1 => exact kc); (case side2 => exact HC0.out); (case side3 => exact kc); (case side4 => exact HC1_0.out); (case side5 => exact kc); (case side6 => exact HC1_1.out); (case side7 => exact kc); (case side8 => exact HC1_2.out); rintro e w12 ⟨rfl, hb⟩; have t_ := fc3 (Kd.R_below (ra HO208.out) hb) (bw BK205 hb) (below_step bb hb); clear HO208 BK205 HB; obtain ⟨HO208, BK205, HB⟩ := t_; (try clear hb); (try clear hk)) | (go_at_call 71; (with_reducible refine (spec_IsId.calls a2 t210 _ A10.out).mono ?_); rintro e w' ⟨rfl, ⟨nd, rfl⟩⟩; (try first | exact ⟨rfl, _, World.drewN_drewN _ _ _⟩ | exact ⟨rfl, _, Eq.trans (World.drewN_drewN _ _ _) (congrArg (World.drewN _) (Nat.add_assoc _ _ _))⟩))))
   go_meet
   case rel => exact ⟨_, (!t210), (by first | rfl | (simp; done) | (simp [*]; done)), H', ⟨by first | omega | exact Nat.le_refl _⟩, ⟨by (with_reducible repeat (first | apply Kd.R_alloc | apply Kd.R_drewN | apply Kd.R_drew)); exact HO208.out⟩, ⟨by exact bk⟩, ⟨bb⟩⟩
  ·replace c9 := Bool.eq_false_iff.mpr c9
   subst c9
   have H1 : (spec_DownToId.j0 k l0 a2 y206 true l1_0 l1_1 l1_2) = some r := by rw [if_neg (show ¬ (false = true) by decide)] at H; exact H
   clear H
   have H := H1
   clear H1
   have H' := Aside0.mk H
   clear H
   obtain ⟨hcz13_0, hcz13_1, hcz13_2, hfz13_0, hfz13_1, hfz13_2⟩ := bx3 BK205.out
   go_wp2_with (first | (go_at_call 70; (with_reducible refine (spec_l20Is.calls k _ _ l0 _ _ l1_0 _ _ l1_1 _ _ l1_2 false _ ?side1 ?side2 ?side3 ?side4 ?side5 ?side6 ?side7 ?side8 A8.out).mono ?_); (case side1 => exact kc); (case side2 => exact HC0.out); (case side3 => exact kc); (case side4 => exact HC1_0.out); (case side5 => exact kc); (case side6 => exact HC1_1.out); (case side7 => exact kc); (case side8 => exact HC1_2.out); rintro e w14 ⟨rfl, hb⟩; have t_ := fc3 (Kd.R_below (ra HO208.out) hb) (bw BK205 hb) (below_step bb hb); clear HO208 BK205 HB; obtain ⟨HO208, BK205, HB⟩ := t_; (try clear hb); (try clear hk)))
   repeat (go_quiet (first | (go_at_call 70; (with_reducible refine (spec_l20Is.calls k _ _ l0 _ _ l1_0 _ _ l1_1 _ _ l1_2 false _ ?side1 ?side2 ?side3 ?side4 ?side5 ?side6 ?side7 ?side8 A8.out).mono ?_); (case side1 => exact kc); (case side2 => exact HC0.out); (case side3 => exact kc); (case side4 => exact HC1_0.out); (case side5 => exact kc); (case side6 => exact HC1_1.out); (case side7 => exact kc); (case side8 => exact HC1_2.out); rintro e w14 ⟨rfl, hb⟩; have t_ := fc3 (Kd.R_below (ra HO208.out) hb) (bw BK205 hb) (below_step bb hb); clear HO208 BK205 HB; obtain ⟨HO208, BK205, HB⟩ := t_; (try clear hb); (try clear hk))); try go_wp2_with (first | (go_at_call 70; (with_reducible refine (spec_l20Is.calls k _ _ l0 _ _ l1_0 _ _ l1_1 _ _ l1_2 false _ ?side1 ?side2 ?side3 ?side4 ?side5 ?side6 ?side7 ?side8 A8.out).mono ?_); (case side1 => exact kc); (case side2 => exact HC0.out); (case side3 => exact kc); (case side4 => exact HC1_0.out); (case side5 => exact kc); (case side6 => exact HC1_1.out); (case side7 => exact kc); (case side8 => exact HC1_2.out); rintro e w14 ⟨rfl, hb⟩; have t_ := fc3 (Kd.R_below (ra HO208.out) hb) (bw BK205 hb) (below_step bb hb); clear HO208 BK205 HB; obtain ⟨HO208, BK205, HB⟩ := t_; (try clear hb); (try clear hk))))
   go_meet
   case rel => exact ⟨_, (true), (by first | rfl | (simp; done) | (simp [*]; done)), H', ⟨by first | omega | exact Nat.le_refl _⟩, ⟨by (with_reducible repeat (first | apply Kd.R_alloc | apply Kd.R_drewN | apply Kd.R_drew)); exact HO208.out⟩, ⟨by exact bk⟩, ⟨bb⟩⟩
 case rest =>
  clear HC4
  try clear c1
  try clear c2
  try clear p2
  try clear c9
  try clear hcz11_0
  try clear hcz11_1
  try clear hcz11_2
  try clear hcz13_0
  try clear hcz13_1
  try clear hcz13_2
  try clear hfz11_0
  try clear hfz11_1
  try clear hfz11_2
  try clear hfz13_0
  try clear hfz13_1
  try clear hfz13_2
  obtain ⟨kq, x19_3, rfl, HA, HJ3, HO_7, BK205, HB⟩ := hcut
  cases kq with
  | zero => exact absurd HA.out (by simp [spec_DownToId.j0])
  | succ kj3 =>
   have H := HA.out
   clear HA
   simp only [spec_DownToId.j0] at H
   by_cases c15 : x19_3 = true
   ·subst c15
    have H1 : (some y206) = some r := by rw [if_pos rfl] at H; exact H
    clear H
    have H := H1
    clear H1
    obtain rfl := Option.some.inj H
    go_wp2
    repeat (go_quiet (fail); try go_wp2)
    go_ret
    exact ⟨_, er, by (with_reducible repeat (first | apply Kd.R_alloc | apply Kd.R_drewN | apply Kd.R_drew)); exact HO_7.out, bb⟩
   ·replace c15 := Bool.eq_false_iff.mpr c15
    subst c15
    have H1 : (spec_DownToId.l0 kj3 l0 a2 y206 0 l1_0 l1_1 l1_2) = some r := by rw [if_neg (show ¬ (false = true) by decide)] at H; exact H
    clear H
    have H := H1
    clear H1
    have H' := Aside0.mk H
    clear H
    go_wp2
    repeat (go_quiet (fail); try go_wp2)
    go_loopg [7, 8] kj3 (fun kq v7 v8 w' => ∃ (x7_2 : List Int) (x8_2 : Int), v8 = .int .i64 x8_2 ∧ Aside0 (spec_DownToId.l0 kq l0 a2 x7_2 x8_2 l1_0 l1_1 l1_2 = some r) ∧ Aside0 (kq ≤ kj3) ∧ Aside0 (Kd.R (Kd.int .i64) 3 w' w.heap.size (fun _ => True) v7 x7_2) ∧ Aside0 (w'.heap[gb205]? = some (.cells #[(.slice A1_0 l1_0.length c1_0), (.slice A1_1 l1_1.length c1_1), (.slice A1_2 l1_2.length c1_2)] 31 (0, 0))) ∧ Aside0 (Below w.heap.size w w'))
    case atStart => exact ⟨(y206), (0), (by first | rfl | (simp; done) | (simp [*]; done)), H', ⟨Nat.le_refl _⟩, ⟨by (with_reducible repeat (first | apply Kd.R_alloc | apply Kd.R_drewN | apply Kd.R_drew)); exact HO_7.out⟩, ⟨by exact bk⟩, ⟨bb⟩⟩
    case round =>
     clear H'
     try clear c1
     try clear c2
     try clear p2
     try clear c9
     try clear c15
     try clear hcz11_0
     try clear hcz11_1
     try clear hcz11_2
     try clear hcz13_0
     try clear hcz13_1
     try clear hcz13_2
     try clear hfz11_0
     try clear hfz11_1
     try clear hfz11_2
     try clear hfz13_0
     try clear hfz13_1
     try clear hfz13_2
     try clear p2
     obtain ⟨x7_2, x8_2, rfl, HA, HK2, HO_7, BK205, HB⟩ := hrel
     cases gk with
     | zero => exact absurd HA.out (by simp [spec_DownToId.l0])
     | succ k2 =>
      have H := HA.out
      clear HA
      simp only [spec_DownToId.l0] at H
      by_cases c16 : x7_2.length < 17592186044416
      ·rw [if_pos c16] at H
       have LMc16 := Aside0.mk c16
       clear c16
       obtain ⟨y211, hy211⟩ : ∃ y_ : List Int, y_ = (x7_2 ++ [x8_2]) := ⟨_, rfl⟩
       replace H : (if 0 ≤ x8_2 then (if x8_2 < (l1_1.length : Int) then ((spec_BusOf.f a2).bind fun t215 => ((spec_l21Next.f k2 l0 l1_0 l1_1 l1_2 x8_2 a2).bind fun t216 => (if t216 < 0 then (some (([] : List Int))) else (if (rd l1_1 x8_2) = t215 then ((spec_FunctionOf.f a2).bind fun t220 => (if 0 ≤ t216 then (if t216 < (l0.length : Int) then (if t220 ≥ (mx 1 ((rd_T50 l0 t216).f2)) then (some (([] : List Int))) else (if y211.length < 17592186044416 then (some (y211 ++ [t216])) else (none))) else (none)) else (none))) else (spec_DownToId.l0 k2 l0 a2 y211 t216 l1_0 l1_1 l1_2))))) else (none)) else (none)) = some r := by first | (rw [hy211]; with_reducible exact H) | (have H2_ := (Option.bind_some _ _).symm.trans H; rw [hy211]; with_reducible exact H2_) | (have H2_ := (Option.bind_some _ _).symm.trans H; with_reducible exact H2_) | with_reducible exact H | (rw [hy211]; exact H) | exact H
       have Ny211 := Aside0.mk hy211
       clear hy211
       by_cases c17 : 0 ≤ x8_2
       ·rw [if_pos c17] at H
        have c17b0 : decide (0 ≤ x8_2) = true := decide_eq_true c17
        clear c17
        by_cases c18 : x8_2 < (l1_1.length : Int)
        ·rw [if_pos c18] at H
         have c18b0 : decide (x8_2 < (l1_1.length : Int)) = true := decide_eq_true c18
         clear c18
         replace H := Option.bind_eq_some_iff.mp H
         obtain ⟨t215, A190, H⟩ := H
         replace H : ((spec_l21Next.f k2 l0 l1_0 l1_1 l1_2 x8_2 a2).bind fun t216 => (if t216 < 0 then (some (([] : List Int))) else (if (rd l1_1 x8_2) = t215 then ((spec_FunctionOf.f a2).bind fun t220 => (if 0 ≤ t216 then (if t216 < (l0.length : Int) then (if t220 ≥ (mx 1 ((rd_T50 l0 t216).f2)) then (some (([] : List Int))) else (if y211.length < 17592186044416 then (some (y211 ++ [t216])) else (none))) else (none)) else (none))) else (spec_DownToId.l0 k2 l0 a2 y211 t216 l1_0 l1_1 l1_2)))) = some r := H
         have A19 := Aside0.mk A190
         clear A190
         replace H := Option.bind_eq_some_iff.mp H
         obtain ⟨t216, A200, H⟩ := H
         replace H : (if t216 < 0 then (some (([] : List Int))) else (if (rd l1_1 x8_2) = t215 then ((spec_FunctionOf.f a2).bind fun t220 => (if 0 ≤ t216 then (if t216 < (l0.length : Int) then (if t220 ≥ (mx 1 ((rd_T50 l0 t216).f2)) then (some (([] : List Int))) else (if y211.length < 17592186044416 then (some (y211 ++ [t216])) else (none))) else (none)) else (none))) else (spec_DownToId.l0 k2 l0 a2 y211 t216 l1_0 l1_1 l1_2))) = some r := H
         have A20 := Aside0.mk A200
         clear A200
         by_cases c21 : t216 < 0
         ·rw [if_pos c21] at H
          have c21b0 : decide (t216 < 0) = true := decide_eq_true c21
          clear c21
          obtain ⟨y217, hy217⟩ : ∃ y_ : List Int, y_ = (([] : List Int)) := ⟨_, rfl⟩
          replace H : (some y217) = some r := by first | (rw [hy217]; with_reducible exact H) | (have H2_ := (Option.bind_some _ _).symm.trans H; rw [hy217]; with_reducible exact H2_) | (have H2_ := (Option.bind_some _ _).symm.trans H; with_reducible exact H2_) | with_reducible exact H | (rw [hy217]; exact H) | exact H
          have Ny217 := Aside0.mk hy217
          clear hy217
          obtain rfl := Option.some.inj H
          go_wp2_with (first | ((with_reducible refine gate_builtin (b := .append) (xs := #[.tmp 21, .tmp 23]) rfl ?_); at_builtin; refine Kd.R_append (Kd.int .i64) (w0 := w) w.heap.size rfl (.tmp 21) (.tmp 23) 23 3 (.int .i64 0) 8 rfl Try.underlying23 info3 rfl (by decide) (by omega) u7 x7_2 x8_2 [.int .i64 x8_2] (fun _ => True) (fun _ => False) rfl rfl ?aP (fun _ hk => hk.elim) ?aF ?aO ?aB ?aS ?aL ?_; (case aP => exact rfl); (case aB => exact bb); (case aF => exact (fun _ _ => trivial)); (case aO => exact (ra HO_7.out)); (case aS => exact (below_size bb)); (case aL => have := LMc16.out; omega); intro v212 w22 ho hb hg hat; rw [← Ny211.out] at ho; have t_ := fc3 (blk_grown (g := gb205) (o := .cells #[.slice A1_0 l1_0.length c1_0, .slice A1_1 l1_1.length c1_1, .slice A1_2 l1_2.length c1_2] 31 (0, 0)) bk hg (Kd.R_ne HO_7.out BK205.out (by decide))) (hb) (ho); clear BK205 HB HO_7; obtain ⟨BK205, HB, HO213⟩ := t_; clear ho hb hg hat; obtain ⟨hcz23_0, hcz23_1, hcz23_2, hfz23_0, hfz23_1, hfz23_2⟩ := bx3 BK205.out; have p214 : 0 ≤ (x8_2 : Int) := of_decide_eq_true as_; have q214 : x8_2 < (l1_1.length : Int) := of_decide_eq_true as_; obtain ⟨ad214, e214, hx214_0⟩ := Kd.at_int HR1_1.out x8_2 p214 q214; cases e214; replace hx214_0 := pw_cell_below HB.out hx214_0; replace p214 := eq_true p214; replace q214 := eq_true q214) | (go_at_call 72; (with_reducible refine (spec_BusOf.calls a2 t215 _ A19.out).mono ?_); rintro e w' ⟨rfl, ⟨nd, rfl⟩⟩; (try first | exact ⟨rfl, _, World.drewN_drewN _ _ _⟩ | exact ⟨rfl, _, Eq.trans (World.drewN_drewN _ _ _) (congrArg (World.drewN _) (Nat.add_assoc _ _ _))⟩)) | (go_at_call 73; (with_reducible refine (spec_l21Next.calls k2 _ _ l0 _ _ l1_0 _ _ l1_1 _ _ l1_2 x8_2 a2 t216 _ ?side1 ?side2 ?side3 ?side4 ?side5 ?side6 ?side7 ?side8 A20.out).mono ?_); (case side1 => exact kc); (case side2 => exact HC0.out); (case side3 => exact kc); (case side4 => exact HC1_0.out); (case side5 => exact kc); (case side6 => exact HC1_1.out); (case side7 => exact kc); (case side8 => exact HC1_2.out); rintro e w24 ⟨rfl, hb⟩; have t_ := fc3 (Kd.R_below (ra HO213.out) hb) (bw BK205 hb) (below_step bb hb); clear HO213 BK205 HB; obtain ⟨HO213, BK205, HB⟩ := t_; (try clear hb); (try clear hk)) | ((with_reducible refine gate_dst (N := 40) rfl ?_); refine Kd.R_lit (Kd.int .i64) _ 3 ?hg (N := 40) ?hd (xs := ([] : List Int)) (inner := []) (ok := fun _ => True) (okp := fun _ => True) ?hr ?hp (fun _ hk => hk) trivial (Below.refl _ _) (Nat.le_refl _) (by simp) ?_; (case hd => rfl); (case hg => rfl); (case hr => first | (go_simp; done) | (go_simp; rfl)); (case hp => exact (Reps.none _ _)); intro v218 w25 ho26 hb hg_ hnew_; clear hg_ hnew_; (first | rw [← Ny217.out] at ho26 | (simp only [Int.reduceToNat] at ho26; rw [← Ny217.out] at ho26)); have t_ := fc4 (Kd.R_elder' (ra HO213.out) (Kd.R_base ho26) hb) (Kd.R_lower (Kd.R_new' ho26 (Kd.R_lt (ra HO213.out))) (below_size bb)) (bw BK205 hb) (below_step bb hb); clear HO213 BK205 HB; obtain ⟨HO213, HO219, BK205, HB⟩ := t_; clear hb ho26))
          repeat (go_quiet (first | ((with_reducible refine gate_builtin (b := .append) (xs := #[.tmp 21, .tmp 23]) rfl ?_); at_builtin; refine Kd.R_append (Kd.int .i64) (w0 := w) w.heap.size rfl (.tmp 21) (.tmp 23) 23 3 (.int .i64 0) 8 rfl Try.underlying23 info3 rfl (by decide) (by omega) u7 x7_2 x8_2 [.int .i64 x8_2] (fun _ => True) (fun _ => False) rfl rfl ?aP (fun _ hk => hk.elim) ?aF ?aO ?aB ?aS ?aL ?_; (case aP => exact rfl); (case aB => exact bb); (case aF => exact (fun _ _ => trivial)); (case aO => exact (ra HO_7.out)); (case aS => exact (below_size bb)); (case aL => have := LMc16.out; omega); intro v212 w22 ho hb hg hat; rw [← Ny211.out] at ho; have t_ := fc3 (blk_grown (g := gb205) (o := .cells #[.slice A1_0 l1_0.length c1_0, .slice A1_1 l1_1.length c1_1, .slice A1_2 l1_2.length c1_2] 31 (0, 0)) bk hg (Kd.R_ne HO_7.out BK205.out (by decide))) (hb) (ho); clear BK205 HB HO_7; obtain ⟨BK205, HB, HO213⟩ := t_; clear ho hb hg hat; obtain ⟨hcz23_0, hcz23_1, hcz23_2, hfz23_0, hfz23_1, hfz23_2⟩ := bx3 BK205.out; have p214 : 0 ≤ (x8_2 : Int) := of_decide_eq_true as_; have q214 : x8_2 < (l1_1.length : Int) := of_decide_eq_true as_; obtain ⟨ad214, e214, hx214_0⟩ := Kd.at_int HR1_1.out x8_2 p214 q214; cases e214; replace hx214_0 := pw_cell_below HB.out hx214_0; replace p214 := eq_true p214; replace q214 := eq_true q214) | (go_at_call 72; (with_reducible refine (spec_BusOf.calls a2 t215 _ A19.out).mono ?_); rintro e w' ⟨rfl, ⟨nd, rfl⟩⟩; (try first | exact ⟨rfl, _, World.drewN_drewN _ _ _⟩ | exact ⟨rfl, _, Eq.trans (World.drewN_drewN _ _ _) (congrArg (World.drewN _) (Nat.add_assoc _ _ _))⟩)) | (go_at_call 73; (with_reducible refine (spec_l21Next.calls k2 _ _ l0 _ _ l1_0 _ _ l1_1 _ _ l1_2 x8_2 a2 t216 _ ?side1 ?side2 ?side3 ?side4 ?side5 ?side6 ?side7 ?side8 A20.out).mono ?_); (case side1 => exact kc); (case side2 => exact HC0.out); (case side3 => exact kc); (case side4 => exact HC1_0.out); (case side5 => exact kc); (case side6 => exact HC1_1.out); (case side7 => exact kc); (case side8 => exact HC1_2.out); rintro e w24 ⟨rfl, hb⟩; have t_ := fc3 (Kd.R_below (ra HO213.out) hb) (bw BK205 hb) (below_step bb hb); clear HO213 BK205 HB; obtain ⟨HO213, BK205, HB⟩ := t_; (try clear hb); (try clear hk)) | ((with_reducible refine gate_dst (N := 40) rfl ?_); refine Kd.R_lit (Kd.int .i64) _ 3 ?hg (N := 40) ?hd (xs := ([] : List Int)) (inner := []) (ok := fun _ => True) (okp := fun _ => True) ?hr ?hp (fun _ hk => hk) trivial (Below.refl _ _) (Nat.le_refl _) (by simp) ?_; (case hd => rfl); (case hg => rfl); (case hr => first | (go_simp; done) | (go_simp; rfl)); (case hp => exact (Reps.none _ _)); intro v218 w25 ho26 hb hg_ hnew_; clear hg_ hnew_; (first | rw [← Ny217.out] at ho26 | (simp only [Int.reduceToNat] at ho26; rw [← Ny217.out] at ho26)); have t_ := fc4 (Kd.R_elder' (ra HO213.out) (Kd.R_base ho26) hb) (Kd.R_lower (Kd.R_new' ho26 (Kd.R_lt (ra HO213.out))) (below_size bb)) (bw BK205 hb) (below_step bb hb); clear HO213 BK205 HB; obtain ⟨HO213, HO219, BK205, HB⟩ := t_; clear hb ho26)); try go_wp2_with (first | ((with_reducible refine gate_builtin (b := .append) (xs := #[.tmp 21, .tmp 23]) rfl ?_); at_builtin; refine Kd.R_append (Kd.int .i64) (w0 := w) w.heap.size rfl (.tmp 21) (.tmp 23) 23 3 (.int .i64 0) 8 rfl Try.underlying23 info3 rfl (by decide) (by omega) u7 x7_2 x8_2 [.int .i64 x8_2] (fun _ => True) (fun _ => False) rfl rfl ?aP (fun _ hk => hk.elim) ?aF ?aO ?aB ?aS ?aL ?_; (case aP => exact rfl); (case aB => exact bb); (case aF => exact (fun _ _ => trivial)); (case aO => exact (ra HO_7.out)); (case aS => exact (below_size bb)); (case aL => have := LMc16.out; omega); intro v212 w22 ho hb hg hat; rw [← Ny211.out] at ho; have t_ := fc3 (blk_grown (g := gb205) (o := .cells #[.slice A1_0 l1_0.length c1_0, .slice A1_1 l1_1.length c1_1, .slice A1_2 l1_2.length c1_2] 31 (0, 0)) bk hg (Kd.R_ne HO_7.out BK205.out (by decide))) (hb) (ho); clear BK205 HB HO_7; obtain ⟨BK205, HB, HO213⟩ := t_; clear ho hb hg hat; obtain ⟨hcz23_0, hcz23_1, hcz23_2, hfz23_0, hfz23_1, hfz23_2⟩ := bx3 BK205.out; have p214 : 0 ≤ (x8_2 : Int) := of_decide_eq_true as_; have q214 : x8_2 < (l1_1.length : Int) := of_decide_eq_true as_; obtain ⟨ad214, e214, hx214_0⟩ := Kd.at_int HR1_1.out x8_2 p214 q214; cases e214; replace hx214_0 := pw_cell_below HB.out hx214_0; replace p214 := eq_true p214; replace q214 := eq_true q214) | (go_at_call 72; (with_reducible refine (spec_BusOf.calls a2 t215 _ A19.out).mono ?_); rintro e w' ⟨rfl, ⟨nd, rfl⟩⟩; (try first | exact ⟨rfl, _, World.drewN_drewN _ _ _⟩ | exact ⟨rfl, _, Eq.trans (World.drewN_drewN _ _ _) (congrArg (World.drewN _) (Nat.add_assoc _ _ _))⟩)) | (go_at_call 73; (with_reducible refine (spec_l21Next.calls k2 _ _ l0 _ _ l1_0 _ _ l1_1 _ _ l1_2 x8_2 a2 t216 _ ?side1 ?side2 ?side3 ?side4 ?side5 ?side6 ?side7 ?side8 A20.out).mono ?_); (case side1 => exact kc); (case side2 => exact HC0.out); (case side3 => exact kc); (case side4 => exact HC1_0.out); (case side5 => exact kc); (case side6 => exact HC1_1.out); (case side7 => exact kc); (case side8 => exact HC1_2.out); rintro e w24 ⟨rfl, hb⟩; have t_ := fc3 (Kd.R_below (ra HO213.out) hb) (bw BK205 hb) (below_step bb hb); clear HO213 BK205 HB; obtain ⟨HO213, BK205, HB⟩ := t_; (try clear hb); (try clear hk)) | ((with_reducible refine gate_dst (N := 40) rfl ?_); refine Kd.R_lit (Kd.int .i64) _ 3 ?hg (N := 40) ?hd (xs := ([] : List Int)) (inner := []) (ok := fun _ => True) (okp := fun _ => True) ?hr ?hp (fun _ hk => hk) trivial (Below.refl _ _) (Nat.le_refl _) (by simp) ?_; (case hd => rfl); (case hg => rfl); (case hr => first | (go_simp; done) | (go_simp; rfl)); (case hp => exact (Reps.none _ _)); intro v218 w25 ho26 hb hg_ hnew_; clear hg_ hnew_; (first | rw [← Ny217.out] at ho26 | (simp only [Int.reduceToNat] at ho26; rw [← Ny217.out] at ho26)); have t_ := fc4 (Kd.R_elder' (ra HO213.out) (Kd.R_base ho26) hb) (Kd.R_lower (Kd.R_new' ho26 (Kd.R_lt (ra HO213.out))) (below_size bb)) (bw BK205 hb) (below_step bb hb); clear HO213 BK205 HB; obtain ⟨HO213, HO219, BK205, HB⟩ := t_; clear hb ho26)))
          go_ret
          exact ⟨_, er, by (with_reducible repeat (first | apply Kd.R_alloc | apply Kd.R_drewN | apply Kd.R_drew)); exact Kd.R_mono HO219.out (fun _ hk => trivial), bb⟩
         ·rw [if_neg c21] at H
          have c21b0 : decide (t216 < 0) = false := decide_eq_false c21
          clear c21
          by_cases c27 : (rd l1_1 x8_2) = t215
          ·rw [if_pos c27] at H
           have c27b0 : ((rd l1_1 x8_2) == t215) = true := beq_iff_eq.mpr c27
           have c27b1 : ((rd l1_1 x8_2) != t215) = false := bne_eq_false_iff_eq.mpr c27
           clear c27
           replace H := Option.bind_eq_some_iff.mp H
           obtain ⟨t220, A280, H⟩ := H
           replace H : (if 0 ≤ t216 then (if t216 < (l0.length : Int) then (if t220 ≥ (mx 1 ((rd_T50 l0 t216).f2)) then (some (([] : List Int))) else (if y211.length < 17592186044416 then (some (y211 ++ [t216])) else (none))) else (none)) else (none)) = some r := H
           have A28 := Aside0.mk A280
           clear A280
           by_cases c29 : 0 ≤ t216
           ·rw [if_pos c29] at H
            have c29b0 : decide (0 ≤ t216) = true := decide_eq_true c29
            clear c29
            by_cases c30 : t216 < (l0.length : Int)
            ·rw [if_pos c30] at H
             have c30b0 : decide (t216 < (l0.length : Int)) = true := decide_eq_true c30
             clear c30
             obtain ⟨ji31, hji31⟩ : ∃ j_ : Int, (mx 1 ((rd_T50 l0 t216).f2)) = j_ := ⟨_, rfl⟩
             replace H : (if t220 ≥ (ji31) then (some (([] : List Int))) else (if y211.length < 17592186044416 then (some (y211 ++ [t216])) else (none))) = some r := by first | (rw [hji31] at H; exact H) | (simp only [hji31] at H ⊢; exact H)
             (try rw [hji31] at A19)
             (try rw [hji31] at A20)
             (try rw [hji31] at A28)
             have hji31_ : (if 1 < ((rd_T50 l0 t216).f2) then ((rd_T50 l0 t216).f2) else 1) = ji31 := hji31
             by_cases c32 : t220 ≥ (ji31)
             ·rw [if_pos c32] at H
              have c32b0 : decide ((ji31) ≤ t220) = true := decide_eq_true c32
              clear c32
              obtain ⟨y222, hy222⟩ : ∃ y_ : List Int, y_ = (([] : List Int)) := ⟨_, rfl⟩
              replace H : (some y222) = some r := by first | (rw [hy222]; with_reducible exact H) | (have H2_ := (Option.bind_some _ _).symm.trans H; rw [hy222]; with_reducible exact H2_) | (have H2_ := (Option.bind_some _ _).symm.trans H; with_reducible exact H2_) | with_reducible exact H | (rw [hy222]; exact H) | exact H
              have Ny222 := Aside0.mk hy222
              clear hy222
              obtain rfl := Option.some.inj H
              go_wp2_with (first | ((with_reducible refine gate_builtin (b := .append) (xs := #[.tmp 21, .tmp 23]) rfl ?_); at_builtin; refine Kd.R_append (Kd.int .i64) (w0 := w) w.heap.size rfl (.tmp 21) (.tmp 23) 23 3 (.int .i64 0) 8 rfl Try.underlying23 info3 rfl (by decide) (by omega) u7 x7_2 x8_2 [.int .i64 x8_2] (fun _ => True) (fun _ => False) rfl rfl ?aP (fun _ hk => hk.elim) ?aF ?aO ?aB ?aS ?aL ?_; (case aP => exact rfl); (case aB => exact bb); (case aF => exact (fun _ _ => trivial)); (case aO => exact (ra HO_7.out)); (case aS => exact (below_size bb)); (case aL => have := LMc16.out; omega); intro v212 w33 ho hb hg hat; rw [← Ny211.out] at ho; have t_ := fc3 (blk_grown (g := gb205) (o := .cells #[.slice A1_0 l1_0.length c1_0, .slice A1_1 l1_1.length c1_1, .slice A1_2 l1_2.length c1_2] 31 (0, 0)) bk hg (Kd.R_ne HO_7.out BK205.out (by decide))) (hb) (ho); clear BK205 HB HO_7; obtain ⟨BK205, HB, HO213⟩ := t_; clear ho hb hg hat; obtain ⟨hcz34_0, hcz34_1, hcz34_2, hfz34_0, hfz34_1, hfz34_2⟩ := bx3 BK205.out; have p214 : 0 ≤ (x8_2 : Int) := of_decide_eq_true as_; have q214 : x8_2 < (l1_1.length : Int) := of_decide_eq_true as_; obtain ⟨ad214, e214, hx214_0⟩ := Kd.at_int HR1_1.out x8_2 p214 q214; cases e214; replace hx214_0 := pw_cell_below HB.out hx214_0; replace p214 := eq_true p214; replace q214 := eq_true q214) | (go_at_call 72; (with_reducible refine (spec_BusOf.calls a2 t215 _ A19.out).mono ?_); rintro e w' ⟨rfl, ⟨nd, rfl⟩⟩; (try first | exact ⟨rfl, _, World.drewN_drewN _ _ _⟩ | exact ⟨rfl, _, Eq.trans (World.drewN_drewN _ _ _) (congrArg (World.drewN _) (Nat.add_assoc _ _ _))⟩)) | (go_at_call 73; (with_reducible refine (spec_l21Next.calls k2 _ _ l0 _ _ l1_0 _ _ l1_1 _ _ l1_2 x8_2 a2 t216 _ ?side1 ?side2 ?side3 ?side4 ?side5 ?side6 ?side7 ?side8 A20.out).mono ?_); (case side1 => exact kc); (case side2 => exact HC0.out); (case side3 => exact kc); (case side4 => exact HC1_0.out); (case side5 => exact kc); (case side6 => exact HC1_1.out); (case side7 => exact kc); (case side8 => exact HC1_2.out); rintro e w35 ⟨rfl, hb⟩; have t_ := fc3 (Kd.R_below (ra HO213.out) hb) (bw BK205 hb) (below_step bb hb); clear HO213 BK205 HB; obtain ⟨HO213, BK205, HB⟩ := t_; (try clear hb); (try clear hk)) | (go_at_call 74; (with_reducible refine (spec_FunctionOf.calls a2 t220 _ A28.out).mono ?_); rintro e w' ⟨rfl, ⟨nd, rfl⟩⟩; (try first | exact ⟨rfl, _, World.drewN_drewN _ _ _⟩ | exact ⟨rfl, _, Eq.trans (World.drewN_drewN _ _ _) (congrArg (World.drewN _) (Nat.add_assoc _ _ _))⟩); have p221 : 0 ≤ (t216 : Int) := of_decide_eq_true as_; have q221 : t216 < (l0.length : Int) := of_decide_eq_true as_; obtain ⟨ad221, e221, hx221_0, hx221_1, hx221_2⟩ := at_T50 HR0.out t216 p221 q221; cases e221; replace hx221_0 := pw_cell_below HB.out hx221_0; replace hx221_1 := pw_cell_below HB.out hx221_1; replace hx221_2 := pw_cell_below HB.out hx221_2; replace p221 := eq_true p221; replace q221 := eq_true q221) | ((with_reducible refine gate_dst (N := 51) rfl ?_); refine Kd.R_lit (Kd.int .i64) _ 3 ?hg (N := 51) ?hd (xs := ([] : List Int)) (inner := []) (ok := fun _ => True) (okp := fun _ => True) ?hr ?hp (fun _ hk => hk) trivial (Below.refl _ _) (Nat.le_refl _) (by simp) ?_; (case hd => rfl); (case hg => rfl); (case hr => first | (go_simp; done) | (go_simp; rfl)); (case hp => exact (Reps.none _ _)); intro v223 w36 ho37 hb hg_ hnew_; clear hg_ hnew_; (first | rw [← Ny222.out] at ho37 | (simp only [Int.reduceToNat] at ho37; rw [← Ny222.out] at ho37)); have t_ := fc4 (Kd.R_elder' (ra HO213.out) (Kd.R_base ho37) hb) (Kd.R_lower (Kd.R_new' ho37 (Kd.R_lt (ra HO213.out))) (below_size bb)) (bw BK205 hb) (below_step bb hb); clear HO213 BK205 HB; obtain ⟨HO213, HO224, BK205, HB⟩ := t_; clear hb ho37))
              repeat (go_quiet (first | ((with_reducible refine gate_builtin (b := .append) (xs := #[.tmp 21, .tmp 23]) rfl ?_); at_builtin; refine Kd.R_append (Kd.int .i64) (w0 := w) w.heap.size rfl (.tmp 21) (.tmp 23) 23 3 (.int .i64 0) 8 rfl Try.underlying23 info3 rfl (by decide) (by omega) u7 x7_2 x8_2 [.int .i64 x8_2] (fun _ => True) (fun _ => False) rfl rfl ?aP (fun _ hk => hk.elim) ?aF ?aO ?aB ?aS ?aL ?_; (case aP => exact rfl); (case aB => exact bb); (case aF => exact (fun _ _ => trivial)); (case aO => exact (ra HO_7.out)); (case aS => exact (below_size bb)); (case aL => have := LMc16.out; omega); intro v212 w33 ho hb hg hat; rw [← Ny211.out] at ho; have t_ := fc3 (blk_grown (g := gb205) (o := .cells #[.slice A1_0 l1_0.length c1_0, .slice A1_1 l1_1.length c1_1, .slice A1_2 l1_2.length c1_2] 31 (0, 0)) bk hg (Kd.R_ne HO_7.out BK205.out (by decide))) (hb) (ho); clear BK205 HB HO_7; obtain ⟨BK205, HB, HO213⟩ := t_; clear ho hb hg hat; obtain ⟨hcz34_0, hcz34_1, hcz34_2, hfz34_0, hfz34_1, hfz34_2⟩ := bx3 BK205.out; have p214 : 0 ≤ (x8_2 : Int) := of_decide_eq_true as_; have q214 : x8_2 < (l1_1.length : Int) := of_decide_eq_true as_; obtain ⟨ad214, e214, hx214_0⟩ := Kd.at_int HR1_1.out x8_2 p214 q214; cases e214; replace hx214_0 := pw_cell_below HB.out hx214_0; replace p214 := eq_true p214; replace q214 := eq_true q214) | (go_at_call 72; (with_reducible refine (spec_BusOf.calls a2 t215 _ A19.out).mono ?_); rintro e w' ⟨rfl, ⟨nd, rfl⟩⟩; (try first | exact ⟨rfl, _, World.drewN_drewN _ _ _⟩ | exact ⟨rfl, _, Eq.trans (World.drewN_drewN _ _ _) (congrArg (World.drewN _) (Nat.add_assoc _ _ _))⟩)) | (go_at_call 73; (with_reducible refine (spec_l21Next.calls k2 _ _ l0 _ _ l1_0 _ _ l1_1 _ _ l1_2 x8_2 a2 t216 _ ?side1 ?side2 ?side3 ?side4 ?side5 ?side6 ?side7 ?side8 A20.out).mono ?_); (case side1 => exact kc); (case side2 => exact HC0.out); (case side3 => exact kc); (case side4 => exact HC1_0.out); (case side5 => exact kc); (case side6 => exact HC1_1.out); (case side7 => exact kc); (case side8 => exact HC1_2.out); rintro e w35 ⟨rfl, hb⟩; have t_ := fc3 (Kd.R_below (ra HO213.out) hb) (bw BK205 hb) (below_step bb hb); clear HO213 BK205 HB; obtain ⟨HO213, BK205, HB⟩ := t_; (try clear hb); (try clear hk)) | (go_at_call 74; (with_reducible refine (spec_FunctionOf.calls a2 t220 _ A28.out).mono ?_); rintro e w' ⟨rfl, ⟨nd, rfl⟩⟩; (try first | exact ⟨rfl, _, World.drewN_drewN _ _ _⟩ | exact ⟨rfl, _, Eq.trans (World.drewN_drewN _ _ _) (congrArg (World.drewN _) (Nat.add_assoc _ _ _))⟩); have p221 : 0 ≤ (t216 : Int) := of_decide_eq_true as_; have q221 : t216 < (l0.length : Int) := of_decide_eq_true as_; obtain ⟨ad221, e221, hx221_0, hx221_1, hx221_2⟩ := at_T50 HR0.out t216 p221 q221; cases e221; replace hx221_0 := pw_cell_below HB.out hx221_0; replace hx221_1 := pw_cell_below HB.out hx221_1; replace hx221_2 := pw_cell_below HB.out hx221_2; replace p221 := eq_true p221; replace q221 := eq_true q221) | ((with_reducible refine gate_dst (N := 51) rfl ?_); refine Kd.R_lit (Kd.int .i64) _ 3 ?hg (N := 51) ?hd (xs := ([] : List Int)) (inner := []) (ok := fun _ => True) (okp := fun _ => True) ?hr ?hp (fun _ hk => hk) trivial (Below.refl _ _) (Nat.le_refl _) (by simp) ?_; (case hd => rfl); (case hg => rfl); (case hr => first | (go_simp; done) | (go_simp; rfl)); (case hp => exact (Reps.none _ _)); intro v223 w36 ho37 hb hg_ hnew_; clear hg_ hnew_; (first | rw [← Ny222.out] at ho37 | (simp only [Int.reduceToNat] at ho37; rw [← Ny222.out] at ho37)); have t_ := fc4 (Kd.R_elder' (ra HO213.out) (Kd.R_base ho37) hb) (Kd.R_lower (Kd.R_new' ho37 (Kd.R_lt (ra HO213.out))) (below_size bb)) (bw BK205 hb) (below_step bb hb); clear HO213 BK205 HB; obtain ⟨HO213, HO224, BK205, HB⟩ := t_; clear hb ho37)); try go_wp2_with (first | ((with_reducible refine gate_builtin (b := .append) (xs := #[.tmp 21, .tmp 23]) rfl ?_); at_builtin; refine Kd.R_append (Kd.int .i64) (w0 := w) w.heap.size rfl (.tmp 21) (.tmp 23) 23 3 (.int .i64 0) 8 rfl Try.underlying23 info3 rfl (by decide) (by omega) u7 x7_2 x8_2 [.int .i64 x8_2] (fun _ => True) (fun _ => False) rfl rfl ?aP (fun _ hk => hk.elim) ?aF ?aO ?aB ?aS ?aL ?_; (case aP => exact rfl); (case aB => exact bb); (case aF => exact (fun _ _ => trivial)); (case aO => exact (ra HO_7.out)); (case aS => exact (below_size bb)); (case aL => have := LMc16.out; omega); intro v212 w33 ho hb hg hat; rw [← Ny211.out] at ho; have t_ := fc3 (blk_grown (g := gb205) (o := .cells #[.slice A1_0 l1_0.length c1_0, .slice A1_1 l1_1.length c1_1, .slice A1_2 l1_2.length c1_2] 31 (0, 0)) bk hg (Kd.R_ne HO_7.out BK205.out (by decide))) (hb) (ho); clear BK205 HB HO_7; obtain ⟨BK205, HB, HO213⟩ := t_; clear ho hb hg hat; obtain ⟨hcz34_0, hcz34_1, hcz34_2, hfz34_0, hfz34_1, hfz34_2⟩ := bx3 BK205.out; have p214 : 0 ≤ (x8_2 : Int) := of_decide_eq_true as_; have q214 : x8_2 < (l1_1.length : Int) := of_decide_eq_true as_; obtain ⟨ad214, e214, hx214_0⟩ := Kd.at_int HR1_1.out x8_2 p214 q214; cases e214; replace hx214_0 := pw_cell_below HB.out hx214_0; replace p214 := eq_true p214; replace q214 := eq_true q214) | (go_at_call 72; (with_reducible refine (spec_BusOf.calls a2 t215 _ A19.out).mono ?_); rintro e w' ⟨rfl, ⟨nd, rfl⟩⟩; (try first | exact ⟨rfl, _, World.drewN_drewN _ _ _⟩ | exact ⟨rfl, _, Eq.trans (World.drewN_drewN _ _ _) (congrArg (World.drewN _) (Nat.add_assoc _ _ _))⟩)) | (go_at_call 73; (with_reducible refine (spec_l21Next.calls k2 _ _ l0 _ _ l1_0 _ _ l1_1 _ _ l1_2 x8_2 a2 t216 _ ?side1 ?side2 ?side3 ?side4 ?side5 ?side6 ?side7 ?side8 A20.out).mono ?_); (case side1 => exact kc); (case side2 => exact HC0.out); (case side3 => exact kc); (case side4 => exact HC1_0.out); (case side5 => exact kc); (case side6 => exact HC1_1.out); (case side7 => exact kc); (case side8 => exact HC1_2.out); rintro e w35 ⟨rfl, hb⟩; have t_ := fc3 (Kd.R_below (ra HO213.out) hb) (bw BK205 hb) (below_step bb hb); clear HO213 BK205 HB; obtain ⟨HO213, BK205, HB⟩ := t_; (try clear hb); (try clear hk)) | (go_at_call 74; (with_reducible refine (spec_FunctionOf.calls a2 t220 _ A28.out).mono ?_); rintro e w' ⟨rfl, ⟨nd, rfl⟩⟩; (try first | exact ⟨rfl, _, World.drewN_drewN _ _ _⟩ | exact ⟨rfl, _, Eq.trans (World.drewN_drewN _ _ _) (congrArg (World.drewN _) (Nat.add_assoc _ _ _))⟩); have p221 : 0 ≤ (t216 : Int) := of_decide_eq_true as_; have q221 : t216 < (l0.length : Int) := of_decide_eq_true as_; obtain ⟨ad221, e221, hx221_0, hx221_1, hx221_2⟩ := at_T50 HR0.out t216 p221 q221; cases e221; replace hx221_0 := pw_cell_below HB.out hx221_0; replace hx221_1 := pw_cell_below HB.out hx221_1; replace hx221_2 := pw_cell_below HB.out hx221_2; replace p221 := eq_true p221; replace q221 := eq_true q221) | ((with_reducible refine gate_dst (N := 51) rfl ?_); refine Kd.R_lit (Kd.int .i64) _ 3 ?hg (N := 51) ?hd (xs := ([] : List Int)) (inner := []) (ok := fun _ => True) (okp := fun _ => True) ?hr ?hp (fun _ hk => hk) trivial (Below.refl _ _) (Nat.le_refl _) (by simp) ?_; (case hd => rfl); (case hg => rfl); (case hr => first | (go_simp; done) | (go_simp; rfl)); (case hp => exact (Reps.none _ _)); intro v223 w36 ho37 hb hg_ hnew_; clear hg_ hnew_; (first | rw [← Ny222.out] at ho37 | (simp only [Int.reduceToNat] at ho37; rw [← Ny222.out] at ho37)); have t_ := fc4 (Kd.R_elder' (ra HO213.out) (Kd.R_base ho37) hb) (Kd.R_lower (Kd.R_new' ho37 (Kd.R_lt (ra HO213.out))) (below_size bb)) (bw BK205 hb) (below_step bb hb); clear HO213 BK205 HB; obtain ⟨HO213, HO224, BK205, HB⟩ := t_; clear hb ho37)))
              go_ret
              exact ⟨_, by first | rfl | (simp [errW_none, errW_some] <;> rfl) | (simp only [← hji31]; first | rfl | (simp [errW_none, errW_some] <;> rfl)) | (simp [*, errW_none, errW_some] <;> rfl), by (with_reducible repeat (first | apply Kd.R_alloc | apply Kd.R_drewN | apply Kd.R_drew)); exact Kd.R_mono HO224.out (fun _ hk => trivial), bb⟩
             ·rw [if_neg c32] at H
              have c32b0 : decide ((ji31) ≤ t220) = false := decide_eq_false c32
              clear c32
              by_cases c38 : y211.length < 17592186044416
              ·rw [if_pos c38] at H
               have LMc38 := Aside0.mk c38
               clear c38
               obtain ⟨y225, hy225⟩ : ∃ y_ : List Int, y_ = (y211 ++ [t216]) := ⟨_, rfl⟩
               replace H : (some y225) = some r := by first | (rw [hy225]; with_reducible exact H) | (have H2_ := (Option.bind_some _ _).symm.trans H; rw [hy225]; with_reducible exact H2_) | (have H2_ := (Option.bind_some _ _).symm.trans H; with_reducible exact H2_) | with_reducible exact H | (rw [hy225]; exact H) | exact H
               have Ny225 := Aside0.mk hy225
               clear hy225
               obtain rfl := Option.some.inj H
               go_wp2_with (first | ((with_reducible refine gate_builtin (b := .append) (xs := #[.tmp 21, .tmp 23]) rfl ?_); at_builtin; refine Kd.R_append (Kd.int .i64) (w0 := w) w.heap.size rfl (.tmp 21) (.tmp 23) 23 3 (.int .i64 0) 8 rfl Try.underlying23 info3 rfl (by decide) (by omega) u7 x7_2 x8_2 [.int .i64 x8_2] (fun _ => True) (fun _ => False) rfl rfl ?aP (fun _ hk => hk.elim) ?aF ?aO ?aB ?aS ?aL ?_; (case aP => exact rfl); (case aB => exact bb); (case aF => exact (fun _ _ => trivial)); (case aO => exact (ra HO_7.out)); (case aS => exact (below_size bb)); (case aL => have := LMc16.out; omega); intro v212 w39 ho hb hg hat; rw [← Ny211.out] at ho; have t_ := fc3 (blk_grown (g := gb205) (o := .cells #[.slice A1_0 l1_0.length c1_0, .slice A1_1 l1_1.length c1_1, .slice A1_2 l1_2.length c1_2] 31 (0, 0)) bk hg (Kd.R_ne HO_7.out BK205.out (by decide))) (hb) (ho); clear BK205 HB HO_7; obtain ⟨BK205, HB, HO213⟩ := t_; clear ho hb hg hat; obtain ⟨hcz40_0, hcz40_1, hcz40_2, hfz40_0, hfz40_1, hfz40_2⟩ := bx3 BK205.out; have p214 : 0 ≤ (x8_2 : Int) := of_decide_eq_true as_; have q214 : x8_2 < (l1_1.length : Int) := of_decide_eq_true as_; obtain ⟨ad214, e214, hx214_0⟩ := Kd.at_int HR1_1.out x8_2 p214 q214; cases e214; replace hx214_0 := pw_cell_below HB.out hx214_0; replace p214 := eq_true p214; replace q214 := eq_true q214) | (go_at_call 72; (with_reducible refine (spec_BusOf.calls a2 t215 _ A19.out).mono ?_); rintro e w' ⟨rfl, ⟨nd, rfl⟩⟩; (try first | exact ⟨rfl, _, World.drewN_drewN _ _ _⟩ | exact ⟨rfl, _, Eq.trans (World.drewN_drewN _ _ _) (congrArg (World.drewN _) (Nat.add_assoc _ _ _))⟩)) | (go_at_call 73; (with_reducible refine (spec_l21Next.calls k2 _ _ l0 _ _ l1_0 _ _ l1_1 _ _ l1_2 x8_2 a2 t216 _ ?side1 ?side2 ?side3 ?side4 ?side5 ?side6 ?side7 ?side8 A20.out).mono ?_); (case side1 => exact kc); (case side2 => exact HC0.out); (case side3 => exact kc); (case side4 => exact HC1_0.out); (case side5 => exact kc); (case side6 => exact HC1_1.out); (case side7 => exact kc); (case side8 => exact HC1_2.out); rintro e w41 ⟨rfl, hb⟩; have t_ := fc3 (Kd.R_below (ra HO213.out) hb) (bw BK205 hb) (below_step bb hb); clear HO213 BK205 HB; obtain ⟨HO213, BK205, HB⟩ := t_; (try clear hb); (try clear hk)) | (go_at_call 74; (with_reducible refine (spec_FunctionOf.calls a2 t220 _ A28.out).mono ?_); rintro e w' ⟨rfl, ⟨nd, rfl⟩⟩; (try first | exact ⟨rfl, _, World.drewN_drewN _ _ _⟩ | exact ⟨rfl, _, Eq.trans (World.drewN_drewN _ _ _) (congrArg (World.drewN _) (Nat.add_assoc _ _ _))⟩); have p221 : 0 ≤ (t216 : Int) := of_decide_eq_true as_; have q221 : t216 < (l0.length : Int) := of_decide_eq_true as_; obtain ⟨ad221, e221, hx221_0, hx221_1, hx221_2⟩ := at_T50 HR0.out t216 p221 q221; cases e221; replace hx221_0 := pw_cell_below HB.out hx221_0; replace hx221_1 := pw_cell_below HB.out hx221_1; replace hx221_2 := pw_cell_below HB.out hx221_2; replace p221 := eq_true p221; replace q221 := eq_true q221) | ((with_reducible refine gate_builtin (b := .append) (xs := #[.tmp 52, .tmp 54]) rfl ?_); at_builtin; refine Kd.R_append (Kd.int .i64) (w0 := w) w.heap.size rfl (.tmp 52) (.tmp 54) 23 3 (.int .i64 0) 8 rfl Try.underlying23 info3 rfl (by decide) (by omega) v212 y211 t216 [.int .i64 t216] (fun _ => True) (fun _ => False) rfl rfl ?aP (fun _ hk => hk.elim) ?aF ?aO ?aB ?aS ?aL ?_; (case aP => exact rfl); (case aB => exact bb); (case aF => exact (fun _ _ => trivial)); (case aO => exact (ra HO213.out)); (case aS => exact (below_size bb)); (case aL => have := LMc38.out; omega); intro v226 w42 ho hb hg hat; rw [← Ny225.out] at ho; have t_ := fc3 (blk_grown (g := gb205) (o := .cells #[.slice A1_0 l1_0.length c1_0, .slice (some ad214) l1_1.length c1_1, .slice A1_2 l1_2.length c1_2] 31 (0, 0)) bk hg (Kd.R_ne HO213.out BK205.out (by decide))) (hb) (ho); clear BK205 HB HO213; obtain ⟨BK205, HB, HO227⟩ := t_; clear ho hb hg hat))
               repeat (go_quiet (first | ((with_reducible refine gate_builtin (b := .append) (xs := #[.tmp 21, .tmp 23]) rfl ?_); at_builtin; refine Kd.R_append (Kd.int .i64) (w0 := w) w.heap.size rfl (.tmp 21) (.tmp 23) 23 3 (.int .i64 0) 8 rfl Try.underlying23 info3 rfl (by decide) (by omega) u7 x7_2 x8_2 [.int .i64 x8_2] (fun _ => True) (fun _ => False) rfl rfl ?aP (fun _ hk => hk.elim) ?aF ?aO ?aB ?aS ?aL ?_; (case aP => exact rfl); (case aB => exact bb); (case aF => exact (fun _ _ => trivial)); (case aO => exact (ra HO_7.out)); (case aS => exact (below_size bb)); (case aL => have := LMc16.out; omega); intro v212 w39 ho hb hg hat; rw [← Ny211.out] at ho; have t_ := fc3 (blk_grown (g := gb205) (o := .cells #[.slice A1_0 l1_0.length c1_0, .slice A1_1 l1_1.length c1_1, .slice A1_2 l1_2.length c1_2] 31 (0, 0)) bk hg (Kd.R_ne HO_7.out BK205.out (by decide))) (hb) (ho); clear BK205 HB HO_7; obtain ⟨BK205, HB, HO213⟩ := t_; clear ho hb hg hat; obtain ⟨hcz40_0, hcz40_1, hcz40_2, hfz40_0, hfz40_1, hfz40_2⟩ := bx3 BK205.out; have p214 : 0 ≤ (x8_2 : Int) := of_decide_eq_true as_; have q214 : x8_2 < (l1_1.length : Int) := of_decide_eq_true as_; obtain ⟨ad214, e214, hx214_0⟩ := Kd.at_int HR1_1.out x8_2 p214 q214; cases e214; replace hx214_0 := pw_cell_below HB.out hx214_0; replace p214 := eq_true p214; replace q214 := eq_true q214) | (go_at_call 72; (with_reducible refine (spec_BusOf.calls a2 t215 _ A19.out).mono ?_); rintro e w' ⟨rfl, ⟨nd, rfl⟩⟩; (try first | exact ⟨rfl, _, World.drewN_drewN _ _ _⟩ | exact ⟨rfl, _, Eq.trans (World.drewN_drewN _ _ _) (congrArg (World.drewN _) (Nat.add_assoc _ _ _))⟩)) | (go_at_call 73; (with_reducible refine (spec_l21Next.calls k2 _ _ l0 _ _ l1_0 _ _ l1_1 _ _ l1_2 x8_2 a2 t216 _ ?side1 ?side2 ?side3 ?side4 ?side5 ?side6 ?side7 ?side8 A20.out).mono ?_); (case side1 => exact kc); (case side2 => exact HC0.out); (case side3 => exact kc); (case side4 => exact HC1_0.out); (case side5 => exact kc); (case side6 => exact HC1_1.out); (case side7 => exact kc); (case side8 => exact HC1_2.out); rintro e w41 ⟨rfl, hb⟩; have t_ := fc3 (Kd.R_below (ra HO213.out) hb) (bw BK205 hb) (below_step bb hb); clear HO213 BK205 HB; obtain ⟨HO213, BK205, HB⟩ := t_; (try clear hb); (try clear hk)) | (go_at_call 74; (with_reducible refine (spec_FunctionOf.calls a2 t220 _ A28.out).mono ?_); rintro e w' ⟨rfl, ⟨nd, rfl⟩⟩; (try first | exact ⟨rfl, _, World.drewN_drewN _ _ _⟩ | exact ⟨rfl, _, Eq.trans (World.drewN_drewN _ _ _) (congrArg (World.drewN _) (Nat.add_assoc _ _ _))⟩); have p221 : 0 ≤ (t216 : Int) := of_decide_eq_true as_; have q221 : t216 < (l0.length : Int) := of_decide_eq_true as_; obtain ⟨ad221, e221, hx221_0, hx221_1, hx221_2⟩ := at_T50 HR0.out t216 p221 q221; cases e221; replace hx221_0 := pw_cell_below HB.out hx221_0; replace hx221_1 := pw_cell_below HB.out hx221_1; replace hx221_2 := pw_cell_below HB.out hx221_2; replace p221 := eq_true p221; replace q221 := eq_true q221) | ((with_reducible refine gate_builtin (b := .append) (xs := #[.tmp 52, .tmp 54]) rfl ?_); at_builtin; refine Kd.R_append (Kd.int .i64) (w0 := w) w.heap.size rfl (.tmp 52) (.tmp 54) 23 3 (.int .i64 0) 8 rfl Try.underlying23 info3 rfl (by decide) (by omega) v212 y211 t216 [.int .i64 t216] (fun _ => True) (fun _ => False) rfl rfl ?aP (fun _ hk => hk.elim) ?aF ?aO ?aB ?aS ?aL ?_; (case aP => exact rfl); (case aB => exact bb); (case aF => exact (fun _ _ => trivial)); (case aO => exact (ra HO213.out)); (case aS => exact (below_size bb)); (case aL => have := LMc38.out; omega); intro v226 w42 ho hb hg hat; rw [← Ny225.out] at ho; have t_ := fc3 (blk_grown (g := gb205) (o := .cells #[.slice A1_0 l1_0.length c1_0, .slice (some ad214) l1_1.length c1_1, .slice A1_2 l1_2.length c1_2] 31 (0, 0)) bk hg (Kd.R_ne HO213.out BK205.out (by decide))) (hb) (ho); clear BK205 HB HO213; obtain ⟨BK205, HB, HO227⟩ := t_; clear ho hb hg hat)); try go_wp2_with (first | ((with_reducible refine gate_builtin (b := .append) (xs := #[.tmp 21, .tmp 23]) rfl ?_); at_builtin; refine Kd.R_append (Kd.int .i64) (w0 := w) w.heap.size rfl (.tmp 21) (.tmp 23) 23 3 (.int .i64 0) 8 rfl Try.underlying23 info3 rfl (by decide) (by omega) u7 x7_2 x8_2 [.int .i64 x8_2] (fun _ => True) (fun _ => False) rfl rfl ?aP (fun _ hk => hk.elim) ?aF ?aO ?aB ?aS ?aL ?_; (case aP => exact rfl); (case aB => exact bb); (case aF => exact (fun _ _ => trivial)); (case aO => exact (ra HO_7.out)); (case aS => exact (below_size bb)); (case aL => have := LMc16.out; omega); intro v212 w39 ho hb hg hat; rw [← Ny211.out] at ho; have t_ := fc3 (blk_grown (g := gb205) (o := .cells #[.slice A1_0 l1_0.length c1_0, .slice A1_1 l1_1.length c1_1, .slice A1_2 l1_2.length c1_2] 31 (0, 0)) bk hg (Kd.R_ne HO_7.out BK205.out (by decide))) (hb) (ho); clear BK205 HB HO_7; obtain ⟨BK205, HB, HO213⟩ := t_; clear ho hb hg hat; obtain ⟨hcz40_0, hcz40_1, hcz40_2, hfz40_0, hfz40_1, hfz40_2⟩ := bx3 BK205.out; have p214 : 0 ≤ (x8_2 : Int) := of_decide_eq_true as_; have q214 : x8_2 < (l1_1.length : Int) := of_decide_eq_true as_; obtain ⟨ad214, e214, hx214_0⟩ := Kd.at_int HR1_1.out x8_2 p214 q214; cases e214; replace hx214_0 := pw_cell_below HB.out hx214_0; replace p214 := eq_true p214; replace q214 := eq_true q214) | (go_at_call 72; (with_reducible refine (spec_BusOf.calls a2 t215 _ A19.out).mono ?_); rintro e w' ⟨rfl, ⟨nd, rfl⟩⟩; (try first | exact ⟨rfl, _, World.drewN_drewN _ _ _⟩ | exact ⟨rfl, _, Eq.trans (World.drewN_drewN _ _ _) (congrArg (World.drewN _) (Nat.add_assoc _ _ _))⟩)) | (go_at_call 73; (with_reducible refine (spec_l21Next.calls k2 _ _ l0 _ _ l1_0 _ _ l1_1 _ _ l1_2 x8_2 a2 t216 _ ?side1 ?side2 ?side3 ?side4 ?side5 ?side6 ?side7 ?side8 A20.out).mono ?_); (case side1 => exact kc); (case side2 => exact HC0.out); (case side3 => exact kc); (case side4 => exact HC1_0.out); (case side5 => exact kc); (case side6 => exact HC1_1.out); (case side7 => exact kc); (case side8 => exact HC1_2.out); rintro e w41 ⟨rfl, hb⟩; have t_ := fc3 (Kd.R_below (ra HO213.out) hb) (bw BK205 hb) (below_step bb hb); clear HO213 BK205 HB; obtain ⟨HO213, BK205, HB⟩ := t_; (try clear hb); (try clear hk)) | (go_at_call 74; (with_reducible refine (spec_FunctionOf.calls a2 t220 _ A28.out).mono ?_); rintro e w' ⟨rfl, ⟨nd, rfl⟩⟩; (try first | exact ⟨rfl, _, World.drewN_drewN _ _ _⟩ | exact ⟨rfl, _, Eq.trans (World.drewN_drewN _ _ _) (congrArg (World.drewN _) (Nat.add_assoc _ _ _))⟩); have p221 : 0 ≤ (t216 : Int) := of_decide_eq_true as_; have q221 : t216 < (l0.length : Int) := of_decide_eq_true as_; obtain ⟨ad221, e221, hx221_0, hx221_1, hx221_2⟩ := at_T50 HR0.out t216 p221 q221; cases e221; replace hx221_0 := pw_cell_below HB.out hx221_0; replace hx221_1 := pw_cell_below HB.out hx221_1; replace hx221_2 := pw_cell_below HB.out hx221_2; replace p221 := eq_true p221; replace q221 := eq_true q221) | ((with_reducible refine gate_builtin (b := .append) (xs := #[.tmp 52, .tmp 54]) rfl ?_); at_builtin; refine Kd.R_append (Kd.int .i64) (w0 := w) w.heap.size rfl (.tmp 52) (.tmp 54) 23 3 (.int .i64 0) 8 rfl Try.underlying23 info3 rfl (by decide) (by omega) v212 y211 t216 [.int .i64 t216] (fun _ => True) (fun _ => False) rfl rfl ?aP (fun _ hk => hk.elim) ?aF ?aO ?aB ?aS ?aL ?_; (case aP => exact rfl); (case aB => exact bb); (case aF => exact (fun _ _ => trivial)); (case aO => exact (ra HO213.out)); (case aS => exact (below_size bb)); (case aL => have := LMc38.out; omega); intro v226 w42 ho hb hg hat; rw [← Ny225.out] at ho; have t_ := fc3 (blk_grown (g := gb205) (o := .cells #[.slice A1_0 l1_0.length c1_0, .slice (some ad214) l1_1.length c1_1, .slice A1_2 l1_2.length c1_2] 31 (0, 0)) bk hg (Kd.R_ne HO213.out BK205.out (by decide))) (hb) (ho); clear BK205 HB HO213; obtain ⟨BK205, HB, HO227⟩ := t_; clear ho hb hg hat)))
               go_ret
               exact ⟨_, by first | rfl | (simp [errW_none, errW_some] <;> rfl) | (simp only [← hji31]; first | rfl | (simp [errW_none, errW_some] <;> rfl)) | (simp [*, errW_none, errW_some] <;> rfl), by (with_reducible repeat (first | apply Kd.R_alloc | apply Kd.R_drewN | apply Kd.R_drew)); exact HO227.out, bb⟩
              ·rw [if_neg c38] at H
               exact absurd H (by simp)
            ·rw [if_neg c30] at H
             exact absurd H (by simp)
           ·rw [if_neg c29] at H
            exact absurd H (by simp)
          ·rw [if_neg c27] at H
           have c27b0 : ((rd l1_1 x8_2) == t215) = false := beq_eq_false_iff_ne.mpr c27
           have c27b1 : ((rd l1_1 x8_2) != t215) = true := bne_iff_ne.mpr c27
           have H' := Aside0.mk H
           clear H
           go_wp2_with (first | ((with_reducible refine gate_builtin (b := .append) (xs := #[.tmp 21, .tmp 23]) rfl ?_); at_builtin; refine Kd.R_append (Kd.int .i64) (w0 := w) w.heap.size rfl (.tmp 21) (.tmp 23) 23 3 (.int .i64 0) 8 rfl Try.underlying23 info3 rfl (by decide) (by omega) u7 x7_2 x8_2 [.int .i64 x8_2] (fun _ => True) (fun _ => False) rfl rfl ?aP (fun _ hk => hk.elim) ?aF ?aO ?aB ?aS ?aL ?_; (case aP => exact rfl); (case aB => exact bb); (case aF => exact (fun _ _ => trivial)); (case aO => exact (ra HO_7.out)); (case aS => exact (below_size bb)); (case aL => have := LMc16.out; omega); intro v212 w43 ho hb hg hat; rw [← Ny211.out] at ho; have t_ := fc3 (blk_grown (g := gb205) (o := .cells #[.slice A1_0 l1_0.length c1_0, .slice A1_1 l1_1.length c1_1, .slice A1_2 l1_2.length c1_2] 31 (0, 0)) bk hg (Kd.R_ne HO_7.out BK205.out (by decide))) (hb) (ho); clear BK205 HB HO_7; obtain ⟨BK205, HB, HO213⟩ := t_; clear ho hb hg hat; obtain ⟨hcz44_0, hcz44_1, hcz44_2, hfz44_0, hfz44_1, hfz44_2⟩ := bx3 BK205.out; have p214 : 0 ≤ (x8_2 : Int) := of_decide_eq_true as_; have q214 : x8_2 < (l1_1.length : Int) := of_decide_eq_true as_; obtain ⟨ad214, e214, hx214_0⟩ := Kd.at_int HR1_1.out x8_2 p214 q214; cases e214; replace hx214_0 := pw_cell_below HB.out hx214_0; replace p214 := eq_true p214; replace q214 := eq_true q214) | (go_at_call 72; (with_reducible refine (spec_BusOf.calls a2 t215 _ A19.out).mono ?_); rintro e w' ⟨rfl, ⟨nd, rfl⟩⟩; (try first | exact ⟨rfl, _, World.drewN_drewN _ _ _⟩ | exact ⟨rfl, _, Eq.trans (World.drewN_drewN _ _ _) (congrArg (World.drewN _) (Nat.add_assoc _ _ _))⟩)) | (go_at_call 73; (with_reducible refine (spec_l21Next.calls k2 _ _ l0 _ _ l1_0 _ _ l1_1 _ _ l1_2 x8_2 a2 t216 _ ?side1 ?side2 ?side3 ?side4 ?side5 ?side6 ?side7 ?side8 A20.out).mono ?_); (case side1 => exact kc); (case side2 => exact HC0.out); (case side3 => exact kc); (case side4 => exact HC1_0.out); (case side5 => exact kc); (case side6 => exact HC1_1.out); (case side7 => exact kc); (case side8 => exact HC1_2.out); rintro e w45 ⟨rfl, hb⟩; have t_ := fc3 (Kd.R_below (ra HO213.out) hb) (bw BK205 hb) (below_step bb hb); clear HO213 BK205 HB; obtain ⟨HO213, BK205, HB⟩ := t_; (try clear hb); (try clear hk)))
           repeat (go_quiet (first | ((with_reducible refine gate_builtin (b := .append) (xs := #[.tmp 21, .tmp 23]) rfl ?_); at_builtin; refine Kd.R_append (Kd.int .i64) (w0 := w) w.heap.size rfl (.tmp 21) (.tmp 23) 23 3 (.int .i64 0) 8 rfl Try.underlying23 info3 rfl (by decide) (by omega) u7 x7_2 x8_2 [.int .i64 x8_2] (fun _ => True) (fun _ => False) rfl rfl ?aP (fun _ hk => hk.elim) ?aF ?aO ?aB ?aS ?aL ?_; (case aP => exact rfl); (case aB => exact bb); (case aF => exact (fun _ _ => trivial)); (case aO => exact (ra HO_7.out)); (case aS => exact (below_size bb)); (case aL => have := LMc16.out; omega); intro v212 w43 ho hb hg hat; rw [← Ny211.out] at ho; have t_ := fc3 (blk_grown (g := gb205) (o := .cells #[.slice A1_0 l1_0.length c1_0, .slice A1_1 l1_1.length c1_1, .slice A1_2 l1_2.length c1_2] 31 (0, 0)) bk hg (Kd.R_ne HO_7.out BK205.out (by decide))) (hb) (ho); clear BK205 HB HO_7; obtain ⟨BK205, HB, HO213⟩ := t_; clear ho hb hg hat; obtain ⟨hcz44_0, hcz44_1, hcz44_2, hfz44_0, hfz44_1, hfz44_2⟩ := bx3 BK205.out; have p214 : 0 ≤ (x8_2 : Int) := of_decide_eq_true as_; have q214 : x8_2 < (l1_1.length : Int) := of_decide_eq_true as_; obtain ⟨ad214, e214, hx214_0⟩ := Kd.at_int HR1_1.out x8_2 p214 q214; cases e214; replace hx214_0 := pw_cell_below HB.out hx214_0; replace p214 := eq_true p214; replace q214 := eq_true q214) | (go_at_call 72; (with_reducible refine (spec_BusOf.calls a2 t215 _ A19.out).mono ?_); rintro e w' ⟨rfl, ⟨nd, rfl⟩⟩; (try first | exact ⟨rfl, _, World.drewN_drewN _ _ _⟩ | exact ⟨rfl, _, Eq.trans (World.drewN_drewN _ _ _) (congrArg (World.drewN _) (Nat.add_assoc _ _ _))⟩)) | (go_at_call 73; (with_reducible refine (spec_l21Next.calls k2 _ _ l0 _ _ l1_0 _ _ l1_1 _ _ l1_2 x8_2 a2 t216 _ ?side1 ?side2 ?side3 ?side4 ?side5 ?side6 ?side7 ?side8 A20.out).mono ?_); (case side1 => exact kc); (case side2 => exact HC0.out); (case side3 => exact kc); (case side4 => exact HC1_0.out); (case side5 => exact kc); (case side6 => exact HC1_1.out); (case side7 => exact kc); (case side8 => exact HC1_2.out); rintro e w45 ⟨rfl, hb⟩; have t_ := fc3 (Kd.R_below (ra HO213.out) hb) (bw BK205 hb) (below_step bb hb); clear HO213 BK205 HB; obtain ⟨HO213, BK205, HB⟩ := t_; (try clear hb); (try clear hk))); try go_wp2_with (first | ((with_reducible refine gate_builtin (b := .append) (xs := #[.tmp 21, .tmp 23]) rfl ?_); at_builtin; refine Kd.R_append (Kd.int .i64) (w0 := w) w.heap.size rfl (.tmp 21) (.tmp 23) 23 3 (.int .i64 0) 8 rfl Try.underlying23 info3 rfl (by decide) (by omega) u7 x7_2 x8_2 [.int .i64 x8_2] (fun _ => True) (fun _ => False) rfl rfl ?aP (fun _ hk => hk.elim) ?aF ?aO ?aB ?aS ?aL ?_; (case aP => exact rfl); (case aB => exact bb); (case aF => exact (fun _ _ => trivial)); (case aO => exact (ra HO_7.out)); (case aS => exact (below_size bb)); (case aL => have := LMc16.out; omega); intro v212 w43 ho hb hg hat; rw [← Ny211.out] at ho; have t_ := fc3 (blk_grown (g := gb205) (o := .cells #[.slice A1_0 l1_0.length c1_0, .slice A1_1 l1_1.length c1_1, .slice A1_2 l1_2.length c1_2] 31 (0, 0)) bk hg (Kd.R_ne HO_7.out BK205.out (by decide))) (hb) (ho); clear BK205 HB HO_7; obtain ⟨BK205, HB, HO213⟩ := t_; clear ho hb hg hat; obtain ⟨hcz44_0, hcz44_1, hcz44_2, hfz44_0, hfz44_1, hfz44_2⟩ := bx3 BK205.out; have p214 : 0 ≤ (x8_2 : Int) := of_decide_eq_true as_; have q214 : x8_2 < (l1_1.length : Int) := of_decide_eq_true as_; obtain ⟨ad214, e214, hx214_0⟩ := Kd.at_int HR1_1.out x8_2 p214 q214; cases e214; replace hx214_0 := pw_cell_below HB.out hx214_0; replace p214 := eq_true p214; replace q214 := eq_true q214) | (go_at_call 72; (with_reducible refine (spec_BusOf.calls a2 t215 _ A19.out).mono ?_); rintro e w' ⟨rfl, ⟨nd, rfl⟩⟩; (try first | exact ⟨rfl, _, World.drewN_drewN _ _ _⟩ | exact ⟨rfl, _, Eq.trans (World.drewN_drewN _ _ _) (congrArg (World.drewN _) (Nat.add_assoc _ _ _))⟩)) | (go_at_call 73; (with_reducible refine (spec_l21Next.calls k2 _ _ l0 _ _ l1_0 _ _ l1_1 _ _ l1_2 x8_2 a2 t216 _ ?side1 ?side2 ?side3 ?side4 ?side5 ?side6 ?side7 ?side8 A20.out).mono ?_); (case side1 => exact kc); (case side2 => exact HC0.out); (case side3 => exact kc); (case side4 => exact HC1_0.out); (case side5 => exact kc); (case side6 => exact HC1_1.out); (case side7 => exact kc); (case side8 => exact HC1_2.out); rintro e w45 ⟨rfl, hb⟩; have t_ := fc3 (Kd.R_below (ra HO213.out) hb) (bw BK205 hb) (below_step bb hb); clear HO213 BK205 HB; obtain ⟨HO213, BK205, HB⟩ := t_; (try clear hb); (try clear hk))))
           go_roundg k2
           case measure => have := HJ3.out; have := HK2.out; omega
           case rel => exact ⟨(y211), (t216), (by first | rfl | (simp; done) | (simp [*]; done)), H', ⟨by have := HJ3.out; have := HK2.out; omega⟩, ⟨by (with_reducible repeat (first | apply Kd.R_alloc | apply Kd.R_drewN | apply Kd.R_drew)); exact HO213.out⟩, ⟨by exact bk⟩, ⟨bb⟩⟩
        ·rw [if_neg c18] at H
         exact absurd H (by simp)
       ·rw [if_neg c17] at H
        exact absurd H (by simp)
      ·rw [if_neg c16] at H
       exact absurd H (by simp)

/-! ### laws_toNode: function 75 -/
def laws_toNode.f (a0_0 : Int) (a0_1 : Int) (a0_2 : Int) : Option (Int × Int × Int) := some (a0_0, a0_1, a0_2)
set_option maxHeartbeats 8000000 in
set_option maxRecDepth 100000 in
theorem laws_toNode.calls (a0_0 : Int) (a0_1 : Int) (a0_2 : Int) (r1 : Int) (r2 : Int) (r3 : Int) (w : World) (h : laws_toNode.f a0_0 a0_1 a0_2 = some (r1, r2, r3)) :
  Calls Try.prog 75 #[.agg #[.int .i64 a0_0, .int .i64 a0_1, .int .i64 a0_2]] w fun e w' => e = .returned (.agg #[.int .i64 r1, .int .i64 r2, .int .i64 r3]) ∧ Below w.heap.size w w' := by
 have hu83 := Try.underlying83
 have hu50 := Try.underlying50
 have HB := Aside0.mk (Below.refl w.heap.size w)
 have H : (some (a0_0, a0_1, a0_2)) = some (r1, r2, r3) := h
 clear h
 simp only [Option.some.injEq, Prod.mk.injEq] at H
 obtain ⟨rfl, rfl, rfl⟩ := H
 go_enter Try.func75, Try.ntmps75
 go_wp2_with (first | ((with_reducible refine gate_dst (N := 1) rfl ?_); refine box_event ?hg (N := 1) ?hd (cs := #[.int .i64 a0_0, .int .i64 a0_1, .int .i64 a0_2]) (t := 83) ?hr ?_; (case hd => rfl); (case hg => rfl); (case hr => first | (go_simp; done) | (go_simp; rfl)); intro gb228 hg w2 hbox hb; have t_ := fc4 (below_step bb hb) (hbox) (bg hg : w.heap.size ≤ gb228) (bg hg : w.heap.size ≤ gb228); clear HB; obtain ⟨HB, BK228, GW228, GE228⟩ := t_; clear hb hbox hg) | ((with_reducible refine gate_dst (N := 2) rfl ?_); refine box_event ?hg (N := 2) ?hd (cs := #[.int .i64 0, .int .i64 0, .int .i64 0]) (t := 50) ?hr ?_; (case hd => rfl); (case hg => rfl); (case hr => first | (go_simp; done) | (go_simp; rfl)); intro gb229 hg w3 hbox hb; have t_ := fc7 (bw BK228 hb) (below_step bb hb) (hbox) (bg hg : w.heap.size ≤ gb229) (bg hg : w.heap.size ≤ gb229) ((nl BK228 hg : gb228 ≠ gb229)) ((ng BK228 hg : gb229 ≠ gb228)); clear BK228 HB; obtain ⟨BK228, HB, BK229, GW229, GE229, NB228_229, NB229_228⟩ := t_; clear hb hbox hg) | ((with_reducible refine gate_dst (N := 3) rfl ?_); refine box_event ?hg (N := 3) ?hd (cs := #[.int .i64 0, .int .i64 0, .int .i64 0]) (t := 50) ?hr ?_; (case hd => rfl); (case hg => rfl); (case hr => first | (go_simp; done) | (go_simp; rfl)); intro gb230 hg w4 hbox hb; have t_ := fc10 (bw BK228 hb) (bw BK229 hb) (below_step bb hb) (hbox) (bg hg : w.heap.size ≤ gb230) (bg hg : w.heap.size ≤ gb230) ((nl BK228 hg : gb228 ≠ gb230)) ((ng BK228 hg : gb230 ≠ gb228)) ((nl BK229 hg : gb229 ≠ gb230)) ((ng BK229 hg : gb230 ≠ gb229)); clear BK228 BK229 HB; obtain ⟨BK228, BK229, HB, BK230, GW230, GE230, NB228_230, NB230_228, NB229_230, NB230_229⟩ := t_; clear hb hbox hg; have hnb5 := NB228_229.out; have hnc5 := NB229_228.out; have hnb6 := NB228_230.out; have hnc6 := NB230_228.out; obtain ⟨hcz7_0, hcz7_1, hcz7_2, hfz7_0, hfz7_1, hfz7_2⟩ := bx3 BK228.out; have hnb8 := NB230_229.out; have hnc8 := NB229_230.out; obtain ⟨hcz9_0, hcz9_1, hcz9_2, hfz9_0, hfz9_1, hfz9_2⟩ := bx3 BK230.out; obtain ⟨hcz10_0, hcz10_1, hcz10_2, hfz10_0, hfz10_1, hfz10_2⟩ := bx3 BK229.out))
 refine bodyPost_ret (results_cell_row rfl _ _ gb229 50 #[.int .i64 a0_0, .int .i64 a0_1, .int .i64 a0_2] (0, 0) _ rfl (by (with_reducible repeat (first | refine blk_drewN ?_ _ | refine blk_drew ?_ | refine blk_alloc ?_ _)); refine blk_put (cs := #[.int .i64 a0_0, .int .i64 a0_1, .int .i64 0]) ?_ 2 _ rfl; (with_reducible repeat (first | refine blk_drewN ?_ _ | refine blk_drew ?_ | refine blk_alloc ?_ _)); refine blk_put (cs := #[.int .i64 a0_0, .int .i64 0, .int .i64 0]) ?_ 1 _ rfl; (with_reducible repeat (first | refine blk_drewN ?_ _ | refine blk_drew ?_ | refine blk_alloc ?_ _)); refine blk_put (cs := #[.int .i64 0, .int .i64 0, .int .i64 0]) ?_ 0 _ rfl; (with_reducible repeat (first | refine blk_drewN ?_ _ | refine blk_drew ?_ | refine blk_alloc ?_ _)); refine blk_far ?_ NB229_230.out _; (with_reducible repeat (first | refine blk_drewN ?_ _ | refine blk_drew ?_ | refine blk_alloc ?_ _)); refine blk_far ?_ NB229_230.out _; (with_reducible repeat (first | refine blk_drewN ?_ _ | refine blk_drew ?_ | refine blk_alloc ?_ _)); refine blk_far ?_ NB229_230.out _; exact bk) Try.underlying50 rfl (by kernel_rfl)) rfl ?_
 exact ⟨er, bb⟩

/-! ### laws_toNodeS: function 21 -/
def laws_toNodeS.l0 : Nat → List (S83) → List (S50) → Int → Option ((List (S50)))
 | 0, _, _, _ => none
 | k + 1, x0, x3, x4 => if x4 < (x0.length : Int) then (if 0 ≤ x4 then ((laws_toNode.f ((rd_T83 x0 x4).f0) ((rd_T83 x0 x4).f1) ((rd_T83 x0 x4).f2)).bind fun bt235 => (if x4 < (x3.length : Int) then (laws_toNodeS.l0 k x0 (x3.set (x4 : Int).toNat (⟨bt235.1, bt235.2.1, bt235.2.2⟩ : S50)) (wrap64 (x4 + 1))) else (none))) else (none)) else (some x3)
def laws_toNodeS.f (k : Nat) (l0 : List (S83)) : Option ((List (S50))) := if 0 ≤ (l0.length : Int) then (if ((l0.length : Int) : Int).toNat ≤ 11728124029610 then (laws_toNodeS.l0 k l0 (List.replicate ((l0.length : Int) : Int).toNat z50) 0) else (none)) else (none)
set_option maxHeartbeats 8000000 in
set_option maxRecDepth 100000 in
theorem laws_toNodeS.calls (k : Nat) (A0 : Option Addr) (c0 : Nat) (l0 : List (S83)) (r : List (S50)) (w : World) (hr0 : Kd.C k83 w A0 l0.length l0) (hc0 : l0.length ≤ c0) (h : laws_toNodeS.f k l0 = some r) :
  Calls Try.prog 21 #[.slice A0 l0.length c0] w fun e w' => ∃ v0_ : Value, e = .returned (v0_) ∧ Kd.R k50 50 w' w.heap.size (fun _ => True) v0_ r ∧ Below w.heap.size w w' := by
 have hu83 := Try.underlying83
 have hu50 := Try.underlying50
 have HR0 := Aside0.mk hr0
 have HC0 := Aside0.mk hc0
 clear hr0 hc0
 have HB := Aside0.mk (Below.refl w.heap.size w)
 have H : (if 0 ≤ (l0.length : Int) then (if ((l0.length : Int) : Int).toNat ≤ 11728124029610 then (laws_toNodeS.l0 k l0 (List.replicate ((l0.length : Int) : Int).toNat z50) 0) else (none)) else (none)) = some r := h
 clear h
 by_cases c2 : 0 ≤ (l0.length : Int)
 ·rw [if_pos c2] at H
  have c2b0 := eq_true c2
  have c2b1 : decide (0 ≤ (l0.length : Int)) = true := decide_eq_true c2
  clear c2
  by_cases c3 : ((l0.length : Int) : Int).toNat ≤ 11728124029610
  ·rw [if_pos c3] at H
   have c3b0 := eq_true c3
   have c3b1 : decide (((l0.length : Int) : Int).toNat ≤ 11728124029610) = true := decide_eq_true c3
   clear c3
   obtain ⟨y231, hy231⟩ : ∃ y_ : List (S50), y_ = (List.replicate ((l0.length : Int) : Int).toNat z50) := ⟨_, rfl⟩
   replace H : (laws_toNodeS.l0 k l0 y231 0) = some r := by first | (rw [hy231]; with_reducible exact H) | (have H2_ := (Option.bind_some _ _).symm.trans H; rw [hy231]; with_reducible exact H2_) | (have H2_ := (Option.bind_some _ _).symm.trans H; with_reducible exact H2_) | with_reducible exact H | (rw [hy231]; exact H) | exact H
   have Ny231 := Aside0.mk hy231
   clear hy231
   have H' := Aside0.mk H
   clear H
   go_enter Try.func21, Try.ntmps21
   go_wp2_with (first | ((with_reducible refine gate_dst (N := 7) rfl ?_); refine Kd.R_make k50 _ 50 rfl (N := 7) rfl 29 _ _ rfl (l0.length : Int) rfl rfl Try.underlying29 (.agg #[(.int .i64 0), (.int .i64 0), (.int .i64 0)]) 24 info50 rfl (by decide) (by omega) z50 (ok := fun _ => True) (okp := fun _ => True) (k50_mkM _ _ _ z50 ) (fun _ hk => hk) trivial (of_decide_eq_true as_) (Nat.le_trans (Nat.mul_le_mul_right _ (of_decide_eq_true as_ : (l0.length : Int).toNat ≤ 11728124029610)) (by omega)) (Below.refl _ _) (Nat.le_refl _) ?_; intro v232 w4 ho5 hb hg_ hnew_; clear hg_ hnew_; (first | rw [← Ny231.out] at ho5 | (simp only [Int.reduceToNat] at ho5; rw [← Ny231.out] at ho5)); have t_ := fc2 (Kd.R_lower ho5 (below_size bb)) (below_step bb hb); clear HB; obtain ⟨HO233, HB⟩ := t_; clear hb ho5))
   go_loopg [4] k (fun kq v4 w' => ∃ (x3_1 : List (S50)) (x4_1 : Int), v4 = .int .i64 x4_1 ∧ Aside0 (laws_toNodeS.l0 kq l0 x3_1 x4_1 = some r) ∧ Aside0 (kq ≤ k) ∧ Aside0 (Kd.R k50 50 w' w.heap.size (fun _ => True) v232 x3_1) ∧ Aside0 (Below w.heap.size w w'))
   case atStart => exact ⟨(y231), (0), (by first | rfl | (simp; done) | (simp [*]; done)), H', ⟨Nat.le_refl _⟩, ⟨by (with_reducible repeat (first | apply Kd.R_alloc | apply Kd.R_drewN | apply Kd.R_drew)); exact HO233.out⟩, ⟨bb⟩⟩
   case round =>
    clear H'
    try clear c2
    try clear c2b0
    try clear c2b1
    try clear p2
    try clear c3
    try clear c3b0
    try clear c3b1
    obtain ⟨x3_1, x4_1, rfl, HA, HK1, HO_3, HB⟩ := hrel
    cases gk with
    | zero => exact absurd HA.out (by simp [laws_toNodeS.l0])
    | succ k1 =>
     have H := HA.out
     clear HA
     simp only [laws_toNodeS.l0] at H
     by_cases c6 : x4_1 < (l0.length : Int)
     ·rw [if_pos c6] at H
      have c6b0 : decide (x4_1 < (l0.length : Int)) = true := decide_eq_true c6
      clear c6
      by_cases c7 : 0 ≤ x4_1
      ·rw [if_pos c7] at H
       have c7b0 : decide (0 ≤ x4_1) = true := decide_eq_true c7
       clear c7
       replace H := Option.bind_eq_some_iff.mp H
       obtain ⟨⟨t235, t236, t237⟩, A80, H⟩ := H
       replace H : (if x4_1 < (x3_1.length : Int) then (laws_toNodeS.l0 k1 l0 (x3_1.set (x4_1 : Int).toNat (⟨t235, t236, t237⟩ : S50)) (wrap64 (x4_1 + 1))) else (none)) = some r := H
       have A8 := Aside0.mk A80
       clear A80
       by_cases c9 : x4_1 < (x3_1.length : Int)
       ·rw [if_pos c9] at H
        have c9b0 : decide (x4_1 < (x3_1.length : Int)) = true := decide_eq_true c9
        clear c9
        obtain ⟨y238, hy238⟩ : ∃ y_ : List (S50), y_ = (x3_1.set (x4_1 : Int).toNat (⟨t235, t236, t237⟩ : S50)) := ⟨_, rfl⟩
        replace H : (laws_toNodeS.l0 k1 l0 y238 (wrap64 (x4_1 + 1))) = some r := by first | (rw [hy238]; with_reducible exact H) | (have H2_ := (Option.bind_some _ _).symm.trans H; rw [hy238]; with_reducible exact H2_) | (have H2_ := (Option.bind_some _ _).symm.trans H; with_reducible exact H2_) | with_reducible exact H | (rw [hy238]; exact H) | exact H
        have Ny238 := Aside0.mk hy238
        clear hy238
        have H' := Aside0.mk H
        clear H
        have p234 : 0 ≤ (x4_1 : Int) := of_decide_eq_true as_
        have q234 : x4_1 < (l0.length : Int) := of_decide_eq_true as_
        obtain ⟨ad234, e234, hx234_0, hx234_1, hx234_2⟩ := at_T83 HR0.out x4_1 p234 q234
        cases e234
        replace hx234_0 := pw_cell_below HB.out hx234_0
        replace hx234_1 := pw_cell_below HB.out hx234_1
        replace hx234_2 := pw_cell_below HB.out hx234_2
        replace p234 := eq_true p234
        replace q234 := eq_true q234
        go_wp2_with (first | ((with_reducible refine gate_callee (f := 75) rfl ?_); refine goesL_ (some 20) rfl rfl Try.func75 (by kernel_rfl) rfl #[.agg #[.int .i64 ((rd_T83 l0 x4_1).f0), .int .i64 ((rd_T83 l0 x4_1).f1), .int .i64 ((rd_T83 l0 x4_1).f2)]] rfl ms ?_; (with_reducible refine (laws_toNode.calls ((rd_T83 l0 x4_1).f0) ((rd_T83 l0 x4_1).f1) ((rd_T83 l0 x4_1).f2) t235 t236 t237 _ A8.out).mono ?_); rintro e w11 ⟨rfl, hb⟩; refine ⟨_, rfl, ?_⟩; have t_ := fc2 (Kd.R_below (ra HO_3.out) hb) (below_step bb hb); clear HO_3 HB; obtain ⟨HO_3, HB⟩ := t_; (try clear hb); (try clear hk); have p10 : 0 ≤ (x4_1 : Int) := of_decide_eq_true as_; have q10 : (x4_1 : Int) < ((x3_1.length : Int) : Int) := of_decide_eq_true as_; obtain ⟨go10, co10, eo10, gb10, gl10, cl10, HG10⟩ := Kd.R_form HO_3.out (by omega); (first | cases eo10 | (injection eo10 with ea_ en_ ec_; (first | subst ea_ | (injection ea_ with ea_; subst ea_)); subst ec_; clear en_)); have GB10 := Aside0.mk gb10; have GG10 := Aside0.mk HG10; clear gb10 gl10 HG10; obtain ⟨ce10, hcl10, hM10, hcc10, hfr10⟩ := Kd.R_elem HO_3.out z50 (x4_1 : Int) p10 q10; obtain rfl := k50_openM hM10; have hx10_0 : w11.cell? ⟨go10, (x4_1 : Int).toNat * 3, none⟩ = some (.int .i64 ((rd_T50 x3_1 x4_1).f0)) := hcc10 0 _ rfl; have hx10_1 : w11.cell? ⟨go10, (x4_1 : Int).toNat * 3 + 1, none⟩ = some (.int .i64 ((rd_T50 x3_1 x4_1).f1)) := hcc10 1 _ rfl; have hx10_2 : w11.cell? ⟨go10, (x4_1 : Int).toNat * 3 + 2, none⟩ = some (.int .i64 ((rd_T50 x3_1 x4_1).f2)) := hcc10 2 _ rfl; have hf10_0 : w11.frozen? ⟨go10, (x4_1 : Int).toNat * 3, none⟩ = false := hfr10 0; have hf10_1 : w11.frozen? ⟨go10, (x4_1 : Int).toNat * 3 + 1, none⟩ = false := hfr10 1; have hf10_2 : w11.frozen? ⟨go10, (x4_1 : Int).toNat * 3 + 2, none⟩ = false := hfr10 2; clear hcl10 hcc10 hfr10 hM10; replace p10 := eq_true p10; replace q10 := eq_true q10; have HX12 := Aside0.mk (show Kd.R k50 50 w11 w.heap.size (fun _ => True) (.slice (some ⟨go10, 0, none⟩) x3_1.length co10) x3_1 from (ra HO_3.out)); obtain ⟨ce12, hcl12, hM12, hcc12, hfr12⟩ := Kd.R_elem HX12.out z50 (x4_1 : Int) (of_decide_eq_true as_) (by have h_ : (x4_1 : Int) < ((x3_1.length : Int) : Int) := of_decide_eq_true as_; first | exact h_ | (have e_ := (Kd.R_reads' HO_3.out).1; omega) | simpa using h_); obtain rfl := k50_openM hM12; have HP12 := Kd.R_seg HX12.out (x4_1 : Int) (of_decide_eq_true as_) (by have h_ : (x4_1 : Int) < ((x3_1.length : Int) : Int) := of_decide_eq_true as_; first | exact h_ | (have e_ := (Kd.R_reads' HO_3.out).1; omega) | simpa using h_) (seg := [.int .i64 t235, .int .i64 t236, .int .i64 t237]) (j := 0) hcl12 hcc12 (show 3 ≤ 3 from by decide) (x' := (⟨t235, t236, t237⟩ : S50)) (k50_mkM _ _ _ (⟨t235, t236, t237⟩ : S50) ) (fun _ hk => hk); have hx12_0 := hcc12 0 _ rfl; (try simp only [show (k50).sz = 3 from rfl, Nat.mul_one, Nat.add_zero] at hx12_0); have hf12_0 := hfr12 0; (try simp only [show (k50).sz = 3 from rfl, Nat.mul_one, Nat.add_zero] at hf12_0); have hx12_1 := hcc12 1 _ rfl; (try simp only [show (k50).sz = 3 from rfl, Nat.mul_one, Nat.add_zero] at hx12_1); have hf12_1 := hfr12 1; (try simp only [show (k50).sz = 3 from rfl, Nat.mul_one, Nat.add_zero] at hf12_1); have hx12_2 := hcc12 2 _ rfl; (try simp only [show (k50).sz = 3 from rfl, Nat.mul_one, Nat.add_zero] at hx12_2); have hf12_2 := hfr12 2; (try simp only [show (k50).sz = 3 from rfl, Nat.mul_one, Nat.add_zero] at hf12_2); clear hcl12 hcc12 hfr12 hM12) | ((with_reducible refine gate_store (t := 50) (p := 21) rfl ?_); refine store_event (t := 50) (p := 21) (v := ?vo_w13) (w1 := (((w11.setCell ⟨go10, (x4_1 : Int).toNat * 3, none⟩ (.int .i64 t235)).setCell ⟨go10, (x4_1 : Int).toNat * 3 + 1, none⟩ (.int .i64 t236)).setCell ⟨go10, (x4_1 : Int).toNat * 3 + 2, none⟩ (.int .i64 t237))) ?hg ?ho ?hn ?hr ?_; (case ho => rfl); (case hg => rfl); (case hn => rfl); (case hr => first | (go_simp; done) | (go_simp; rfl)); intro w13 hw; have hg : w11.grownBy w13 (some go10) := (by rw [hw]; exact HP12.2); have hp_ : Kd.R k50 50 w13 w.heap.size (fun _ => True) (.slice (some ⟨go10, 0, none⟩) x3_1.length co10) y238 := (by rw [hw, Ny238.out]; exact HP12.1); clear HP12; have t_ := fc2 (hp_) ((by rw [hw]; exact below_set (below_set (below_set (HB.out) GB10.out) GB10.out) GB10.out : Below w.heap.size w w13)); clear HO_3 HB; obtain ⟨HO_3, HB⟩ := t_; clear hg hw hp_))
        go_roundg k1
        case measure => have := HK1.out; omega
        case rel => exact ⟨(y238), (wrap64 (x4_1 + 1)), (by first | rfl | (simp; done) | (simp [*]; done)), H', ⟨by have := HK1.out; omega⟩, ⟨by (with_reducible repeat (first | apply Kd.R_alloc | apply Kd.R_drewN | apply Kd.R_drew)); exact HO_3.out⟩, ⟨bb⟩⟩
       ·rw [if_neg c9] at H
        exact absurd H (by simp)
      ·rw [if_neg c7] at H
       exact absurd H (by simp)
     ·rw [if_neg c6] at H
      have c6b0 : decide (x4_1 < (l0.length : Int)) = false := decide_eq_false c6
      clear c6
      obtain rfl := Option.some.inj H
      go_wp2
      go_ret
      exact ⟨_, er, by (with_reducible repeat (first | apply Kd.R_alloc | apply Kd.R_drewN | apply Kd.R_drew)); exact HO_3.out, bb⟩
  ·rw [if_neg c3] at H
   exact absurd H (by simp)
 ·rw [if_neg c2] at H
  exact absurd H (by simp)

/-! ### laws_toIntS: function 49 -/
def laws_toIntS.l0 : Nat → List Int → List Int → Int → Option (List Int)
 | 0, _, _, _ => none
 | k + 1, x0, x3, x4 => if x4 < (x0.length : Int) then (if 0 ≤ x4 then (if x4 < (x3.length : Int) then (laws_toIntS.l0 k x0 (x3.set (x4 : Int).toNat (rd x0 x4)) (wrap64 (x4 + 1))) else (none)) else (none)) else (some x3)
def laws_toIntS.f (k : Nat) (l0 : List Int) : Option (List Int) := if 0 ≤ (l0.length : Int) then (if ((l0.length : Int) : Int).toNat ≤ 35184372088832 then (laws_toIntS.l0 k l0 (List.replicate ((l0.length : Int) : Int).toNat 0) 0) else (none)) else (none)
set_option maxHeartbeats 8000000 in
set_option maxRecDepth 100000 in
theorem laws_toIntS.calls (k : Nat) (A0 : Option Addr) (c0 : Nat) (l0 : List Int) (r : List Int) (w : World) (hr0 : Kd.C (Kd.int .i64) w A0 l0.length l0) (hc0 : l0.length ≤ c0) (h : laws_toIntS.f k l0 = some r) :
  Calls Try.prog 49 #[.slice A0 l0.length c0] w fun e w' => ∃ v0_ : Value, e = .returned (v0_) ∧ Kd.R (Kd.int .i64) 3 w' w.heap.size (fun _ => True) v0_ r ∧ Below w.heap.size w w' := by
 have HR0 := Aside0.mk hr0
 have HC0 := Aside0.mk hc0
 clear hr0 hc0
 have HB := Aside0.mk (Below.refl w.heap.size w)
 have H : (if 0 ≤ (l0.length : Int) then (if ((l0.length : Int) : Int).toNat ≤ 35184372088832 then (laws_toIntS.l0 k l0 (List.replicate ((l0.length : Int) : Int).toNat 0) 0) else (none)) else (none)) = some r := h
 clear h
 by_cases c2 : 0 ≤ (l0.length : Int)
 ·rw [if_pos c2] at H
  have c2b0 := eq_true c2
  have c2b1 : decide (0 ≤ (l0.length : Int)) = true := decide_eq_true c2
  clear c2
  by_cases c3 : ((l0.length : Int) : Int).toNat ≤ 35184372088832
  ·rw [if_pos c3] at H
   have c3b0 := eq_true c3
   have c3b1 : decide (((l0.length : Int) : Int).toNat ≤ 35184372088832) = true := decide_eq_true c3
   clear c3
   obtain ⟨y239, hy239⟩ : ∃ y_ : List Int, y_ = (List.replicate ((l0.length : Int) : Int).toNat 0) := ⟨_, rfl⟩
   replace H : (laws_toIntS.l0 k l0 y239 0) = some r := by first | (rw [hy239]; with_reducible exact H) | (have H2_ := (Option.bind_some _ _).symm.trans H; rw [hy239]; with_reducible exact H2_) | (have H2_ := (Option.bind_some _ _).symm.trans H; with_reducible exact H2_) | with_reducible exact H | (rw [hy239]; exact H) | exact H
   have Ny239 := Aside0.mk hy239
   clear hy239
   have H' := Aside0.mk H
   clear H
   go_enter Try.func49, Try.ntmps49
   go_wp2_with (first | ((with_reducible refine gate_dst (N := 7) rfl ?_); refine Kd.R_make (Kd.int .i64) _ 3 rfl (N := 7) rfl 23 _ _ rfl (l0.length : Int) rfl rfl Try.underlying23 (.int .i64 0) 8 info3 rfl (by decide) (by omega) 0 (ok := fun _ => True) (okp := fun _ => True) rfl (fun _ hk => hk) trivial (of_decide_eq_true as_) (Nat.le_trans (Nat.mul_le_mul_right _ (of_decide_eq_true as_ : (l0.length : Int).toNat ≤ 35184372088832)) (by omega)) (Below.refl _ _) (Nat.le_refl _) ?_; intro v240 w4 ho5 hb hg_ hnew_; clear hg_ hnew_; (first | rw [← Ny239.out] at ho5 | (simp only [Int.reduceToNat] at ho5; rw [← Ny239.out] at ho5)); have t_ := fc2 (Kd.R_lower ho5 (below_size bb)) (below_step bb hb); clear HB; obtain ⟨HO241, HB⟩ := t_; clear hb ho5))
   go_loopg [4] k (fun kq v4 w' => ∃ (x3_1 : List Int) (x4_1 : Int), v4 = .int .i64 x4_1 ∧ Aside0 (laws_toIntS.l0 kq l0 x3_1 x4_1 = some r) ∧ Aside0 (kq ≤ k) ∧ Aside0 (Kd.R (Kd.int .i64) 3 w' w.heap.size (fun _ => True) v240 x3_1) ∧ Aside0 (Below w.heap.size w w'))
   case atStart => exact ⟨(y239), (0), (by first | rfl | (simp; done) | (simp [*]; done)), H', ⟨Nat.le_refl _⟩, ⟨by (with_reducible repeat (first | apply Kd.R_alloc | apply Kd.R_drewN | apply Kd.R_drew)); exact HO241.out⟩, ⟨bb⟩⟩
   case round =>
    clear H'
    try clear c2
    try clear c2b0
    try clear c2b1
    try clear p2
    try clear c3
    try clear c3b0
    try clear c3b1
    try clear c4
    obtain ⟨x3_1, x4_1, rfl, HA, HK1, HO_3, HB⟩ := hrel
    cases gk with
    | zero => exact absurd HA.out (by simp [laws_toIntS.l0])
    | succ k1 =>
     have H := HA.out
     clear HA
     simp only [laws_toIntS.l0] at H
     by_cases c6 : x4_1 < (l0.length : Int)
     ·rw [if_pos c6] at H
      have c6b0 : decide (x4_1 < (l0.length : Int)) = true := decide_eq_true c6
      clear c6
      by_cases c7 : 0 ≤ x4_1
      ·rw [if_pos c7] at H
       have c7b0 : decide (0 ≤ x4_1) = true := decide_eq_true c7
       clear c7
       by_cases c8 : x4_1 < (x3_1.length : Int)
       ·rw [if_pos c8] at H
        have c8b0 : decide (x4_1 < (x3_1.length : Int)) = true := decide_eq_true c8
        clear c8
        obtain ⟨y243, hy243⟩ : ∃ y_ : List Int, y_ = (x3_1.set (x4_1 : Int).toNat (rd l0 x4_1)) := ⟨_, rfl⟩
        replace H : (laws_toIntS.l0 k1 l0 y243 (wrap64 (x4_1 + 1))) = some r := by first | (rw [hy243]; with_reducible exact H) | (have H2_ := (Option.bind_some _ _).symm.trans H; rw [hy243]; with_reducible exact H2_) | (have H2_ := (Option.bind_some _ _).symm.trans H; with_reducible exact H2_) | with_reducible exact H | (rw [hy243]; exact H) | exact H
        have Ny243 := Aside0.mk hy243
        clear hy243
        have H' := Aside0.mk H
        clear H
        have p242 : 0 ≤ (x4_1 : Int) := of_decide_eq_true as_
        have q242 : x4_1 < (l0.length : Int) := of_decide_eq_true as_
        obtain ⟨ad242, e242, hx242_0⟩ := Kd.at_int HR0.out x4_1 p242 q242
        cases e242
        replace hx242_0 := pw_cell_below HB.out hx242_0
        replace p242 := eq_true p242
        replace q242 := eq_true q242
        have p9 : 0 ≤ (x4_1 : Int) := of_decide_eq_true as_
        have q9 : (x4_1 : Int) < ((x3_1.length : Int) : Int) := of_decide_eq_true as_
        obtain ⟨go9, co9, eo9, gb9, gl9, cl9, HG9⟩ := Kd.R_form HO_3.out (by omega)
        (first | cases eo9 | (injection eo9 with ea_ en_ ec_; (first | subst ea_ | (injection ea_ with ea_; subst ea_)); subst ec_; clear en_))
        have GB9 := Aside0.mk gb9
        have GG9 := Aside0.mk HG9
        clear gb9 gl9 HG9
        obtain ⟨hx9_0, hf9_0⟩ := Kd.R_celln 0 HO_3.out (x4_1 : Int) p9 q9
        replace p9 := eq_true p9
        replace q9 := eq_true q9
        have HP10 := Kd.R_putg HO_3.out (x4_1 : Int) (rd l0 x4_1)
        go_wp2_with (first | ((with_reducible refine gate_store (t := 3) (p := 20) rfl ?_); refine store_event (t := 3) (p := 20) (v := ?vo_w11) (w1 := (wr.setCell ⟨go9, (x4_1 : Int).toNat, none⟩ (.int .i64 (rd l0 x4_1)))) ?hg ?ho ?hn ?hr ?_; (case ho => rfl); (case hg => rfl); (case hn => rfl); (case hr => first | (go_simp; done) | (go_simp; rfl)); intro w11 hw; have hg : wr.grownBy w11 (some go9) := (by rw [hw]; exact HP10.2); have hp_ : Kd.R (Kd.int .i64) 3 w11 w.heap.size (fun _ => True) (.slice (some ⟨go9, 0, none⟩) x3_1.length co9) y243 := (by rw [hw, Ny243.out]; exact HP10.1); clear HP10; have t_ := fc2 (hp_) ((by rw [hw]; exact below_set (HB.out) GB9.out : Below w.heap.size w w11)); clear HO_3 HB; obtain ⟨HO_3, HB⟩ := t_; clear hg hw hp_))
        go_roundg k1
        case measure => have := HK1.out; omega
        case rel => exact ⟨(y243), (wrap64 (x4_1 + 1)), (by first | rfl | (simp; done) | (simp [*]; done)), H', ⟨by have := HK1.out; omega⟩, ⟨by (with_reducible repeat (first | apply Kd.R_alloc | apply Kd.R_drewN | apply Kd.R_drew)); exact HO_3.out⟩, ⟨bb⟩⟩
       ·rw [if_neg c8] at H
        exact absurd H (by simp)
      ·rw [if_neg c7] at H
       exact absurd H (by simp)
     ·rw [if_neg c6] at H
      have c6b0 : decide (x4_1 < (l0.length : Int)) = false := decide_eq_false c6
      clear c6
      obtain rfl := Option.some.inj H
      go_wp2
      go_ret
      exact ⟨_, er, by (with_reducible repeat (first | apply Kd.R_alloc | apply Kd.R_drewN | apply Kd.R_drew)); exact HO_3.out, bb⟩
  ·rw [if_neg c3] at H
   exact absurd H (by simp)
 ·rw [if_neg c2] at H
  exact absurd H (by simp)

/-! ### laws_toNumbers: function 22 -/
def laws_toNumbers.f (k : Nat) (l0_0 : List Int) (l0_1 : List Int) (l0_2 : List Int) : Option (List Int × List Int × List Int) := (laws_toIntS.f k l0_0).bind fun t247 => ((laws_toIntS.f k l0_1).bind fun t250 => ((laws_toIntS.f k l0_2).bind fun t253 => (some (t247, t250, t253))))
set_option maxHeartbeats 8000000 in
set_option maxRecDepth 100000 in
theorem laws_toNumbers.calls (k : Nat) (A0_0 : Option Addr) (c0_0 : Nat) (l0_0 : List Int) (A0_1 : Option Addr) (c0_1 : Nat) (l0_1 : List Int) (A0_2 : Option Addr) (c0_2 : Nat) (l0_2 : List Int) (r1 : List Int) (r2 : List Int) (r3 : List Int) (w : World) (hr0_0 : Kd.C (Kd.int .i64) w A0_0 l0_0.length l0_0) (hc0_0 : l0_0.length ≤ c0_0) (hr0_1 : Kd.C (Kd.int .i64) w A0_1 l0_1.length l0_1) (hc0_1 : l0_1.length ≤ c0_1) (hr0_2 : Kd.C (Kd.int .i64) w A0_2 l0_2.length l0_2) (hc0_2 : l0_2.length ≤ c0_2) (h : laws_toNumbers.f k l0_0 l0_1 l0_2 = some (r1, r2, r3)) :
  Calls Try.prog 22 #[.agg #[.slice A0_0 l0_0.length c0_0, .slice A0_1 l0_1.length c0_1, .slice A0_2 l0_2.length c0_2]] w fun e w' => ∃ v0_ v1_ v2_ : Value, e = .returned (.agg #[v0_, v1_, v2_]) ∧ Kd.R (Kd.int .i64) 3 w' w.heap.size (fun k_ => some k_ ≠ (v1_ : Value).ownBlock ∧ some k_ ≠ (v2_ : Value).ownBlock) v0_ r1 ∧ Kd.R (Kd.int .i64) 3 w' w.heap.size (fun k_ => some k_ ≠ (v0_ : Value).ownBlock ∧ some k_ ≠ (v2_ : Value).ownBlock) v1_ r2 ∧ Kd.R (Kd.int .i64) 3 w' w.heap.size (fun k_ => some k_ ≠ (v0_ : Value).ownBlock ∧ some k_ ≠ (v1_ : Value).ownBlock) v2_ r3 ∧ Below w.heap.size w w' := by
 have hu25 := Try.underlying25
 have hu31 := Try.underlying31
 have HR0_0 := Aside0.mk hr0_0
 have HC0_0 := Aside0.mk hc0_0
 clear hr0_0 hc0_0
 have HR0_1 := Aside0.mk hr0_1
 have HC0_1 := Aside0.mk hc0_1
 clear hr0_1 hc0_1
 have HR0_2 := Aside0.mk hr0_2
 have HC0_2 := Aside0.mk hc0_2
 clear hr0_2 hc0_2
 have HB := Aside0.mk (Below.refl w.heap.size w)
 have H : ((laws_toIntS.f k l0_0).bind fun t247 => ((laws_toIntS.f k l0_1).bind fun t250 => ((laws_toIntS.f k l0_2).bind fun t253 => (some (t247, t250, t253))))) = some (r1, r2, r3) := h
 clear h
 replace H := Option.bind_eq_some_iff.mp H
 obtain ⟨t247, A20, H⟩ := H
 replace H : ((laws_toIntS.f k l0_1).bind fun t250 => ((laws_toIntS.f k l0_2).bind fun t253 => (some (t247, t250, t253)))) = some (r1, r2, r3) := H
 have A2 := Aside0.mk A20
 clear A20
 replace H := Option.bind_eq_some_iff.mp H
 obtain ⟨t250, A30, H⟩ := H
 replace H : ((laws_toIntS.f k l0_2).bind fun t253 => (some (t247, t250, t253))) = some (r1, r2, r3) := H
 have A3 := Aside0.mk A30
 clear A30
 replace H := Option.bind_eq_some_iff.mp H
 obtain ⟨t253, A40, H⟩ := H
 replace H : (some (t247, t250, t253)) = some (r1, r2, r3) := H
 have A4 := Aside0.mk A40
 clear A40
 simp only [Option.some.injEq, Prod.mk.injEq] at H
 obtain ⟨rfl, rfl, rfl⟩ := H
 go_enter Try.func22, Try.ntmps22
 go_wp2_with (first | ((with_reducible refine gate_dst (N := 1) rfl ?_); refine box_event ?hg (N := 1) ?hd (cs := #[.slice A0_0 l0_0.length c0_0, .slice A0_1 l0_1.length c0_1, .slice A0_2 l0_2.length c0_2]) (t := 25) ?hr ?_; (case hd => rfl); (case hg => rfl); (case hr => first | (go_simp; done) | (go_simp; rfl)); intro gb244 hg w5 hbox hb; have t_ := fc4 (below_step bb hb) (hbox) (bg hg : w.heap.size ≤ gb244) (bg hg : w.heap.size ≤ gb244); clear HB; obtain ⟨HB, BK244, GW244, GE244⟩ := t_; clear hb hbox hg) | ((with_reducible refine gate_dst (N := 2) rfl ?_); refine box_event ?hg (N := 2) ?hd (cs := #[.slice none 0 0, .slice none 0 0, .slice none 0 0]) (t := 31) ?hr ?_; (case hd => rfl); (case hg => rfl); (case hr => first | (go_simp; done) | (go_simp; rfl)); intro gb245 hg w6 hbox hb; have t_ := fc7 (bw BK244 hb) (below_step bb hb) (hbox) (bg hg : w.heap.size ≤ gb245) (bg hg : w.heap.size ≤ gb245) ((nl BK244 hg : gb244 ≠ gb245)) ((ng BK244 hg : gb245 ≠ gb244)); clear BK244 HB; obtain ⟨BK244, HB, BK245, GW245, GE245, NB244_245, NB245_244⟩ := t_; clear hb hbox hg) | ((with_reducible refine gate_dst (N := 3) rfl ?_); refine box_event ?hg (N := 3) ?hd (cs := #[.slice none 0 0, .slice none 0 0, .slice none 0 0]) (t := 31) ?hr ?_; (case hd => rfl); (case hg => rfl); (case hr => first | (go_simp; done) | (go_simp; rfl)); intro gb246 hg w7 hbox hb; have t_ := fc10 (bw BK244 hb) (bw BK245 hb) (below_step bb hb) (hbox) (bg hg : w.heap.size ≤ gb246) (bg hg : w.heap.size ≤ gb246) ((nl BK244 hg : gb244 ≠ gb246)) ((ng BK244 hg : gb246 ≠ gb244)) ((nl BK245 hg : gb245 ≠ gb246)) ((ng BK245 hg : gb246 ≠ gb245)); clear BK244 BK245 HB; obtain ⟨BK244, BK245, HB, BK246, GW246, GE246, NB244_246, NB246_244, NB245_246, NB246_245⟩ := t_; clear hb hbox hg; have hnb8 := NB244_245.out; have hnc8 := NB245_244.out; have hnb9 := NB244_246.out; have hnc9 := NB246_244.out; obtain ⟨hcz10_0, hcz10_1, hcz10_2, hfz10_0, hfz10_1, hfz10_2⟩ := bx3 BK244.out) | ((with_reducible refine gate_callee (f := 49) rfl ?_); refine goesL_ (some 6) rfl rfl Try.func49 (by kernel_rfl) rfl #[.slice A0_0 l0_0.length c0_0] rfl ms ?_; (with_reducible refine (laws_toIntS.calls k _ _ l0_0 t247 _ ?side1 ?side2 A2.out).mono ?_); (case side1 => exact kc); (case side2 => exact HC0_0.out); rintro e w11 ⟨v248, rfl, ho0, hb⟩; refine ⟨_, rfl, ?_⟩; have t_ := fc5 (Kd.R_lower ho0 (below_size bb)) (bw BK244 hb) (bw BK245 hb) (bw BK246 hb) (below_step bb hb); clear BK244 BK245 BK246 HB; obtain ⟨HO249, BK244, BK245, BK246, HB⟩ := t_; (try clear hb); (try clear hk); (try clear ho0); obtain ⟨Ao12, co12, eo12⟩ := Kd.R_slice HO249.out; subst eo12; have hnb13 := NB246_245.out; have hnc13 := NB245_246.out; obtain ⟨hcz14_0, hcz14_1, hcz14_2, hfz14_0, hfz14_1, hfz14_2⟩ := bx3 BK246.out; obtain ⟨hcz15_0, hcz15_1, hcz15_2, hfz15_0, hfz15_1, hfz15_2⟩ := bx3 BK244.out) | ((with_reducible refine gate_callee (f := 49) rfl ?_); refine goesL_ (some 10) rfl rfl Try.func49 (by kernel_rfl) rfl #[.slice A0_1 l0_1.length c0_1] rfl ms ?_; (with_reducible refine (laws_toIntS.calls k _ _ l0_1 t250 _ ?side1 ?side2 A3.out).mono ?_); (case side1 => exact Kd.C_below HR0_1.out bb); (case side2 => exact HC0_1.out); rintro e w16 ⟨v251, rfl, ho0, hb⟩; refine ⟨_, rfl, ?_⟩; have t_ := fc6 (Kd.R_elder' (ra (Kd.R_mono (Kd.R_far (p := ⟨gb246, 0, none⟩) (Kd.R_types HO249.out BK246.out (by decide)) fk (.slice Ao12 t247.length co12)) (fun _ h_ => h_.1))) (Kd.R_base ho0) hb) (Kd.R_lower (Kd.R_new' ho0 (Kd.R_lt (ra (Kd.R_mono (Kd.R_far (p := ⟨gb246, 0, none⟩) (Kd.R_types HO249.out BK246.out (by decide)) fk (.slice Ao12 t247.length co12)) (fun _ h_ => h_.1))))) (below_size bb)) (blk_below (g := gb244) (o := .cells #[.slice A0_0 l0_0.length c0_0, .slice A0_1 l0_1.length c0_1, .slice A0_2 l0_2.length c0_2] 25 (0, 0)) (by (with_reducible repeat (first | refine blk_drewN ?_ _ | refine blk_drew ?_ | refine blk_alloc ?_ _)); refine blk_far ?_ NB244_246.out _; exact bk) hb) (blk_below (g := gb245) (o := .cells #[.slice none 0 0, .slice none 0 0, .slice none 0 0] 31 (0, 0)) (by (with_reducible repeat (first | refine blk_drewN ?_ _ | refine blk_drew ?_ | refine blk_alloc ?_ _)); refine blk_far ?_ NB245_246.out _; exact bk) hb) (blk_below (g := gb246) (o := .cells #[.slice Ao12 t247.length co12, .slice none 0 0, .slice none 0 0] 31 (0, 0)) (by (with_reducible repeat (first | refine blk_drewN ?_ _ | refine blk_drew ?_ | refine blk_alloc ?_ _)); refine blk_put (cs := #[.slice none 0 0, .slice none 0 0, .slice none 0 0]) ?_ 0 _ rfl; exact bk) hb) (below_step bb hb); clear HO249 BK244 BK245 BK246 HB; obtain ⟨HO249, HO252, BK244, BK245, BK246, HB⟩ := t_; (try clear hb); (try clear hk); (try clear ho0); obtain ⟨Ao17, co17, eo17⟩ := Kd.R_slice HO252.out; subst eo17; obtain ⟨hcz18_0, hcz18_1, hcz18_2, hfz18_0, hfz18_1, hfz18_2⟩ := bx3 BK246.out; obtain ⟨hcz19_0, hcz19_1, hcz19_2, hfz19_0, hfz19_1, hfz19_2⟩ := bx3 BK244.out) | ((with_reducible refine gate_callee (f := 49) rfl ?_); refine goesL_ (some 14) rfl rfl Try.func49 (by kernel_rfl) rfl #[.slice A0_2 l0_2.length c0_2] rfl ms ?_; (with_reducible refine (laws_toIntS.calls k _ _ l0_2 t253 _ ?side1 ?side2 A4.out).mono ?_); (case side1 => exact Kd.C_below HR0_2.out bb); (case side2 => exact HC0_2.out); rintro e w20 ⟨v254, rfl, ho0, hb⟩; refine ⟨_, rfl, ?_⟩; have t_ := fc7 (Kd.R_elder' (ra (Kd.R_mono (Kd.R_far (p := ⟨gb246, 1, none⟩) (Kd.R_types HO249.out BK246.out (by decide)) fk (.slice Ao17 t250.length co17)) (fun _ h_ => h_.1))) (Kd.R_base ho0) hb) (Kd.R_elder' (ra (Kd.R_mono (Kd.R_far (p := ⟨gb246, 1, none⟩) (Kd.R_types HO252.out BK246.out (by decide)) fk (.slice Ao17 t250.length co17)) (fun _ h_ => h_.1))) (Kd.R_base ho0) hb) (Kd.R_lower (Kd.R_new' (Kd.R_new' ho0 (Kd.R_lt (ra (Kd.R_mono (Kd.R_far (p := ⟨gb246, 1, none⟩) (Kd.R_types HO249.out BK246.out (by decide)) fk (.slice Ao17 t250.length co17)) (fun _ h_ => h_.1))))) (Kd.R_lt (ra (Kd.R_mono (Kd.R_far (p := ⟨gb246, 1, none⟩) (Kd.R_types HO252.out BK246.out (by decide)) fk (.slice Ao17 t250.length co17)) (fun _ h_ => h_.1))))) (below_size bb)) (blk_below (g := gb244) (o := .cells #[.slice A0_0 l0_0.length c0_0, .slice A0_1 l0_1.length c0_1, .slice A0_2 l0_2.length c0_2] 25 (0, 0)) (by (with_reducible repeat (first | refine blk_drewN ?_ _ | refine blk_drew ?_ | refine blk_alloc ?_ _)); refine blk_far ?_ NB244_246.out _; exact bk) hb) (blk_below (g := gb245) (o := .cells #[.slice none 0 0, .slice none 0 0, .slice none 0 0] 31 (0, 0)) (by (with_reducible repeat (first | refine blk_drewN ?_ _ | refine blk_drew ?_ | refine blk_alloc ?_ _)); refine blk_far ?_ NB245_246.out _; exact bk) hb) (blk_below (g := gb246) (o := .cells #[.slice Ao12 t247.length co12, .slice Ao17 t250.length co17, .slice none 0 0] 31 (0, 0)) (by (with_reducible repeat (first | refine blk_drewN ?_ _ | refine blk_drew ?_ | refine blk_alloc ?_ _)); refine blk_put (cs := #[.slice Ao12 t247.length co12, .slice none 0 0, .slice none 0 0]) ?_ 1 _ rfl; exact bk) hb) (below_step bb hb); clear HO249 HO252 BK244 BK245 BK246 HB; obtain ⟨HO249, HO252, HO255, BK244, BK245, BK246, HB⟩ := t_; (try clear hb); (try clear hk); (try clear ho0); obtain ⟨Ao21, co21, eo21⟩ := Kd.R_slice HO255.out; subst eo21; obtain ⟨hcz22_0, hcz22_1, hcz22_2, hfz22_0, hfz22_1, hfz22_2⟩ := bx3 BK246.out; obtain ⟨hcz23_0, hcz23_1, hcz23_2, hfz23_0, hfz23_1, hfz23_2⟩ := bx3 BK245.out))
 refine bodyPost_ret (results_cell_row rfl _ _ gb245 31 #[.slice Ao12 t247.length co12, .slice Ao17 t250.length co17, .slice Ao21 t253.length co21] (0, 0) _ rfl (by (with_reducible repeat (first | refine blk_drewN ?_ _ | refine blk_drew ?_ | refine blk_alloc ?_ _)); refine blk_put (cs := #[.slice Ao12 t247.length co12, .slice Ao17 t250.length co17, .slice none 0 0]) ?_ 2 _ rfl; (with_reducible repeat (first | refine blk_drewN ?_ _ | refine blk_drew ?_ | refine blk_alloc ?_ _)); refine blk_put (cs := #[.slice Ao12 t247.length co12, .slice none 0 0, .slice none 0 0]) ?_ 1 _ rfl; (with_reducible repeat (first | refine blk_drewN ?_ _ | refine blk_drew ?_ | refine blk_alloc ?_ _)); refine blk_put (cs := #[.slice none 0 0, .slice none 0 0, .slice none 0 0]) ?_ 0 _ rfl; (with_reducible repeat (first | refine blk_drewN ?_ _ | refine blk_drew ?_ | refine blk_alloc ?_ _)); refine blk_far ?_ NB245_246.out _; exact bk) Try.underlying31 rfl (by kernel_rfl)) rfl ?_
 exact ⟨_, _, _, er, by (with_reducible repeat (first | apply Kd.R_alloc | apply Kd.R_drewN | apply Kd.R_drew)); exact Kd.R_mono (Kd.R_far (p := ⟨gb245, 2, none⟩) (Kd.R_far (p := ⟨gb245, 1, none⟩) (Kd.R_far (p := ⟨gb245, 0, none⟩) (Kd.R_far (p := ⟨gb246, 2, none⟩) (Kd.R_types (Kd.R_types HO249.out BK246.out (by decide)) BK245.out (by decide)) (fun _ hk => by first | exact hk.1.2 | exact hk) (.slice Ao21 t253.length co21)) fk (.slice Ao12 t247.length co12)) fk (.slice Ao17 t250.length co17)) fk (.slice Ao21 t253.length co21)) (fun _ hk => (And.intro (hk.1.1.1.2) (hk.1.1.2))), by (with_reducible repeat (first | apply Kd.R_alloc | apply Kd.R_drewN | apply Kd.R_drew)); exact Kd.R_mono (Kd.R_far (p := ⟨gb245, 2, none⟩) (Kd.R_far (p := ⟨gb245, 1, none⟩) (Kd.R_far (p := ⟨gb245, 0, none⟩) (Kd.R_far (p := ⟨gb246, 2, none⟩) (Kd.R_types (Kd.R_types HO252.out BK246.out (by decide)) BK245.out (by decide)) (fun _ hk => by first | exact hk.1.2 | exact hk) (.slice Ao21 t253.length co21)) fk (.slice Ao12 t247.length co12)) fk (.slice Ao17 t250.length co17)) fk (.slice Ao21 t253.length co21)) (fun _ hk => (And.intro (hk.1.1.1.2) (hk.1.1.2))), by (with_reducible repeat (first | apply Kd.R_alloc | apply Kd.R_drewN | apply Kd.R_drew)); exact Kd.R_mono (Kd.R_far (p := ⟨gb245, 2, none⟩) (Kd.R_far (p := ⟨gb245, 1, none⟩) (Kd.R_far (p := ⟨gb245, 0, none⟩) (Kd.R_far (p := ⟨gb246, 2, none⟩) (Kd.R_types (Kd.R_types HO255.out BK246.out (by decide)) BK245.out (by decide)) (fun _ hk => by first | exact hk.1.2 | exact hk) (.slice Ao21 t253.length co21)) fk (.slice Ao12 t247.length co12)) fk (.slice Ao17 t250.length co17)) fk (.slice Ao21 t253.length co21)) (fun _ hk => (And.intro (hk.1.1.1.2) (hk.1.1.2))), bb⟩

/-! ### impl_within: function 94 -/
def impl_within.f (a0 : Int) (a1 : Int) (a2 : Int) : Option (Bool) := if a0 ≥ a1 then (some (decide (a0 ≤ a2))) else (some false)
set_option maxHeartbeats 8000000 in
set_option maxRecDepth 100000 in
theorem impl_within.calls (a0 : Int) (a1 : Int) (a2 : Int) (r : Bool) (w : World) (h : impl_within.f a0 a1 a2 = some r) :
  Calls Try.prog 94 #[.int .i64 a0, .int .i64 a1, .int .i64 a2] w fun e w' => e = .returned (.bool r) ∧ Drawn0 w w' := by
 have H : (if a0 ≥ a1 then (some (decide (a0 ≤ a2))) else (some false)) = some r := h
 clear h
 by_cases c4 : a0 ≥ a1
 ·rw [if_pos c4] at H
  have c4b0 : decide (a1 ≤ a0) = true := decide_eq_true c4
  clear c4
  obtain rfl := Option.some.inj H
  go_enter Try.func94, Try.ntmps94
  go_wp2
  go_ret
  exact ⟨by first | rfl | (simp; done) | (simp [*]; done), by repeat (first | exact Drawn0.refl _ | apply Drawn0.step)⟩
 ·rw [if_neg c4] at H
  have c4b0 : decide (a1 ≤ a0) = false := decide_eq_false c4
  clear c4
  obtain rfl := Option.some.inj H
  go_enter Try.func94, Try.ntmps94
  go_wp2
  go_ret
  exact ⟨by first | rfl | (simp; done) | (simp [*]; done), by repeat (first | exact Drawn0.refl _ | apply Drawn0.step)⟩

/-! ### impl_Node_impl_TreeOk_1: function 95, handed function 96 -/
def impl_Node_impl_TreeOk_1.f (l0 : List S50) (a0 a1 a2 : Int) : Option (Bool) := some (l0.any fun x => decide (x.f0 = a0) && decide (x.f1 = a1))
theorem impl_Node_impl_TreeOk_1.calls (A0 : Option Addr) (c0 : Nat) (l0 : List S50) (gb : Nat) (a0 a1 a2 : Int) (r : Bool) (w : World) (hr0 : Kd.C k50 w A0 l0.length l0) (hc0 : l0.length ≤ c0)
  (hb : w.heap[gb]? = some (.cells #[.int .i64 a0, .int .i64 a1, .int .i64 a2] 50 (0, 0))) (h : impl_Node_impl_TreeOk_1.f l0 a0 a1 a2 = some r) :
  Calls Try.prog 95 #[.slice A0 l0.length c0, .func (.func 96) #[] #[.pointer (some ⟨gb, 0, none⟩)]] w fun e w' => e = .returned (.bool r) ∧ Below w.heap.size w w' := by
 injection h with h
 subst h
 have hn : Fns.Nodes w A0 (l0.map fun x => (x.f0, x.f1, x.f2)) := by
  refine ⟨by rw [List.length_map]; exact hr0.2.1, fun hp => ?_⟩
  rw [List.length_map] at hp
  obtain ⟨ad, e, _⟩ := at_T50 hr0 0 (by omega) (by omega)
  refine ⟨ad, e, fun j hj => ?_⟩
  rw [List.length_map] at hj
  obtain ⟨ad', e', h0, h1, h2⟩ := at_T50 hr0 (j : Int) (by omega) (by omega)
  rw [e] at e'
  injection e' with e'
  subst e'
  have hx : rd_T50 l0 (j : Int) = l0[j] := by unfold rd_T50; simp [List.getD_eq_getElem?_getD, hj]
  rw [hx] at h0 h1 h2
  simp only [List.getElem_map]
  simp only [Int.toNat_natCast] at h0 h1 h2
  exact ⟨h0, h1, h2⟩
 have hh := Fns.contains_node gb a0 a1 a2 A0 c0 _ w hn (by rw [List.length_map]; exact hc0) hb
 rw [List.length_map, List.any_map] at hh
 exact hh

end Go.Proofs.Ytbbppknnkghkjaa.PFnExactDownToId
