/- Printed by a program of this session out of the translation: each Go function as a Lean function, with the proof that Go comes to just its answer (no condition beyond what each theorem says). -/
import Derived.Test.YtbgmbhhbonpoaaaPFnExactPathBetweenx0
import Derived.Test.YtbgmbhhbonpoaaaPFnExactPathBetweenx1
import Derived.Test.YtbgmbhhbonpoaaaPFnExactPathBetweenx5
namespace Go.Proofs.Ytbgmbhhbonpoaaa.PFnExactPathBetween
open Go.RowKit Go.Proofs.YtbgmbhhbonpoaaaW.PrintWords Go.Proofs.YtbgmbhhbonpoaaaW.PrintLast Go.Proofs.YtbgmbhhbonpoaaaW.PrintMore
attribute [local go_sem] max2_int min2_int max_two min_two max_three min_three max_four min_four   -- for this text's walks alone
set_option linter.unusedVariables false
set_option linter.unusedSimpArgs false

attribute [local go_sem high] eqA38
/-! ### spec_TreeOk: function 12 -/
mutual
def spec_TreeOk.j0 : Nat → List (S38) → Bool → Option (Bool)
  | 0, _, _ => none
  | k + 1, x0, x16 => if x16 = true then (some false) else (spec_TreeOk.l0 k x0 1)
def spec_TreeOk.l0 : Nat → List (S38) → Int → Option (Bool)
  | 0, _, _ => none
  | k + 1, x0, x3 => if x3 < (x0.length : Int) then (if 0 ≤ x3 then ((spec_l01In.f ((rd_T38 x0 x3).f0) 0 (wrap64 (x3 - 1))).bind fun t200 => (if t200 = true then (if 0 ≤ ((rd_T38 x0 x3).f0) then (if ((rd_T38 x0 x3).f0) < (x0.length : Int) then (if ((rd_T38 x0 ((rd_T38 x0 x3).f0)).f2) = 0 then ((spec_l01In.f ((rd_T38 x0 x3).f1) 0 3).bind fun t202 => (if t202 = true then ((spec_l01In.f ((rd_T38 x0 x3).f2) 0 4).bind fun t203 => (spec_TreeOk.j2 k x0 x3 (!t203) ((rd_T38 x0 x3).f0) ((rd_T38 x0 x3).f1) ((rd_T38 x0 x3).f2))) else (spec_TreeOk.j2 k x0 x3 true ((rd_T38 x0 x3).f0) ((rd_T38 x0 x3).f1) ((rd_T38 x0 x3).f2)))) else (spec_TreeOk.j2 k x0 x3 true ((rd_T38 x0 x3).f0) ((rd_T38 x0 x3).f1) ((rd_T38 x0 x3).f2))) else (none)) else (none)) else (spec_TreeOk.j2 k x0 x3 true ((rd_T38 x0 x3).f0) ((rd_T38 x0 x3).f1) ((rd_T38 x0 x3).f2)))) else (none)) else (some true)
def spec_TreeOk.j2 : Nat → List (S38) → Int → Bool → Int → Int → Int → Option (Bool)
  | 0, _, _, _, _, _, _ => none
  | k + 1, x0, x3, x53, x200000, x200001, x200002 => if x53 = true then (some false) else (spec_TreeOk.l1 k x0 x3 1 x200000 x200001 x200002)
def spec_TreeOk.l1 : Nat → List (S38) → Int → Int → Int → Int → Int → Option (Bool)
  | 0, _, _, _, _, _, _ => none
  | k + 1, x0, x3, x5, x200000, x200001, x200002 => if x5 < x3 then (if 0 ≤ x5 then (if x5 < (x0.length : Int) then (if ((rd_T38 x0 x5).f0) = x200000 then (if ((rd_T38 x0 x5).f1) = x200001 then (some false) else (spec_TreeOk.l1 k x0 x3 (wrap64 (x5 + 1)) x200000 x200001 x200002)) else (spec_TreeOk.l1 k x0 x3 (wrap64 (x5 + 1)) x200000 x200001 x200002)) else (none)) else (none)) else (spec_TreeOk.l0 k x0 (wrap64 (x3 + 1)))
end
def spec_TreeOk.f (k : Nat) (l0 : List (S38)) : Option (Bool) := (spec_l01In.f (l0.length : Int) 1 12).bind fun t196 => (if t196 = true then (if 0 < (l0.length : Int) then (spec_TreeOk.j0 k l0 (!(((rd_T38 l0 0).f0) == (-1)) || (!(((rd_T38 l0 0).f1) == 0) || (!(((rd_T38 l0 0).f2) == 0))))) else (none)) else (spec_TreeOk.j0 k l0 true))
theorem spec_TreeOk.mono_l : ∀ k, (∀ y0 y1, LeO (spec_TreeOk.j0 k y0 y1) (spec_TreeOk.j0 (k + 1) y0 y1)) ∧ (∀ y0 y1, LeO (spec_TreeOk.l0 k y0 y1) (spec_TreeOk.l0 (k + 1) y0 y1)) ∧ (∀ y0 y1 y2 y3 y4 y5, LeO (spec_TreeOk.j2 k y0 y1 y2 y3 y4 y5) (spec_TreeOk.j2 (k + 1) y0 y1 y2 y3 y4 y5)) ∧ (∀ y0 y1 y2 y3 y4 y5, LeO (spec_TreeOk.l1 k y0 y1 y2 y3 y4 y5) (spec_TreeOk.l1 (k + 1) y0 y1 y2 y3 y4 y5))
  | 0 => ⟨fun _ _ r h => by simp [spec_TreeOk.j0] at h, fun _ _ r h => by simp [spec_TreeOk.l0] at h, fun _ _ _ _ _ _ r h => by simp [spec_TreeOk.j2] at h, fun _ _ _ _ _ _ r h => by simp [spec_TreeOk.l1] at h⟩
  | k + 1 => by
    obtain ⟨ih0, ih1, ih2, ih3⟩ := spec_TreeOk.mono_l k
    refine ⟨?_, ?_, ?_, ?_⟩
    · intro y0 y1
      unfold spec_TreeOk.j0
      repeat' first
      | (with_reducible exact ih0 _ _)
      | (with_reducible exact ih1 _ _)
      | (with_reducible exact ih2 _ _ _ _ _ _)
      | (with_reducible exact ih3 _ _ _ _ _ _)
      | (with_reducible exact LeO.refl _)
      | (with_reducible exact LeO.none _)
      | (with_reducible refine LeO.ite ?_ ?_)
      | (with_reducible refine LeO.bind ?_ (fun _ => ?_))
      | exact ih0 _ _
      | exact ih1 _ _
      | exact ih2 _ _ _ _ _ _
      | exact ih3 _ _ _ _ _ _
      | exact LeO.none _
      | refine LeO.ite ?_ ?_
      | refine LeO.bind ?_ (fun _ => ?_)
    · intro y0 y1
      unfold spec_TreeOk.l0
      repeat' first
      | (with_reducible exact ih0 _ _)
      | (with_reducible exact ih1 _ _)
      | (with_reducible exact ih2 _ _ _ _ _ _)
      | (with_reducible exact ih3 _ _ _ _ _ _)
      | (with_reducible exact LeO.refl _)
      | (with_reducible exact LeO.none _)
      | (with_reducible refine LeO.ite ?_ ?_)
      | (with_reducible refine LeO.bind ?_ (fun _ => ?_))
      | exact ih0 _ _
      | exact ih1 _ _
      | exact ih2 _ _ _ _ _ _
      | exact ih3 _ _ _ _ _ _
      | exact LeO.none _
      | refine LeO.ite ?_ ?_
      | refine LeO.bind ?_ (fun _ => ?_)
    · intro y0 y1 y2 y3 y4 y5
      unfold spec_TreeOk.j2
      repeat' first
      | (with_reducible exact ih0 _ _)
      | (with_reducible exact ih1 _ _)
      | (with_reducible exact ih2 _ _ _ _ _ _)
      | (with_reducible exact ih3 _ _ _ _ _ _)
      | (with_reducible exact LeO.refl _)
      | (with_reducible exact LeO.none _)
      | (with_reducible refine LeO.ite ?_ ?_)
      | (with_reducible refine LeO.bind ?_ (fun _ => ?_))
      | exact ih0 _ _
      | exact ih1 _ _
      | exact ih2 _ _ _ _ _ _
      | exact ih3 _ _ _ _ _ _
      | exact LeO.none _
      | refine LeO.ite ?_ ?_
      | refine LeO.bind ?_ (fun _ => ?_)
    · intro y0 y1 y2 y3 y4 y5
      unfold spec_TreeOk.l1
      repeat' first
      | (with_reducible exact ih0 _ _)
      | (with_reducible exact ih1 _ _)
      | (with_reducible exact ih2 _ _ _ _ _ _)
      | (with_reducible exact ih3 _ _ _ _ _ _)
      | (with_reducible exact LeO.refl _)
      | (with_reducible exact LeO.none _)
      | (with_reducible refine LeO.ite ?_ ?_)
      | (with_reducible refine LeO.bind ?_ (fun _ => ?_))
      | exact ih0 _ _
      | exact ih1 _ _
      | exact ih2 _ _ _ _ _ _
      | exact ih3 _ _ _ _ _ _
      | exact LeO.none _
      | refine LeO.ite ?_ ?_
      | refine LeO.bind ?_ (fun _ => ?_)
theorem spec_TreeOk.mono : ∀ a0 k, LeO (spec_TreeOk.f k a0) (spec_TreeOk.f (k + 1) a0) := by
  intro a0 k
  obtain ⟨ih0, ih1, ih2, ih3⟩ := spec_TreeOk.mono_l k
  unfold spec_TreeOk.f
  repeat' first
      | (with_reducible exact ih0 _ _)
      | (with_reducible exact ih1 _ _)
      | (with_reducible exact ih2 _ _ _ _ _ _)
      | (with_reducible exact ih3 _ _ _ _ _ _)
      | (with_reducible exact LeO.refl _)
      | (with_reducible exact LeO.none _)
      | (with_reducible refine LeO.ite ?_ ?_)
      | (with_reducible refine LeO.bind ?_ (fun _ => ?_))
      | exact ih0 _ _
      | exact ih1 _ _
      | exact ih2 _ _ _ _ _ _
      | exact ih3 _ _ _ _ _ _
      | exact LeO.none _
      | refine LeO.ite ?_ ?_
      | refine LeO.bind ?_ (fun _ => ?_)
set_option maxHeartbeats 8000000 in
set_option maxRecDepth 100000 in
theorem spec_TreeOk.calls (k : Nat) (A0 : Option Addr) (c0 : Nat) (l0 : List (S38)) (r : Bool) (w : World) (hr0 : Kd.C k38 w A0 l0.length l0) (hc0 : l0.length ≤ c0) (h : spec_TreeOk.f k l0 = some r) :
    Calls Try.prog 12 #[.slice A0 l0.length c0] w fun e w' => e = .returned (.bool r) ∧ Below w.heap.size w w' := by
  have hu38 := Try.underlying38
  have HR0 := Aside0.mk hr0
  have HC0 := Aside0.mk hc0
  clear hr0 hc0
  have HB := Aside0.mk (Below.refl w.heap.size w)
  have H : ((spec_l01In.f (l0.length : Int) 1 12).bind fun t196 => (if t196 = true then (if 0 < (l0.length : Int) then (spec_TreeOk.j0 k l0 (!(((rd_T38 l0 0).f0) == (-1)) || (!(((rd_T38 l0 0).f1) == 0) || (!(((rd_T38 l0 0).f2) == 0))))) else (none)) else (spec_TreeOk.j0 k l0 true))) = some r := h
  clear h
  have HC2 := Aside0.mk H
  clear H
  go_enter Try.func12, Try.ntmps12
  go_upto_region 1 with (fail)
  repeat (go_quiet (fail); go_upto_region 1 with (fail))
  go_cut [16] (fun v16 wc => ∃ (kq : Nat) (x16_1 : Bool), v16 = .bool x16_1 ∧ Aside0 (spec_TreeOk.j0 kq l0 x16_1 = some r) ∧ Aside0 (kq ≤ k) ∧ Aside0 (Below w.heap.size w wc))
  case first =>
    have H := HC2.out
    clear HC2
    replace H := Option.bind_eq_some_iff.mp H
    obtain ⟨t196, A30, H⟩ := H
    replace H : (if t196 = true then (if 0 < (l0.length : Int) then (spec_TreeOk.j0 k l0 (!(((rd_T38 l0 0).f0) == (-1)) || (!(((rd_T38 l0 0).f1) == 0) || (!(((rd_T38 l0 0).f2) == 0))))) else (none)) else (spec_TreeOk.j0 k l0 true)) = some r := H
    have A3 := Aside0.mk A30
    clear A30
    by_cases c4 : t196 = true
    · subst c4
      have H1 : (if 0 < (l0.length : Int) then (spec_TreeOk.j0 k l0 (!(((rd_T38 l0 0).f0) == (-1)) || (!(((rd_T38 l0 0).f1) == 0) || (!(((rd_T38 l0 0).f2) == 0))))) else (none)) = some r := by rw [if_pos rfl] at H; exact H
      clear H
      have H := H1
      clear H1
      by_cases c5 : 0 < (l0.length : Int)
      · rw [if_pos c5] at H
        have c5b0 : decide (0 < (l0.length : Int)) = true := decide_eq_true c5
        have c5b1 : decide (0 < l0.length) = true := decide_eq_true (by omega)
        clear c5
        (first | rw [c5b0] | (simp only [i64_w, i32_w]; rw [c5b0]) | skip)
        have H' := Aside0.mk H
        clear H
        go_wp2_with (first | (go_at_call 40; (with_reducible refine (spec_l01In.calls (l0.length : Int) 1 12 true _ A3.out).mono ?_); rintro e w' ⟨rfl, ⟨nd, rfl⟩⟩; (try first | exact ⟨rfl, _, World.drewN_drewN _ _ _⟩ | exact ⟨rfl, _, Eq.trans (World.drewN_drewN _ _ _) (congrArg (World.drewN _) (Nat.add_assoc _ _ _))⟩); have p197 : 0 ≤ (0 : Int) := (by omega); have q197 : 0 < (l0.length : Int) := of_decide_eq_true (by first | (with_reducible assumption) | assumption); obtain ⟨ad197, e197, hx197_0, hx197_1, hx197_2⟩ := at_T38 HR0.out 0 p197 q197; cases e197; have qi197 : (0 < l0.length) = True := eq_true (by omega); (try rw [show ((0 : Int)).toNat = 0 from rfl] at hx197_0); (try rw [show 0 * 3 = 0 from rfl] at hx197_0); (try rw [Addr.add_zero'] at hx197_0); (try rw [show ((0 : Int)).toNat = 0 from rfl] at hx197_1); (try rw [show 0 * 3 = 0 from rfl] at hx197_1); (try rw [Addr.add_zero'] at hx197_1); (try rw [show ((0 : Int)).toNat = 0 from rfl] at hx197_2); (try rw [show 0 * 3 = 0 from rfl] at hx197_2); (try rw [Addr.add_zero'] at hx197_2); replace hx197_0 := (HB.out.cell (World.block_lt_of_cell? w _ hx197_0)).trans hx197_0; replace hx197_1 := (HB.out.cell (World.block_lt_of_cell? w _ hx197_1)).trans hx197_1; replace hx197_2 := (HB.out.cell (World.block_lt_of_cell? w _ hx197_2)).trans hx197_2; replace p197 := eq_true p197; replace q197 := eq_true q197))
        repeat (go_quiet (first | (go_at_call 40; (with_reducible refine (spec_l01In.calls (l0.length : Int) 1 12 true _ A3.out).mono ?_); rintro e w' ⟨rfl, ⟨nd, rfl⟩⟩; (try first | exact ⟨rfl, _, World.drewN_drewN _ _ _⟩ | exact ⟨rfl, _, Eq.trans (World.drewN_drewN _ _ _) (congrArg (World.drewN _) (Nat.add_assoc _ _ _))⟩); have p197 : 0 ≤ (0 : Int) := (by omega); have q197 : 0 < (l0.length : Int) := of_decide_eq_true (by first | (with_reducible assumption) | assumption); obtain ⟨ad197, e197, hx197_0, hx197_1, hx197_2⟩ := at_T38 HR0.out 0 p197 q197; cases e197; have qi197 : (0 < l0.length) = True := eq_true (by omega); (try rw [show ((0 : Int)).toNat = 0 from rfl] at hx197_0); (try rw [show 0 * 3 = 0 from rfl] at hx197_0); (try rw [Addr.add_zero'] at hx197_0); (try rw [show ((0 : Int)).toNat = 0 from rfl] at hx197_1); (try rw [show 0 * 3 = 0 from rfl] at hx197_1); (try rw [Addr.add_zero'] at hx197_1); (try rw [show ((0 : Int)).toNat = 0 from rfl] at hx197_2); (try rw [show 0 * 3 = 0 from rfl] at hx197_2); (try rw [Addr.add_zero'] at hx197_2); replace hx197_0 := (HB.out.cell (World.block_lt_of_cell? w _ hx197_0)).trans hx197_0; replace hx197_1 := (HB.out.cell (World.block_lt_of_cell? w _ hx197_1)).trans hx197_1; replace hx197_2 := (HB.out.cell (World.block_lt_of_cell? w _ hx197_2)).trans hx197_2; replace p197 := eq_true p197; replace q197 := eq_true q197)); try go_wp2_with (first | (go_at_call 40; (with_reducible refine (spec_l01In.calls (l0.length : Int) 1 12 true _ A3.out).mono ?_); rintro e w' ⟨rfl, ⟨nd, rfl⟩⟩; (try first | exact ⟨rfl, _, World.drewN_drewN _ _ _⟩ | exact ⟨rfl, _, Eq.trans (World.drewN_drewN _ _ _) (congrArg (World.drewN _) (Nat.add_assoc _ _ _))⟩); have p197 : 0 ≤ (0 : Int) := (by omega); have q197 : 0 < (l0.length : Int) := of_decide_eq_true (by first | (with_reducible assumption) | assumption); obtain ⟨ad197, e197, hx197_0, hx197_1, hx197_2⟩ := at_T38 HR0.out 0 p197 q197; cases e197; have qi197 : (0 < l0.length) = True := eq_true (by omega); (try rw [show ((0 : Int)).toNat = 0 from rfl] at hx197_0); (try rw [show 0 * 3 = 0 from rfl] at hx197_0); (try rw [Addr.add_zero'] at hx197_0); (try rw [show ((0 : Int)).toNat = 0 from rfl] at hx197_1); (try rw [show 0 * 3 = 0 from rfl] at hx197_1); (try rw [Addr.add_zero'] at hx197_1); (try rw [show ((0 : Int)).toNat = 0 from rfl] at hx197_2); (try rw [show 0 * 3 = 0 from rfl] at hx197_2); (try rw [Addr.add_zero'] at hx197_2); replace hx197_0 := (HB.out.cell (World.block_lt_of_cell? w _ hx197_0)).trans hx197_0; replace hx197_1 := (HB.out.cell (World.block_lt_of_cell? w _ hx197_1)).trans hx197_1; replace hx197_2 := (HB.out.cell (World.block_lt_of_cell? w _ hx197_2)).trans hx197_2; replace p197 := eq_true p197; replace q197 := eq_true q197)))
        go_meet
        case rel => exact ⟨_, ((!(((rd_T38 l0 0).f0) == (-1)) || (!(((rd_T38 l0 0).f1) == 0) || (!(((rd_T38 l0 0).f2) == 0))))), (by first | rfl | (simp; done) | (simp [*]; done)), H', ⟨by first | omega | exact Nat.le_refl _⟩, ⟨by repeat (first | (with_reducible first | exact HB.out | apply below_alloc | apply pw_below_drewN | apply below_drew1) | exact HB.out)⟩⟩
      · rw [if_neg c5] at H
        exact absurd H (by simp)
    · replace c4 := Bool.eq_false_iff.mpr c4
      subst c4
      have H1 : (spec_TreeOk.j0 k l0 true) = some r := by rw [if_neg (show ¬ (false = true) by decide)] at H; exact H
      clear H
      have H := H1
      clear H1
      have H' := Aside0.mk H
      clear H
      go_wp2_with (first | (go_at_call 40; (with_reducible refine (spec_l01In.calls (l0.length : Int) 1 12 false _ A3.out).mono ?_); rintro e w' ⟨rfl, ⟨nd, rfl⟩⟩; (try first | exact ⟨rfl, _, World.drewN_drewN _ _ _⟩ | exact ⟨rfl, _, Eq.trans (World.drewN_drewN _ _ _) (congrArg (World.drewN _) (Nat.add_assoc _ _ _))⟩)))
      repeat (go_quiet (first | (go_at_call 40; (with_reducible refine (spec_l01In.calls (l0.length : Int) 1 12 false _ A3.out).mono ?_); rintro e w' ⟨rfl, ⟨nd, rfl⟩⟩; (try first | exact ⟨rfl, _, World.drewN_drewN _ _ _⟩ | exact ⟨rfl, _, Eq.trans (World.drewN_drewN _ _ _) (congrArg (World.drewN _) (Nat.add_assoc _ _ _))⟩))); try go_wp2_with (first | (go_at_call 40; (with_reducible refine (spec_l01In.calls (l0.length : Int) 1 12 false _ A3.out).mono ?_); rintro e w' ⟨rfl, ⟨nd, rfl⟩⟩; (try first | exact ⟨rfl, _, World.drewN_drewN _ _ _⟩ | exact ⟨rfl, _, Eq.trans (World.drewN_drewN _ _ _) (congrArg (World.drewN _) (Nat.add_assoc _ _ _))⟩))))
      go_meet
      case rel => exact ⟨_, (true), (by first | rfl | (simp; done) | (simp [*]; done)), H', ⟨by first | omega | exact Nat.le_refl _⟩, ⟨by repeat (first | (with_reducible first | exact HB.out | apply below_alloc | apply pw_below_drewN | apply below_drew1) | exact HB.out)⟩⟩
  case rest =>
    clear HC2
    try clear c1
    try clear p1
    try clear q1
    try clear hx1
    try clear qi1
    try clear p2
    try clear c4
    try clear c5
    try clear c5b0
    try clear c5b1
    try clear hx197_0
    try clear hx197_1
    try clear hx197_2
    try clear p197
    try clear q197
    obtain ⟨kq, x16_1, rfl, HA, HJ1, HB⟩ := hcut
    cases kq with
    | zero => exact absurd HA.out (by simp [spec_TreeOk.j0])
    | succ kj1 =>
      have H := HA.out
      clear HA
      simp only [spec_TreeOk.j0] at H
      by_cases c6 : x16_1 = true
      · subst c6
        have H1 : (some false) = some r := by rw [if_pos rfl] at H; exact H
        clear H
        have H := H1
        clear H1
        obtain rfl := Option.some.inj H
        go_wp2
        repeat (go_quiet (fail); try go_wp2)
        go_ret
        exact ⟨by first | rfl | (simp [errW_none, errW_some] <;> rfl) | (simp [*, errW_none, errW_some] <;> rfl), by repeat (first | (with_reducible first | exact HB.out | apply below_alloc | apply pw_below_drewN | apply below_drew1) | exact HB.out)⟩
      · replace c6 := Bool.eq_false_iff.mpr c6
        subst c6
        have H1 : (spec_TreeOk.l0 kj1 l0 1) = some r := by rw [if_neg (show ¬ (false = true) by decide)] at H; exact H
        clear H
        have H := H1
        clear H1
        have H' := Aside0.mk H
        clear H
        go_wp2
        repeat (go_quiet (fail); try go_wp2)
        go_loopg [3] kj1 (fun kq v3 w' => ∃ (x3_2 : Int), v3 = .int .i64 x3_2 ∧ Aside0 (spec_TreeOk.l0 kq l0 x3_2 = some r) ∧ Aside0 (kq ≤ kj1) ∧ Aside0 (Below w.heap.size w w'))
        case atStart => exact ⟨(1), (by first | rfl | (simp; done) | (simp [*]; done)), H', ⟨Nat.le_refl _⟩, ⟨by repeat (first | (with_reducible first | exact HB.out | apply below_alloc | apply pw_below_drewN | apply below_drew1) | exact HB.out)⟩⟩
        case round =>
          clear H'
          try clear c1
          try clear p1
          try clear q1
          try clear hx1
          try clear qi1
          try clear p2
          try clear c4
          try clear c5
          try clear c5b0
          try clear c5b1
          try clear c6
          try clear hx197_0
          try clear hx197_1
          try clear hx197_2
          try clear p1
          try clear p197
          try clear p2
          try clear q1
          try clear q197
          obtain ⟨x3_2, rfl, HA, HK2, HB⟩ := hrel
          cases gk with
          | zero => exact absurd HA.out (by simp [spec_TreeOk.l0])
          | succ k2 =>
            have H := HA.out
            clear HA
            simp only [spec_TreeOk.l0] at H
            by_cases c7 : x3_2 < (l0.length : Int)
            · rw [if_pos c7] at H
              have c7b0 : decide (x3_2 < (l0.length : Int)) = true := decide_eq_true c7
              clear c7
              by_cases c8 : 0 ≤ x3_2
              · rw [if_pos c8] at H
                have c8b0 : decide (0 ≤ x3_2) = true := decide_eq_true c8
                clear c8
                have HC9 := Aside0.mk H
                clear H
                have p198 : 0 ≤ (x3_2 : Int) := of_decide_eq_true (by first | (with_reducible assumption) | assumption)
                have q198 : x3_2 < (l0.length : Int) := of_decide_eq_true (by first | (with_reducible assumption) | assumption)
                obtain ⟨ad198, e198, hx198_0, hx198_1, hx198_2⟩ := at_T38 HR0.out x3_2 p198 q198
                cases e198
                replace hx198_0 := (HB.out.cell (World.block_lt_of_cell? w _ hx198_0)).trans hx198_0
                replace hx198_1 := (HB.out.cell (World.block_lt_of_cell? w _ hx198_1)).trans hx198_1
                replace hx198_2 := (HB.out.cell (World.block_lt_of_cell? w _ hx198_2)).trans hx198_2
                replace p198 := eq_true p198
                replace q198 := eq_true q198
                go_upto_region 7 with (first | ((with_reducible refine gate_dst (N := 4) rfl ?_); refine box_event ?hg (N := 4) ?hd (cs := #[.int .i64 0, .int .i64 0, .int .i64 0]) (t := 38) ?hr ?_; (case hd => rfl); (case hg => rfl); (case hr => first | (go_simp; done) | (go_simp; rfl)); intro gb199 hg w10 hbox hb; have n0_ := Aside0.mk (below_step (by repeat (first | (with_reducible first | exact HB.out | apply below_alloc | apply pw_below_drewN | apply below_drew1) | exact HB.out)) hb); have n1_ := Aside0.mk (hbox); have n2_ := Aside0.mk ((by rw [hg]; exact (below_size (by repeat (first | (with_reducible first | exact HB.out | apply below_alloc | apply pw_below_drewN | apply below_drew1) | exact HB.out))) : w.heap.size ≤ gb199)); have n3_ := Aside0.mk ((by rw [hg]; exact (below_size (by repeat (first | (with_reducible first | exact HB.out | apply below_alloc | apply pw_below_drewN | apply below_drew1) | exact HB.out))) : w.heap.size ≤ gb199)); clear HB; have HB := n0_; have BK199 := n1_; have GW199 := n2_; have GE199 := n3_; clear n0_ n1_ n2_ n3_; clear hb hbox hg; have hcz11_0 : w10.cell? ⟨gb199, 0, none⟩ = some (.int .i64 0) := (blk_cell BK199.out 0).trans rfl; have hcz11_1 : w10.cell? ⟨gb199, 1, none⟩ = some (.int .i64 0) := (blk_cell BK199.out 1).trans rfl; have hcz11_2 : w10.cell? ⟨gb199, 2, none⟩ = some (.int .i64 0) := (blk_cell BK199.out 2).trans rfl; have hfz11_0 := blk_frozen BK199.out 0; have hfz11_1 := blk_frozen BK199.out 1; have hfz11_2 := blk_frozen BK199.out 2))
                repeat (go_quiet (first | ((with_reducible refine gate_dst (N := 4) rfl ?_); refine box_event ?hg (N := 4) ?hd (cs := #[.int .i64 0, .int .i64 0, .int .i64 0]) (t := 38) ?hr ?_; (case hd => rfl); (case hg => rfl); (case hr => first | (go_simp; done) | (go_simp; rfl)); intro gb199 hg w10 hbox hb; have n0_ := Aside0.mk (below_step (by repeat (first | (with_reducible first | exact HB.out | apply below_alloc | apply pw_below_drewN | apply below_drew1) | exact HB.out)) hb); have n1_ := Aside0.mk (hbox); have n2_ := Aside0.mk ((by rw [hg]; exact (below_size (by repeat (first | (with_reducible first | exact HB.out | apply below_alloc | apply pw_below_drewN | apply below_drew1) | exact HB.out))) : w.heap.size ≤ gb199)); have n3_ := Aside0.mk ((by rw [hg]; exact (below_size (by repeat (first | (with_reducible first | exact HB.out | apply below_alloc | apply pw_below_drewN | apply below_drew1) | exact HB.out))) : w.heap.size ≤ gb199)); clear HB; have HB := n0_; have BK199 := n1_; have GW199 := n2_; have GE199 := n3_; clear n0_ n1_ n2_ n3_; clear hb hbox hg; have hcz11_0 : w10.cell? ⟨gb199, 0, none⟩ = some (.int .i64 0) := (blk_cell BK199.out 0).trans rfl; have hcz11_1 : w10.cell? ⟨gb199, 1, none⟩ = some (.int .i64 0) := (blk_cell BK199.out 1).trans rfl; have hcz11_2 : w10.cell? ⟨gb199, 2, none⟩ = some (.int .i64 0) := (blk_cell BK199.out 2).trans rfl; have hfz11_0 := blk_frozen BK199.out 0; have hfz11_1 := blk_frozen BK199.out 1; have hfz11_2 := blk_frozen BK199.out 2)); go_upto_region 7 with (first | ((with_reducible refine gate_dst (N := 4) rfl ?_); refine box_event ?hg (N := 4) ?hd (cs := #[.int .i64 0, .int .i64 0, .int .i64 0]) (t := 38) ?hr ?_; (case hd => rfl); (case hg => rfl); (case hr => first | (go_simp; done) | (go_simp; rfl)); intro gb199 hg w10 hbox hb; have n0_ := Aside0.mk (below_step (by repeat (first | (with_reducible first | exact HB.out | apply below_alloc | apply pw_below_drewN | apply below_drew1) | exact HB.out)) hb); have n1_ := Aside0.mk (hbox); have n2_ := Aside0.mk ((by rw [hg]; exact (below_size (by repeat (first | (with_reducible first | exact HB.out | apply below_alloc | apply pw_below_drewN | apply below_drew1) | exact HB.out))) : w.heap.size ≤ gb199)); have n3_ := Aside0.mk ((by rw [hg]; exact (below_size (by repeat (first | (with_reducible first | exact HB.out | apply below_alloc | apply pw_below_drewN | apply below_drew1) | exact HB.out))) : w.heap.size ≤ gb199)); clear HB; have HB := n0_; have BK199 := n1_; have GW199 := n2_; have GE199 := n3_; clear n0_ n1_ n2_ n3_; clear hb hbox hg; have hcz11_0 : w10.cell? ⟨gb199, 0, none⟩ = some (.int .i64 0) := (blk_cell BK199.out 0).trans rfl; have hcz11_1 : w10.cell? ⟨gb199, 1, none⟩ = some (.int .i64 0) := (blk_cell BK199.out 1).trans rfl; have hcz11_2 : w10.cell? ⟨gb199, 2, none⟩ = some (.int .i64 0) := (blk_cell BK199.out 2).trans rfl; have hfz11_0 := blk_frozen BK199.out 0; have hfz11_1 := blk_frozen BK199.out 1; have hfz11_2 := blk_frozen BK199.out 2)))
                (try simp only [Act.put, List.setIfInBounds_toArray, List.set_cons_zero, List.set_cons_succ])
                go_cut [53] (fun v53 wc => ∃ (kq : Nat) (x53_8 : Bool), v53 = .bool x53_8 ∧ Aside0 (spec_TreeOk.j2 kq l0 x3_2 x53_8 ((rd_T38 l0 x3_2).f0) ((rd_T38 l0 x3_2).f1) ((rd_T38 l0 x3_2).f2) = some r) ∧ Aside0 (kq ≤ k2) ∧ Aside0 (wc.heap[gb199]? = some (.cells #[.int .i64 ((rd_T38 l0 x3_2).f0), .int .i64 ((rd_T38 l0 x3_2).f1), .int .i64 ((rd_T38 l0 x3_2).f2)] 38 (0, 0))) ∧ Aside0 (Below w.heap.size w wc))
                case first =>
                  have H := HC9.out
                  clear HC9
                  replace H := Option.bind_eq_some_iff.mp H
                  obtain ⟨t200, A120, H⟩ := H
                  replace H : (if t200 = true then (if 0 ≤ ((rd_T38 l0 x3_2).f0) then (if ((rd_T38 l0 x3_2).f0) < (l0.length : Int) then (if ((rd_T38 l0 ((rd_T38 l0 x3_2).f0)).f2) = 0 then ((spec_l01In.f ((rd_T38 l0 x3_2).f1) 0 3).bind fun t202 => (if t202 = true then ((spec_l01In.f ((rd_T38 l0 x3_2).f2) 0 4).bind fun t203 => (spec_TreeOk.j2 k2 l0 x3_2 (!t203) ((rd_T38 l0 x3_2).f0) ((rd_T38 l0 x3_2).f1) ((rd_T38 l0 x3_2).f2))) else (spec_TreeOk.j2 k2 l0 x3_2 true ((rd_T38 l0 x3_2).f0) ((rd_T38 l0 x3_2).f1) ((rd_T38 l0 x3_2).f2)))) else (spec_TreeOk.j2 k2 l0 x3_2 true ((rd_T38 l0 x3_2).f0) ((rd_T38 l0 x3_2).f1) ((rd_T38 l0 x3_2).f2))) else (none)) else (none)) else (spec_TreeOk.j2 k2 l0 x3_2 true ((rd_T38 l0 x3_2).f0) ((rd_T38 l0 x3_2).f1) ((rd_T38 l0 x3_2).f2))) = some r := H
                  have A12 := Aside0.mk A120
                  clear A120
                  by_cases c13 : t200 = true
                  · subst c13
                    have H1 : (if 0 ≤ ((rd_T38 l0 x3_2).f0) then (if ((rd_T38 l0 x3_2).f0) < (l0.length : Int) then (if ((rd_T38 l0 ((rd_T38 l0 x3_2).f0)).f2) = 0 then ((spec_l01In.f ((rd_T38 l0 x3_2).f1) 0 3).bind fun t202 => (if t202 = true then ((spec_l01In.f ((rd_T38 l0 x3_2).f2) 0 4).bind fun t203 => (spec_TreeOk.j2 k2 l0 x3_2 (!t203) ((rd_T38 l0 x3_2).f0) ((rd_T38 l0 x3_2).f1) ((rd_T38 l0 x3_2).f2))) else (spec_TreeOk.j2 k2 l0 x3_2 true ((rd_T38 l0 x3_2).f0) ((rd_T38 l0 x3_2).f1) ((rd_T38 l0 x3_2).f2)))) else (spec_TreeOk.j2 k2 l0 x3_2 true ((rd_T38 l0 x3_2).f0) ((rd_T38 l0 x3_2).f1) ((rd_T38 l0 x3_2).f2))) else (none)) else (none)) = some r := by rw [if_pos rfl] at H; exact H
                    clear H
                    have H := H1
                    clear H1
                    by_cases c14 : 0 ≤ ((rd_T38 l0 x3_2).f0)
                    · rw [if_pos c14] at H
                      have c14b0 : decide (0 ≤ ((rd_T38 l0 x3_2).f0)) = true := decide_eq_true c14
                      clear c14
                      (first | rw [c14b0] | (simp only [i64_w, i32_w]; rw [c14b0]) | skip)
                      by_cases c15 : ((rd_T38 l0 x3_2).f0) < (l0.length : Int)
                      · rw [if_pos c15] at H
                        have c15b0 : decide (((rd_T38 l0 x3_2).f0) < (l0.length : Int)) = true := decide_eq_true c15
                        clear c15
                        by_cases c16 : ((rd_T38 l0 ((rd_T38 l0 x3_2).f0)).f2) = 0
                        · rw [if_pos c16] at H
                          have c16b0 : (((rd_T38 l0 ((rd_T38 l0 x3_2).f0)).f2) == 0) = true := beq_iff_eq.mpr c16
                          have c16b1 : (((rd_T38 l0 ((rd_T38 l0 x3_2).f0)).f2) != 0) = false := bne_eq_false_iff_eq.mpr c16
                          clear c16
                          replace H := Option.bind_eq_some_iff.mp H
                          obtain ⟨t202, A170, H⟩ := H
                          replace H : (if t202 = true then ((spec_l01In.f ((rd_T38 l0 x3_2).f2) 0 4).bind fun t203 => (spec_TreeOk.j2 k2 l0 x3_2 (!t203) ((rd_T38 l0 x3_2).f0) ((rd_T38 l0 x3_2).f1) ((rd_T38 l0 x3_2).f2))) else (spec_TreeOk.j2 k2 l0 x3_2 true ((rd_T38 l0 x3_2).f0) ((rd_T38 l0 x3_2).f1) ((rd_T38 l0 x3_2).f2))) = some r := H
                          have A17 := Aside0.mk A170
                          clear A170
                          by_cases c18 : t202 = true
                          · subst c18
                            have H1 : ((spec_l01In.f ((rd_T38 l0 x3_2).f2) 0 4).bind fun t203 => (spec_TreeOk.j2 k2 l0 x3_2 (!t203) ((rd_T38 l0 x3_2).f0) ((rd_T38 l0 x3_2).f1) ((rd_T38 l0 x3_2).f2))) = some r := by rw [if_pos rfl] at H; exact H
                            clear H
                            have H := H1
                            clear H1
                            replace H := Option.bind_eq_some_iff.mp H
                            obtain ⟨t203, A190, H⟩ := H
                            replace H : (spec_TreeOk.j2 k2 l0 x3_2 (!t203) ((rd_T38 l0 x3_2).f0) ((rd_T38 l0 x3_2).f1) ((rd_T38 l0 x3_2).f2)) = some r := H
                            have A19 := Aside0.mk A190
                            clear A190
                            have H' := Aside0.mk H
                            clear H
                            have hcz20_0 : w10.cell? ⟨gb199, 0, none⟩ = some (.int .i64 0) := (blk_cell BK199.out 0).trans rfl
                            have hcz20_1 : w10.cell? ⟨gb199, 1, none⟩ = some (.int .i64 0) := (blk_cell BK199.out 1).trans rfl
                            have hcz20_2 : w10.cell? ⟨gb199, 2, none⟩ = some (.int .i64 0) := (blk_cell BK199.out 2).trans rfl
                            have hfz20_0 := blk_frozen BK199.out 0
                            have hfz20_1 := blk_frozen BK199.out 1
                            have hfz20_2 := blk_frozen BK199.out 2
                            go_wp2_with (first | (go_at_call 40; (with_reducible refine (spec_l01In.calls ((rd_T38 l0 x3_2).f0) 0 (wrap64 (x3_2 - 1)) true _ A12.out).mono ?_); rintro e w' ⟨rfl, ⟨nd, rfl⟩⟩; (try first | exact ⟨rfl, _, World.drewN_drewN _ _ _⟩ | exact ⟨rfl, _, Eq.trans (World.drewN_drewN _ _ _) (congrArg (World.drewN _) (Nat.add_assoc _ _ _))⟩); have p201 : 0 ≤ (((rd_T38 l0 x3_2).f0) : Int) := of_decide_eq_true (by first | (with_reducible assumption) | assumption); have q201 : ((rd_T38 l0 x3_2).f0) < (l0.length : Int) := of_decide_eq_true (by first | (with_reducible assumption) | assumption); obtain ⟨ad201, e201, hx201_0, hx201_1, hx201_2⟩ := at_T38 HR0.out ((rd_T38 l0 x3_2).f0) p201 q201; obtain rfl : ad198 = ad201 := (by injection e201); have hn201_0 : ad198.block ≠ gb199 := Nat.ne_of_lt (Nat.lt_of_lt_of_le (by have := World.block_lt_of_cell? _ _ hx201_0; first | rwa [add_block] at this | exact this) GW199.out); have hn201_1 : ad198.block ≠ gb199 := Nat.ne_of_lt (Nat.lt_of_lt_of_le (by have := World.block_lt_of_cell? _ _ hx201_0; first | rwa [add_block] at this | exact this) GW199.out); have hn201_2 : ad198.block ≠ gb199 := Nat.ne_of_lt (Nat.lt_of_lt_of_le (by have := World.block_lt_of_cell? _ _ hx201_0; first | rwa [add_block] at this | exact this) GW199.out); replace hx201_0 := (HB.out.cell (World.block_lt_of_cell? w _ hx201_0)).trans hx201_0; replace hx201_1 := (HB.out.cell (World.block_lt_of_cell? w _ hx201_1)).trans hx201_1; replace hx201_2 := (HB.out.cell (World.block_lt_of_cell? w _ hx201_2)).trans hx201_2; replace hx201_0 := (cell_far (p := ⟨gb199, 0, none⟩) (by first | (rw [add_block]; exact hn201_0) | (show (Addr.add _ _).block ≠ _; rw [add_block]; exact hn201_0) | exact hn201_0) (.int .i64 ((rd_T38 l0 x3_2).f0))).trans hx201_0; replace hx201_1 := (cell_far (p := ⟨gb199, 0, none⟩) (by first | (rw [add_block]; exact hn201_0) | (show (Addr.add _ _).block ≠ _; rw [add_block]; exact hn201_0) | exact hn201_0) (.int .i64 ((rd_T38 l0 x3_2).f0))).trans hx201_1; replace hx201_2 := (cell_far (p := ⟨gb199, 0, none⟩) (by first | (rw [add_block]; exact hn201_0) | (show (Addr.add _ _).block ≠ _; rw [add_block]; exact hn201_0) | exact hn201_0) (.int .i64 ((rd_T38 l0 x3_2).f0))).trans hx201_2; replace hx201_0 := (cell_far (p := ⟨gb199, 1, none⟩) (by first | (rw [add_block]; exact hn201_1) | (show (Addr.add _ _).block ≠ _; rw [add_block]; exact hn201_1) | exact hn201_1) (.int .i64 ((rd_T38 l0 x3_2).f1))).trans hx201_0; replace hx201_1 := (cell_far (p := ⟨gb199, 1, none⟩) (by first | (rw [add_block]; exact hn201_1) | (show (Addr.add _ _).block ≠ _; rw [add_block]; exact hn201_1) | exact hn201_1) (.int .i64 ((rd_T38 l0 x3_2).f1))).trans hx201_1; replace hx201_2 := (cell_far (p := ⟨gb199, 1, none⟩) (by first | (rw [add_block]; exact hn201_1) | (show (Addr.add _ _).block ≠ _; rw [add_block]; exact hn201_1) | exact hn201_1) (.int .i64 ((rd_T38 l0 x3_2).f1))).trans hx201_2; replace hx201_0 := (cell_far (p := ⟨gb199, 2, none⟩) (by first | (rw [add_block]; exact hn201_2) | (show (Addr.add _ _).block ≠ _; rw [add_block]; exact hn201_2) | exact hn201_2) (.int .i64 ((rd_T38 l0 x3_2).f2))).trans hx201_0; replace hx201_1 := (cell_far (p := ⟨gb199, 2, none⟩) (by first | (rw [add_block]; exact hn201_2) | (show (Addr.add _ _).block ≠ _; rw [add_block]; exact hn201_2) | exact hn201_2) (.int .i64 ((rd_T38 l0 x3_2).f2))).trans hx201_1; replace hx201_2 := (cell_far (p := ⟨gb199, 2, none⟩) (by first | (rw [add_block]; exact hn201_2) | (show (Addr.add _ _).block ≠ _; rw [add_block]; exact hn201_2) | exact hn201_2) (.int .i64 ((rd_T38 l0 x3_2).f2))).trans hx201_2; (try have hy201_0 := fun (n_ : Nat) => (show (((((w10.drewN n_).setCell ⟨gb199, 0, none⟩ (.int .i64 ((rd_T38 l0 x3_2).f0))).setCell ⟨gb199, 1, none⟩ (.int .i64 ((rd_T38 l0 x3_2).f1))).setCell ⟨gb199, 2, none⟩ (.int .i64 ((rd_T38 l0 x3_2).f2)))).cell? _ = some _ from hx201_0)); (try have hy201_1 := fun (n_ : Nat) => (show (((((w10.drewN n_).setCell ⟨gb199, 0, none⟩ (.int .i64 ((rd_T38 l0 x3_2).f0))).setCell ⟨gb199, 1, none⟩ (.int .i64 ((rd_T38 l0 x3_2).f1))).setCell ⟨gb199, 2, none⟩ (.int .i64 ((rd_T38 l0 x3_2).f2)))).cell? _ = some _ from hx201_1)); (try have hy201_2 := fun (n_ : Nat) => (show (((((w10.drewN n_).setCell ⟨gb199, 0, none⟩ (.int .i64 ((rd_T38 l0 x3_2).f0))).setCell ⟨gb199, 1, none⟩ (.int .i64 ((rd_T38 l0 x3_2).f1))).setCell ⟨gb199, 2, none⟩ (.int .i64 ((rd_T38 l0 x3_2).f2)))).cell? _ = some _ from hx201_2)); clear hn201_0; clear hn201_1; clear hn201_2; replace p201 := eq_true p201; replace q201 := eq_true q201) | (go_at_call 40; (with_reducible refine (spec_l01In.calls ((rd_T38 l0 x3_2).f1) 0 3 true _ A17.out).mono ?_); rintro e w' ⟨rfl, ⟨nd, rfl⟩⟩; (try first | exact ⟨rfl, _, World.drewN_drewN _ _ _⟩ | exact ⟨rfl, _, Eq.trans (World.drewN_drewN _ _ _) (congrArg (World.drewN _) (Nat.add_assoc _ _ _))⟩)) | (go_at_call 40; (with_reducible refine (spec_l01In.calls ((rd_T38 l0 x3_2).f2) 0 4 t203 _ A19.out).mono ?_); rintro e w' ⟨rfl, ⟨nd, rfl⟩⟩; (try first | exact ⟨rfl, _, World.drewN_drewN _ _ _⟩ | exact ⟨rfl, _, Eq.trans (World.drewN_drewN _ _ _) (congrArg (World.drewN _) (Nat.add_assoc _ _ _))⟩)))
                            repeat (go_quiet (first | (go_at_call 40; (with_reducible refine (spec_l01In.calls ((rd_T38 l0 x3_2).f0) 0 (wrap64 (x3_2 - 1)) true _ A12.out).mono ?_); rintro e w' ⟨rfl, ⟨nd, rfl⟩⟩; (try first | exact ⟨rfl, _, World.drewN_drewN _ _ _⟩ | exact ⟨rfl, _, Eq.trans (World.drewN_drewN _ _ _) (congrArg (World.drewN _) (Nat.add_assoc _ _ _))⟩); have p201 : 0 ≤ (((rd_T38 l0 x3_2).f0) : Int) := of_decide_eq_true (by first | (with_reducible assumption) | assumption); have q201 : ((rd_T38 l0 x3_2).f0) < (l0.length : Int) := of_decide_eq_true (by first | (with_reducible assumption) | assumption); obtain ⟨ad201, e201, hx201_0, hx201_1, hx201_2⟩ := at_T38 HR0.out ((rd_T38 l0 x3_2).f0) p201 q201; obtain rfl : ad198 = ad201 := (by injection e201); have hn201_0 : ad198.block ≠ gb199 := Nat.ne_of_lt (Nat.lt_of_lt_of_le (by have := World.block_lt_of_cell? _ _ hx201_0; first | rwa [add_block] at this | exact this) GW199.out); have hn201_1 : ad198.block ≠ gb199 := Nat.ne_of_lt (Nat.lt_of_lt_of_le (by have := World.block_lt_of_cell? _ _ hx201_0; first | rwa [add_block] at this | exact this) GW199.out); have hn201_2 : ad198.block ≠ gb199 := Nat.ne_of_lt (Nat.lt_of_lt_of_le (by have := World.block_lt_of_cell? _ _ hx201_0; first | rwa [add_block] at this | exact this) GW199.out); replace hx201_0 := (HB.out.cell (World.block_lt_of_cell? w _ hx201_0)).trans hx201_0; replace hx201_1 := (HB.out.cell (World.block_lt_of_cell? w _ hx201_1)).trans hx201_1; replace hx201_2 := (HB.out.cell (World.block_lt_of_cell? w _ hx201_2)).trans hx201_2; replace hx201_0 := (cell_far (p := ⟨gb199, 0, none⟩) (by first | (rw [add_block]; exact hn201_0) | (show (Addr.add _ _).block ≠ _; rw [add_block]; exact hn201_0) | exact hn201_0) (.int .i64 ((rd_T38 l0 x3_2).f0))).trans hx201_0; replace hx201_1 := (cell_far (p := ⟨gb199, 0, none⟩) (by first | (rw [add_block]; exact hn201_0) | (show (Addr.add _ _).block ≠ _; rw [add_block]; exact hn201_0) | exact hn201_0) (.int .i64 ((rd_T38 l0 x3_2).f0))).trans hx201_1; replace hx201_2 := (cell_far (p := ⟨gb199, 0, none⟩) (by first | (rw [add_block]; exact hn201_0) | (show (Addr.add _ _).block ≠ _; rw [add_block]; exact hn201_0) | exact hn201_0) (.int .i64 ((rd_T38 l0 x3_2).f0))).trans hx201_2; replace hx201_0 := (cell_far (p := ⟨gb199, 1, none⟩) (by first | (rw [add_block]; exact hn201_1) | (show (Addr.add _ _).block ≠ _; rw [add_block]; exact hn201_1) | exact hn201_1) (.int .i64 ((rd_T38 l0 x3_2).f1))).trans hx201_0; replace hx201_1 := (cell_far (p := ⟨gb199, 1, none⟩) (by first | (rw [add_block]; exact hn201_1) | (show (Addr.add _ _).block ≠ _; rw [add_block]; exact hn201_1) | exact hn201_1) (.int .i64 ((rd_T38 l0 x3_2).f1))).trans hx201_1; replace hx201_2 := (cell_far (p := ⟨gb199, 1, none⟩) (by first | (rw [add_block]; exact hn201_1) | (show (Addr.add _ _).block ≠ _; rw [add_block]; exact hn201_1) | exact hn201_1) (.int .i64 ((rd_T38 l0 x3_2).f1))).trans hx201_2; replace hx201_0 := (cell_far (p := ⟨gb199, 2, none⟩) (by first | (rw [add_block]; exact hn201_2) | (show (Addr.add _ _).block ≠ _; rw [add_block]; exact hn201_2) | exact hn201_2) (.int .i64 ((rd_T38 l0 x3_2).f2))).trans hx201_0; replace hx201_1 := (cell_far (p := ⟨gb199, 2, none⟩) (by first | (rw [add_block]; exact hn201_2) | (show (Addr.add _ _).block ≠ _; rw [add_block]; exact hn201_2) | exact hn201_2) (.int .i64 ((rd_T38 l0 x3_2).f2))).trans hx201_1; replace hx201_2 := (cell_far (p := ⟨gb199, 2, none⟩) (by first | (rw [add_block]; exact hn201_2) | (show (Addr.add _ _).block ≠ _; rw [add_block]; exact hn201_2) | exact hn201_2) (.int .i64 ((rd_T38 l0 x3_2).f2))).trans hx201_2; (try have hy201_0 := fun (n_ : Nat) => (show (((((w10.drewN n_).setCell ⟨gb199, 0, none⟩ (.int .i64 ((rd_T38 l0 x3_2).f0))).setCell ⟨gb199, 1, none⟩ (.int .i64 ((rd_T38 l0 x3_2).f1))).setCell ⟨gb199, 2, none⟩ (.int .i64 ((rd_T38 l0 x3_2).f2)))).cell? _ = some _ from hx201_0)); (try have hy201_1 := fun (n_ : Nat) => (show (((((w10.drewN n_).setCell ⟨gb199, 0, none⟩ (.int .i64 ((rd_T38 l0 x3_2).f0))).setCell ⟨gb199, 1, none⟩ (.int .i64 ((rd_T38 l0 x3_2).f1))).setCell ⟨gb199, 2, none⟩ (.int .i64 ((rd_T38 l0 x3_2).f2)))).cell? _ = some _ from hx201_1)); (try have hy201_2 := fun (n_ : Nat) => (show (((((w10.drewN n_).setCell ⟨gb199, 0, none⟩ (.int .i64 ((rd_T38 l0 x3_2).f0))).setCell ⟨gb199, 1, none⟩ (.int .i64 ((rd_T38 l0 x3_2).f1))).setCell ⟨gb199, 2, none⟩ (.int .i64 ((rd_T38 l0 x3_2).f2)))).cell? _ = some _ from hx201_2)); clear hn201_0; clear hn201_1; clear hn201_2; replace p201 := eq_true p201; replace q201 := eq_true q201) | (go_at_call 40; (with_reducible refine (spec_l01In.calls ((rd_T38 l0 x3_2).f1) 0 3 true _ A17.out).mono ?_); rintro e w' ⟨rfl, ⟨nd, rfl⟩⟩; (try first | exact ⟨rfl, _, World.drewN_drewN _ _ _⟩ | exact ⟨rfl, _, Eq.trans (World.drewN_drewN _ _ _) (congrArg (World.drewN _) (Nat.add_assoc _ _ _))⟩)) | (go_at_call 40; (with_reducible refine (spec_l01In.calls ((rd_T38 l0 x3_2).f2) 0 4 t203 _ A19.out).mono ?_); rintro e w' ⟨rfl, ⟨nd, rfl⟩⟩; (try first | exact ⟨rfl, _, World.drewN_drewN _ _ _⟩ | exact ⟨rfl, _, Eq.trans (World.drewN_drewN _ _ _) (congrArg (World.drewN _) (Nat.add_assoc _ _ _))⟩))); try go_wp2_with (first | (go_at_call 40; (with_reducible refine (spec_l01In.calls ((rd_T38 l0 x3_2).f0) 0 (wrap64 (x3_2 - 1)) true _ A12.out).mono ?_); rintro e w' ⟨rfl, ⟨nd, rfl⟩⟩; (try first | exact ⟨rfl, _, World.drewN_drewN _ _ _⟩ | exact ⟨rfl, _, Eq.trans (World.drewN_drewN _ _ _) (congrArg (World.drewN _) (Nat.add_assoc _ _ _))⟩); have p201 : 0 ≤ (((rd_T38 l0 x3_2).f0) : Int) := of_decide_eq_true (by first | (with_reducible assumption) | assumption); have q201 : ((rd_T38 l0 x3_2).f0) < (l0.length : Int) := of_decide_eq_true (by first | (with_reducible assumption) | assumption); obtain ⟨ad201, e201, hx201_0, hx201_1, hx201_2⟩ := at_T38 HR0.out ((rd_T38 l0 x3_2).f0) p201 q201; obtain rfl : ad198 = ad201 := (by injection e201); have hn201_0 : ad198.block ≠ gb199 := Nat.ne_of_lt (Nat.lt_of_lt_of_le (by have := World.block_lt_of_cell? _ _ hx201_0; first | rwa [add_block] at this | exact this) GW199.out); have hn201_1 : ad198.block ≠ gb199 := Nat.ne_of_lt (Nat.lt_of_lt_of_le (by have := World.block_lt_of_cell? _ _ hx201_0; first | rwa [add_block] at this | exact this) GW199.out); have hn201_2 : ad198.block ≠ gb199 := Nat.ne_of_lt (Nat.lt_of_lt_of_le (by have := World.block_lt_of_cell? _ _ hx201_0; first | rwa [add_block] at this | exact this) GW199.out); replace hx201_0 := (HB.out.cell (World.block_lt_of_cell? w _ hx201_0)).trans hx201_0; replace hx201_1 := (HB.out.cell (World.block_lt_of_cell? w _ hx201_1)).trans hx201_1; replace hx201_2 := (HB.out.cell (World.block_lt_of_cell? w _ hx201_2)).trans hx201_2; replace hx201_0 := (cell_far (p := ⟨gb199, 0, none⟩) (by first | (rw [add_block]; exact hn201_0) | (show (Addr.add _ _).block ≠ _; rw [add_block]; exact hn201_0) | exact hn201_0) (.int .i64 ((rd_T38 l0 x3_2).f0))).trans hx201_0; replace hx201_1 := (cell_far (p := ⟨gb199, 0, none⟩) (by first | (rw [add_block]; exact hn201_0) | (show (Addr.add _ _).block ≠ _; rw [add_block]; exact hn201_0) | exact hn201_0) (.int .i64 ((rd_T38 l0 x3_2).f0))).trans hx201_1; replace hx201_2 := (cell_far (p := ⟨gb199, 0, none⟩) (by first | (rw [add_block]; exact hn201_0) | (show (Addr.add _ _).block ≠ _; rw [add_block]; exact hn201_0) | exact hn201_0) (.int .i64 ((rd_T38 l0 x3_2).f0))).trans hx201_2; replace hx201_0 := (cell_far (p := ⟨gb199, 1, none⟩) (by first | (rw [add_block]; exact hn201_1) | (show (Addr.add _ _).block ≠ _; rw [add_block]; exact hn201_1) | exact hn201_1) (.int .i64 ((rd_T38 l0 x3_2).f1))).trans hx201_0; replace hx201_1 := (cell_far (p := ⟨gb199, 1, none⟩) (by first | (rw [add_block]; exact hn201_1) | (show (Addr.add _ _).block ≠ _; rw [add_block]; exact hn201_1) | exact hn201_1) (.int .i64 ((rd_T38 l0 x3_2).f1))).trans hx201_1; replace hx201_2 := (cell_far (p := ⟨gb199, 1, none⟩) (by first | (rw [add_block]; exact hn201_1) | (show (Addr.add _ _).block ≠ _; rw [add_block]; exact hn201_1) | exact hn201_1) (.int .i64 ((rd_T38 l0 x3_2).f1))).trans hx201_2; replace hx201_0 := (cell_far (p := ⟨gb199, 2, none⟩) (by first | (rw [add_block]; exact hn201_2) | (show (Addr.add _ _).block ≠ _; rw [add_block]; exact hn201_2) | exact hn201_2) (.int .i64 ((rd_T38 l0 x3_2).f2))).trans hx201_0; replace hx201_1 := (cell_far (p := ⟨gb199, 2, none⟩) (by first | (rw [add_block]; exact hn201_2) | (show (Addr.add _ _).block ≠ _; rw [add_block]; exact hn201_2) | exact hn201_2) (.int .i64 ((rd_T38 l0 x3_2).f2))).trans hx201_1; replace hx201_2 := (cell_far (p := ⟨gb199, 2, none⟩) (by first | (rw [add_block]; exact hn201_2) | (show (Addr.add _ _).block ≠ _; rw [add_block]; exact hn201_2) | exact hn201_2) (.int .i64 ((rd_T38 l0 x3_2).f2))).trans hx201_2; (try have hy201_0 := fun (n_ : Nat) => (show (((((w10.drewN n_).setCell ⟨gb199, 0, none⟩ (.int .i64 ((rd_T38 l0 x3_2).f0))).setCell ⟨gb199, 1, none⟩ (.int .i64 ((rd_T38 l0 x3_2).f1))).setCell ⟨gb199, 2, none⟩ (.int .i64 ((rd_T38 l0 x3_2).f2)))).cell? _ = some _ from hx201_0)); (try have hy201_1 := fun (n_ : Nat) => (show (((((w10.drewN n_).setCell ⟨gb199, 0, none⟩ (.int .i64 ((rd_T38 l0 x3_2).f0))).setCell ⟨gb199, 1, none⟩ (.int .i64 ((rd_T38 l0 x3_2).f1))).setCell ⟨gb199, 2, none⟩ (.int .i64 ((rd_T38 l0 x3_2).f2)))).cell? _ = some _ from hx201_1)); (try have hy201_2 := fun (n_ : Nat) => (show (((((w10.drewN n_).setCell ⟨gb199, 0, none⟩ (.int .i64 ((rd_T38 l0 x3_2).f0))).setCell ⟨gb199, 1, none⟩ (.int .i64 ((rd_T38 l0 x3_2).f1))).setCell ⟨gb199, 2, none⟩ (.int .i64 ((rd_T38 l0 x3_2).f2)))).cell? _ = some _ from hx201_2)); clear hn201_0; clear hn201_1; clear hn201_2; replace p201 := eq_true p201; replace q201 := eq_true q201) | (go_at_call 40; (with_reducible refine (spec_l01In.calls ((rd_T38 l0 x3_2).f1) 0 3 true _ A17.out).mono ?_); rintro e w' ⟨rfl, ⟨nd, rfl⟩⟩; (try first | exact ⟨rfl, _, World.drewN_drewN _ _ _⟩ | exact ⟨rfl, _, Eq.trans (World.drewN_drewN _ _ _) (congrArg (World.drewN _) (Nat.add_assoc _ _ _))⟩)) | (go_at_call 40; (with_reducible refine (spec_l01In.calls ((rd_T38 l0 x3_2).f2) 0 4 t203 _ A19.out).mono ?_); rintro e w' ⟨rfl, ⟨nd, rfl⟩⟩; (try first | exact ⟨rfl, _, World.drewN_drewN _ _ _⟩ | exact ⟨rfl, _, Eq.trans (World.drewN_drewN _ _ _) (congrArg (World.drewN _) (Nat.add_assoc _ _ _))⟩))))
                            go_meet
                            case rel => exact ⟨_, (!t203), (by first | rfl | (simp; done) | (simp [*]; done)), H', ⟨by have := HJ1.out; have := HK2.out; first | omega | exact Nat.le_refl _⟩, ⟨by (with_reducible repeat (first | refine blk_drewN ?_ _ | refine blk_drew ?_ | refine blk_alloc ?_ _)); refine blk_put (cs := #[.int .i64 ((rd_T38 l0 x3_2).f0), .int .i64 ((rd_T38 l0 x3_2).f1), .int .i64 0]) ?_ 2 _ rfl; (with_reducible repeat (first | refine blk_drewN ?_ _ | refine blk_drew ?_ | refine blk_alloc ?_ _)); refine blk_put (cs := #[.int .i64 ((rd_T38 l0 x3_2).f0), .int .i64 0, .int .i64 0]) ?_ 1 _ rfl; (with_reducible repeat (first | refine blk_drewN ?_ _ | refine blk_drew ?_ | refine blk_alloc ?_ _)); refine blk_put (cs := #[.int .i64 0, .int .i64 0, .int .i64 0]) ?_ 0 _ rfl; (with_reducible repeat (first | refine blk_drewN ?_ _ | refine blk_drew ?_ | refine blk_alloc ?_ _)); exact BK199.out⟩, ⟨by repeat (first | (with_reducible first | exact HB.out | apply below_alloc | apply pw_below_drewN | apply below_drew1 | refine below_set ?_ GE199.out) | exact HB.out)⟩⟩
                          · replace c18 := Bool.eq_false_iff.mpr c18
                            subst c18
                            have H1 : (spec_TreeOk.j2 k2 l0 x3_2 true ((rd_T38 l0 x3_2).f0) ((rd_T38 l0 x3_2).f1) ((rd_T38 l0 x3_2).f2)) = some r := by rw [if_neg (show ¬ (false = true) by decide)] at H; exact H
                            clear H
                            have H := H1
                            clear H1
                            have H' := Aside0.mk H
                            clear H
                            have hcz21_0 : w10.cell? ⟨gb199, 0, none⟩ = some (.int .i64 0) := (blk_cell BK199.out 0).trans rfl
                            have hcz21_1 : w10.cell? ⟨gb199, 1, none⟩ = some (.int .i64 0) := (blk_cell BK199.out 1).trans rfl
                            have hcz21_2 : w10.cell? ⟨gb199, 2, none⟩ = some (.int .i64 0) := (blk_cell BK199.out 2).trans rfl
                            have hfz21_0 := blk_frozen BK199.out 0
                            have hfz21_1 := blk_frozen BK199.out 1
                            have hfz21_2 := blk_frozen BK199.out 2
                            go_wp2_with (first | (go_at_call 40; (with_reducible refine (spec_l01In.calls ((rd_T38 l0 x3_2).f0) 0 (wrap64 (x3_2 - 1)) true _ A12.out).mono ?_); rintro e w' ⟨rfl, ⟨nd, rfl⟩⟩; (try first | exact ⟨rfl, _, World.drewN_drewN _ _ _⟩ | exact ⟨rfl, _, Eq.trans (World.drewN_drewN _ _ _) (congrArg (World.drewN _) (Nat.add_assoc _ _ _))⟩); have p201 : 0 ≤ (((rd_T38 l0 x3_2).f0) : Int) := of_decide_eq_true (by first | (with_reducible assumption) | assumption); have q201 : ((rd_T38 l0 x3_2).f0) < (l0.length : Int) := of_decide_eq_true (by first | (with_reducible assumption) | assumption); obtain ⟨ad201, e201, hx201_0, hx201_1, hx201_2⟩ := at_T38 HR0.out ((rd_T38 l0 x3_2).f0) p201 q201; obtain rfl : ad198 = ad201 := (by injection e201); have hn201_0 : ad198.block ≠ gb199 := Nat.ne_of_lt (Nat.lt_of_lt_of_le (by have := World.block_lt_of_cell? _ _ hx201_0; first | rwa [add_block] at this | exact this) GW199.out); have hn201_1 : ad198.block ≠ gb199 := Nat.ne_of_lt (Nat.lt_of_lt_of_le (by have := World.block_lt_of_cell? _ _ hx201_0; first | rwa [add_block] at this | exact this) GW199.out); have hn201_2 : ad198.block ≠ gb199 := Nat.ne_of_lt (Nat.lt_of_lt_of_le (by have := World.block_lt_of_cell? _ _ hx201_0; first | rwa [add_block] at this | exact this) GW199.out); replace hx201_0 := (HB.out.cell (World.block_lt_of_cell? w _ hx201_0)).trans hx201_0; replace hx201_1 := (HB.out.cell (World.block_lt_of_cell? w _ hx201_1)).trans hx201_1; replace hx201_2 := (HB.out.cell (World.block_lt_of_cell? w _ hx201_2)).trans hx201_2; replace hx201_0 := (cell_far (p := ⟨gb199, 0, none⟩) (by first | (rw [add_block]; exact hn201_0) | (show (Addr.add _ _).block ≠ _; rw [add_block]; exact hn201_0) | exact hn201_0) (.int .i64 ((rd_T38 l0 x3_2).f0))).trans hx201_0; replace hx201_1 := (cell_far (p := ⟨gb199, 0, none⟩) (by first | (rw [add_block]; exact hn201_0) | (show (Addr.add _ _).block ≠ _; rw [add_block]; exact hn201_0) | exact hn201_0) (.int .i64 ((rd_T38 l0 x3_2).f0))).trans hx201_1; replace hx201_2 := (cell_far (p := ⟨gb199, 0, none⟩) (by first | (rw [add_block]; exact hn201_0) | (show (Addr.add _ _).block ≠ _; rw [add_block]; exact hn201_0) | exact hn201_0) (.int .i64 ((rd_T38 l0 x3_2).f0))).trans hx201_2; replace hx201_0 := (cell_far (p := ⟨gb199, 1, none⟩) (by first | (rw [add_block]; exact hn201_1) | (show (Addr.add _ _).block ≠ _; rw [add_block]; exact hn201_1) | exact hn201_1) (.int .i64 ((rd_T38 l0 x3_2).f1))).trans hx201_0; replace hx201_1 := (cell_far (p := ⟨gb199, 1, none⟩) (by first | (rw [add_block]; exact hn201_1) | (show (Addr.add _ _).block ≠ _; rw [add_block]; exact hn201_1) | exact hn201_1) (.int .i64 ((rd_T38 l0 x3_2).f1))).trans hx201_1; replace hx201_2 := (cell_far (p := ⟨gb199, 1, none⟩) (by first | (rw [add_block]; exact hn201_1) | (show (Addr.add _ _).block ≠ _; rw [add_block]; exact hn201_1) | exact hn201_1) (.int .i64 ((rd_T38 l0 x3_2).f1))).trans hx201_2; replace hx201_0 := (cell_far (p := ⟨gb199, 2, none⟩) (by first | (rw [add_block]; exact hn201_2) | (show (Addr.add _ _).block ≠ _; rw [add_block]; exact hn201_2) | exact hn201_2) (.int .i64 ((rd_T38 l0 x3_2).f2))).trans hx201_0; replace hx201_1 := (cell_far (p := ⟨gb199, 2, none⟩) (by first | (rw [add_block]; exact hn201_2) | (show (Addr.add _ _).block ≠ _; rw [add_block]; exact hn201_2) | exact hn201_2) (.int .i64 ((rd_T38 l0 x3_2).f2))).trans hx201_1; replace hx201_2 := (cell_far (p := ⟨gb199, 2, none⟩) (by first | (rw [add_block]; exact hn201_2) | (show (Addr.add _ _).block ≠ _; rw [add_block]; exact hn201_2) | exact hn201_2) (.int .i64 ((rd_T38 l0 x3_2).f2))).trans hx201_2; (try have hy201_0 := fun (n_ : Nat) => (show (((((w10.drewN n_).setCell ⟨gb199, 0, none⟩ (.int .i64 ((rd_T38 l0 x3_2).f0))).setCell ⟨gb199, 1, none⟩ (.int .i64 ((rd_T38 l0 x3_2).f1))).setCell ⟨gb199, 2, none⟩ (.int .i64 ((rd_T38 l0 x3_2).f2)))).cell? _ = some _ from hx201_0)); (try have hy201_1 := fun (n_ : Nat) => (show (((((w10.drewN n_).setCell ⟨gb199, 0, none⟩ (.int .i64 ((rd_T38 l0 x3_2).f0))).setCell ⟨gb199, 1, none⟩ (.int .i64 ((rd_T38 l0 x3_2).f1))).setCell ⟨gb199, 2, none⟩ (.int .i64 ((rd_T38 l0 x3_2).f2)))).cell? _ = some _ from hx201_1)); (try have hy201_2 := fun (n_ : Nat) => (show (((((w10.drewN n_).setCell ⟨gb199, 0, none⟩ (.int .i64 ((rd_T38 l0 x3_2).f0))).setCell ⟨gb199, 1, none⟩ (.int .i64 ((rd_T38 l0 x3_2).f1))).setCell ⟨gb199, 2, none⟩ (.int .i64 ((rd_T38 l0 x3_2).f2)))).cell? _ = some _ from hx201_2)); clear hn201_0; clear hn201_1; clear hn201_2; replace p201 := eq_true p201; replace q201 := eq_true q201) | (go_at_call 40; (with_reducible refine (spec_l01In.calls ((rd_T38 l0 x3_2).f1) 0 3 false _ A17.out).mono ?_); rintro e w' ⟨rfl, ⟨nd, rfl⟩⟩; (try first | exact ⟨rfl, _, World.drewN_drewN _ _ _⟩ | exact ⟨rfl, _, Eq.trans (World.drewN_drewN _ _ _) (congrArg (World.drewN _) (Nat.add_assoc _ _ _))⟩)))
                            repeat (go_quiet (first | (go_at_call 40; (with_reducible refine (spec_l01In.calls ((rd_T38 l0 x3_2).f0) 0 (wrap64 (x3_2 - 1)) true _ A12.out).mono ?_); rintro e w' ⟨rfl, ⟨nd, rfl⟩⟩; (try first | exact ⟨rfl, _, World.drewN_drewN _ _ _⟩ | exact ⟨rfl, _, Eq.trans (World.drewN_drewN _ _ _) (congrArg (World.drewN _) (Nat.add_assoc _ _ _))⟩); have p201 : 0 ≤ (((rd_T38 l0 x3_2).f0) : Int) := of_decide_eq_true (by first | (with_reducible assumption) | assumption); have q201 : ((rd_T38 l0 x3_2).f0) < (l0.length : Int) := of_decide_eq_true (by first | (with_reducible assumption) | assumption); obtain ⟨ad201, e201, hx201_0, hx201_1, hx201_2⟩ := at_T38 HR0.out ((rd_T38 l0 x3_2).f0) p201 q201; obtain rfl : ad198 = ad201 := (by injection e201); have hn201_0 : ad198.block ≠ gb199 := Nat.ne_of_lt (Nat.lt_of_lt_of_le (by have := World.block_lt_of_cell? _ _ hx201_0; first | rwa [add_block] at this | exact this) GW199.out); have hn201_1 : ad198.block ≠ gb199 := Nat.ne_of_lt (Nat.lt_of_lt_of_le (by have := World.block_lt_of_cell? _ _ hx201_0; first | rwa [add_block] at this | exact this) GW199.out); have hn201_2 : ad198.block ≠ gb199 := Nat.ne_of_lt (Nat.lt_of_lt_of_le (by have := World.block_lt_of_cell? _ _ hx201_0; first | rwa [add_block] at this | exact this) GW199.out); replace hx201_0 := (HB.out.cell (World.block_lt_of_cell? w _ hx201_0)).trans hx201_0; replace hx201_1 := (HB.out.cell (World.block_lt_of_cell? w _ hx201_1)).trans hx201_1; replace hx201_2 := (HB.out.cell (World.block_lt_of_cell? w _ hx201_2)).trans hx201_2; replace hx201_0 := (cell_far (p := ⟨gb199, 0, none⟩) (by first | (rw [add_block]; exact hn201_0) | (show (Addr.add _ _).block ≠ _; rw [add_block]; exact hn201_0) | exact hn201_0) (.int .i64 ((rd_T38 l0 x3_2).f0))).trans hx201_0; replace hx201_1 := (cell_far (p := ⟨gb199, 0, none⟩) (by first | (rw [add_block]; exact hn201_0) | (show (Addr.add _ _).block ≠ _; rw [add_block]; exact hn201_0) | exact hn201_0) (.int .i64 ((rd_T38 l0 x3_2).f0))).trans hx201_1; replace hx201_2 := (cell_far (p := ⟨gb199, 0, none⟩) (by first | (rw [add_block]; exact hn201_0) | (show (Addr.add _ _).block ≠ _; rw [add_block]; exact hn201_0) | exact hn201_0) (.int .i64 ((rd_T38 l0 x3_2).f0))).trans hx201_2; replace hx201_0 := (cell_far (p := ⟨gb199, 1, none⟩) (by first | (rw [add_block]; exact hn201_1) | (show (Addr.add _ _).block ≠ _; rw [add_block]; exact hn201_1) | exact hn201_1) (.int .i64 ((rd_T38 l0 x3_2).f1))).trans hx201_0; replace hx201_1 := (cell_far (p := ⟨gb199, 1, none⟩) (by first | (rw [add_block]; exact hn201_1) | (show (Addr.add _ _).block ≠ _; rw [add_block]; exact hn201_1) | exact hn201_1) (.int .i64 ((rd_T38 l0 x3_2).f1))).trans hx201_1; replace hx201_2 := (cell_far (p := ⟨gb199, 1, none⟩) (by first | (rw [add_block]; exact hn201_1) | (show (Addr.add _ _).block ≠ _; rw [add_block]; exact hn201_1) | exact hn201_1) (.int .i64 ((rd_T38 l0 x3_2).f1))).trans hx201_2; replace hx201_0 := (cell_far (p := ⟨gb199, 2, none⟩) (by first | (rw [add_block]; exact hn201_2) | (show (Addr.add _ _).block ≠ _; rw [add_block]; exact hn201_2) | exact hn201_2) (.int .i64 ((rd_T38 l0 x3_2).f2))).trans hx201_0; replace hx201_1 := (cell_far (p := ⟨gb199, 2, none⟩) (by first | (rw [add_block]; exact hn201_2) | (show (Addr.add _ _).block ≠ _; rw [add_block]; exact hn201_2) | exact hn201_2) (.int .i64 ((rd_T38 l0 x3_2).f2))).trans hx201_1; replace hx201_2 := (cell_far (p := ⟨gb199, 2, none⟩) (by first | (rw [add_block]; exact hn201_2) | (show (Addr.add _ _).block ≠ _; rw [add_block]; exact hn201_2) | exact hn201_2) (.int .i64 ((rd_T38 l0 x3_2).f2))).trans hx201_2; (try have hy201_0 := fun (n_ : Nat) => (show (((((w10.drewN n_).setCell ⟨gb199, 0, none⟩ (.int .i64 ((rd_T38 l0 x3_2).f0))).setCell ⟨gb199, 1, none⟩ (.int .i64 ((rd_T38 l0 x3_2).f1))).setCell ⟨gb199, 2, none⟩ (.int .i64 ((rd_T38 l0 x3_2).f2)))).cell? _ = some _ from hx201_0)); (try have hy201_1 := fun (n_ : Nat) => (show (((((w10.drewN n_).setCell ⟨gb199, 0, none⟩ (.int .i64 ((rd_T38 l0 x3_2).f0))).setCell ⟨gb199, 1, none⟩ (.int .i64 ((rd_T38 l0 x3_2).f1))).setCell ⟨gb199, 2, none⟩ (.int .i64 ((rd_T38 l0 x3_2).f2)))).cell? _ = some _ from hx201_1)); (try have hy201_2 := fun (n_ : Nat) => (show (((((w10.drewN n_).setCell ⟨gb199, 0, none⟩ (.int .i64 ((rd_T38 l0 x3_2).f0))).setCell ⟨gb199, 1, none⟩ (.int .i64 ((rd_T38 l0 x3_2).f1))).setCell ⟨gb199, 2, none⟩ (.int .i64 ((rd_T38 l0 x3_2).f2)))).cell? _ = some _ from hx201_2)); clear hn201_0; clear hn201_1; clear hn201_2; replace p201 := eq_true p201; replace q201 := eq_true q201) | (go_at_call 40; (with_reducible refine (spec_l01In.calls ((rd_T38 l0 x3_2).f1) 0 3 false _ A17.out).mono ?_); rintro e w' ⟨rfl, ⟨nd, rfl⟩⟩; (try first | exact ⟨rfl, _, World.drewN_drewN _ _ _⟩ | exact ⟨rfl, _, Eq.trans (World.drewN_drewN _ _ _) (congrArg (World.drewN _) (Nat.add_assoc _ _ _))⟩))); try go_wp2_with (first | (go_at_call 40; (with_reducible refine (spec_l01In.calls ((rd_T38 l0 x3_2).f0) 0 (wrap64 (x3_2 - 1)) true _ A12.out).mono ?_); rintro e w' ⟨rfl, ⟨nd, rfl⟩⟩; (try first | exact ⟨rfl, _, World.drewN_drewN _ _ _⟩ | exact ⟨rfl, _, Eq.trans (World.drewN_drewN _ _ _) (congrArg (World.drewN _) (Nat.add_assoc _ _ _))⟩); have p201 : 0 ≤ (((rd_T38 l0 x3_2).f0) : Int) := of_decide_eq_true (by first | (with_reducible assumption) | assumption); have q201 : ((rd_T38 l0 x3_2).f0) < (l0.length : Int) := of_decide_eq_true (by first | (with_reducible assumption) | assumption); obtain ⟨ad201, e201, hx201_0, hx201_1, hx201_2⟩ := at_T38 HR0.out ((rd_T38 l0 x3_2).f0) p201 q201; obtain rfl : ad198 = ad201 := (by injection e201); have hn201_0 : ad198.block ≠ gb199 := Nat.ne_of_lt (Nat.lt_of_lt_of_le (by have := World.block_lt_of_cell? _ _ hx201_0; first | rwa [add_block] at this | exact this) GW199.out); have hn201_1 : ad198.block ≠ gb199 := Nat.ne_of_lt (Nat.lt_of_lt_of_le (by have := World.block_lt_of_cell? _ _ hx201_0; first | rwa [add_block] at this | exact this) GW199.out); have hn201_2 : ad198.block ≠ gb199 := Nat.ne_of_lt (Nat.lt_of_lt_of_le (by have := World.block_lt_of_cell? _ _ hx201_0; first | rwa [add_block] at this | exact this) GW199.out); replace hx201_0 := (HB.out.cell (World.block_lt_of_cell? w _ hx201_0)).trans hx201_0; replace hx201_1 := (HB.out.cell (World.block_lt_of_cell? w _ hx201_1)).trans hx201_1; replace hx201_2 := (HB.out.cell (World.block_lt_of_cell? w _ hx201_2)).trans hx201_2; replace hx201_0 := (cell_far (p := ⟨gb199, 0, none⟩) (by first | (rw [add_block]; exact hn201_0) | (show (Addr.add _ _).block ≠ _; rw [add_block]; exact hn201_0) | exact hn201_0) (.int .i64 ((rd_T38 l0 x3_2).f0))).trans hx201_0; replace hx201_1 := (cell_far (p := ⟨gb199, 0, none⟩) (by first | (rw [add_block]; exact hn201_0) | (show (Addr.add _ _).block ≠ _; rw [add_block]; exact hn201_0) | exact hn201_0) (.int .i64 ((rd_T38 l0 x3_2).f0))).trans hx201_1; replace hx201_2 := (cell_far (p := ⟨gb199, 0, none⟩) (by first | (rw [add_block]; exact hn201_0) | (show (Addr.add _ _).block ≠ _; rw [add_block]; exact hn201_0) | exact hn201_0) (.int .i64 ((rd_T38 l0 x3_2).f0))).trans hx201_2; replace hx201_0 := (cell_far (p := ⟨gb199, 1, none⟩) (by first | (rw [add_block]; exact hn201_1) | (show (Addr.add _ _).block ≠ _; rw [add_block]; exact hn201_1) | exact hn201_1) (.int .i64 ((rd_T38 l0 x3_2).f1))).trans hx201_0; replace hx201_1 := (cell_far (p := ⟨gb199, 1, none⟩) (by first | (rw [add_block]; exact hn201_1) | (show (Addr.add _ _).block ≠ _; rw [add_block]; exact hn201_1) | exact hn201_1) (.int .i64 ((rd_T38 l0 x3_2).f1))).trans hx201_1; replace hx201_2 := (cell_far (p := ⟨gb199, 1, none⟩) (by first | (rw [add_block]; exact hn201_1) | (show (Addr.add _ _).block ≠ _; rw [add_block]; exact hn201_1) | exact hn201_1) (.int .i64 ((rd_T38 l0 x3_2).f1))).trans hx201_2; replace hx201_0 := (cell_far (p := ⟨gb199, 2, none⟩) (by first | (rw [add_block]; exact hn201_2) | (show (Addr.add _ _).block ≠ _; rw [add_block]; exact hn201_2) | exact hn201_2) (.int .i64 ((rd_T38 l0 x3_2).f2))).trans hx201_0; replace hx201_1 := (cell_far (p := ⟨gb199, 2, none⟩) (by first | (rw [add_block]; exact hn201_2) | (show (Addr.add _ _).block ≠ _; rw [add_block]; exact hn201_2) | exact hn201_2) (.int .i64 ((rd_T38 l0 x3_2).f2))).trans hx201_1; replace hx201_2 := (cell_far (p := ⟨gb199, 2, none⟩) (by first | (rw [add_block]; exact hn201_2) | (show (Addr.add _ _).block ≠ _; rw [add_block]; exact hn201_2) | exact hn201_2) (.int .i64 ((rd_T38 l0 x3_2).f2))).trans hx201_2; (try have hy201_0 := fun (n_ : Nat) => (show (((((w10.drewN n_).setCell ⟨gb199, 0, none⟩ (.int .i64 ((rd_T38 l0 x3_2).f0))).setCell ⟨gb199, 1, none⟩ (.int .i64 ((rd_T38 l0 x3_2).f1))).setCell ⟨gb199, 2, none⟩ (.int .i64 ((rd_T38 l0 x3_2).f2)))).cell? _ = some _ from hx201_0)); (try have hy201_1 := fun (n_ : Nat) => (show (((((w10.drewN n_).setCell ⟨gb199, 0, none⟩ (.int .i64 ((rd_T38 l0 x3_2).f0))).setCell ⟨gb199, 1, none⟩ (.int .i64 ((rd_T38 l0 x3_2).f1))).setCell ⟨gb199, 2, none⟩ (.int .i64 ((rd_T38 l0 x3_2).f2)))).cell? _ = some _ from hx201_1)); (try have hy201_2 := fun (n_ : Nat) => (show (((((w10.drewN n_).setCell ⟨gb199, 0, none⟩ (.int .i64 ((rd_T38 l0 x3_2).f0))).setCell ⟨gb199, 1, none⟩ (.int .i64 ((rd_T38 l0 x3_2).f1))).setCell ⟨gb199, 2, none⟩ (.int .i64 ((rd_T38 l0 x3_2).f2)))).cell? _ = some _ from hx201_2)); clear hn201_0; clear hn201_1; clear hn201_2; replace p201 := eq_true p201; replace q201 := eq_true q201) | (go_at_call 40; (with_reducible refine (spec_l01In.calls ((rd_T38 l0 x3_2).f1) 0 3 false _ A17.out).mono ?_); rintro e w' ⟨rfl, ⟨nd, rfl⟩⟩; (try first | exact ⟨rfl, _, World.drewN_drewN _ _ _⟩ | exact ⟨rfl, _, Eq.trans (World.drewN_drewN _ _ _) (congrArg (World.drewN _) (Nat.add_assoc _ _ _))⟩))))
                            go_meet
                            case rel => exact ⟨_, (true), (by first | rfl | (simp; done) | (simp [*]; done)), H', ⟨by have := HJ1.out; have := HK2.out; first | omega | exact Nat.le_refl _⟩, ⟨by (with_reducible repeat (first | refine blk_drewN ?_ _ | refine blk_drew ?_ | refine blk_alloc ?_ _)); refine blk_put (cs := #[.int .i64 ((rd_T38 l0 x3_2).f0), .int .i64 ((rd_T38 l0 x3_2).f1), .int .i64 0]) ?_ 2 _ rfl; (with_reducible repeat (first | refine blk_drewN ?_ _ | refine blk_drew ?_ | refine blk_alloc ?_ _)); refine blk_put (cs := #[.int .i64 ((rd_T38 l0 x3_2).f0), .int .i64 0, .int .i64 0]) ?_ 1 _ rfl; (with_reducible repeat (first | refine blk_drewN ?_ _ | refine blk_drew ?_ | refine blk_alloc ?_ _)); refine blk_put (cs := #[.int .i64 0, .int .i64 0, .int .i64 0]) ?_ 0 _ rfl; (with_reducible repeat (first | refine blk_drewN ?_ _ | refine blk_drew ?_ | refine blk_alloc ?_ _)); exact BK199.out⟩, ⟨by repeat (first | (with_reducible first | exact HB.out | apply below_alloc | apply pw_below_drewN | apply below_drew1 | refine below_set ?_ GE199.out) | exact HB.out)⟩⟩
                        · rw [if_neg c16] at H
                          have c16b0 : (((rd_T38 l0 ((rd_T38 l0 x3_2).f0)).f2) == 0) = false := beq_eq_false_iff_ne.mpr c16
                          have c16b1 : (((rd_T38 l0 ((rd_T38 l0 x3_2).f0)).f2) != 0) = true := bne_iff_ne.mpr c16
                          have H' := Aside0.mk H
                          clear H
                          have hcz22_0 : w10.cell? ⟨gb199, 0, none⟩ = some (.int .i64 0) := (blk_cell BK199.out 0).trans rfl
                          have hcz22_1 : w10.cell? ⟨gb199, 1, none⟩ = some (.int .i64 0) := (blk_cell BK199.out 1).trans rfl
                          have hcz22_2 : w10.cell? ⟨gb199, 2, none⟩ = some (.int .i64 0) := (blk_cell BK199.out 2).trans rfl
                          have hfz22_0 := blk_frozen BK199.out 0
                          have hfz22_1 := blk_frozen BK199.out 1
                          have hfz22_2 := blk_frozen BK199.out 2
                          go_wp2_with (first | (go_at_call 40; (with_reducible refine (spec_l01In.calls ((rd_T38 l0 x3_2).f0) 0 (wrap64 (x3_2 - 1)) true _ A12.out).mono ?_); rintro e w' ⟨rfl, ⟨nd, rfl⟩⟩; (try first | exact ⟨rfl, _, World.drewN_drewN _ _ _⟩ | exact ⟨rfl, _, Eq.trans (World.drewN_drewN _ _ _) (congrArg (World.drewN _) (Nat.add_assoc _ _ _))⟩); have p201 : 0 ≤ (((rd_T38 l0 x3_2).f0) : Int) := of_decide_eq_true (by first | (with_reducible assumption) | assumption); have q201 : ((rd_T38 l0 x3_2).f0) < (l0.length : Int) := of_decide_eq_true (by first | (with_reducible assumption) | assumption); obtain ⟨ad201, e201, hx201_0, hx201_1, hx201_2⟩ := at_T38 HR0.out ((rd_T38 l0 x3_2).f0) p201 q201; obtain rfl : ad198 = ad201 := (by injection e201); have hn201_0 : ad198.block ≠ gb199 := Nat.ne_of_lt (Nat.lt_of_lt_of_le (by have := World.block_lt_of_cell? _ _ hx201_0; first | rwa [add_block] at this | exact this) GW199.out); have hn201_1 : ad198.block ≠ gb199 := Nat.ne_of_lt (Nat.lt_of_lt_of_le (by have := World.block_lt_of_cell? _ _ hx201_0; first | rwa [add_block] at this | exact this) GW199.out); have hn201_2 : ad198.block ≠ gb199 := Nat.ne_of_lt (Nat.lt_of_lt_of_le (by have := World.block_lt_of_cell? _ _ hx201_0; first | rwa [add_block] at this | exact this) GW199.out); replace hx201_0 := (HB.out.cell (World.block_lt_of_cell? w _ hx201_0)).trans hx201_0; replace hx201_1 := (HB.out.cell (World.block_lt_of_cell? w _ hx201_1)).trans hx201_1; replace hx201_2 := (HB.out.cell (World.block_lt_of_cell? w _ hx201_2)).trans hx201_2; replace hx201_0 := (cell_far (p := ⟨gb199, 0, none⟩) (by first | (rw [add_block]; exact hn201_0) | (show (Addr.add _ _).block ≠ _; rw [add_block]; exact hn201_0) | exact hn201_0) (.int .i64 ((rd_T38 l0 x3_2).f0))).trans hx201_0; replace hx201_1 := (cell_far (p := ⟨gb199, 0, none⟩) (by first | (rw [add_block]; exact hn201_0) | (show (Addr.add _ _).block ≠ _; rw [add_block]; exact hn201_0) | exact hn201_0) (.int .i64 ((rd_T38 l0 x3_2).f0))).trans hx201_1; replace hx201_2 := (cell_far (p := ⟨gb199, 0, none⟩) (by first | (rw [add_block]; exact hn201_0) | (show (Addr.add _ _).block ≠ _; rw [add_block]; exact hn201_0) | exact hn201_0) (.int .i64 ((rd_T38 l0 x3_2).f0))).trans hx201_2; replace hx201_0 := (cell_far (p := ⟨gb199, 1, none⟩) (by first | (rw [add_block]; exact hn201_1) | (show (Addr.add _ _).block ≠ _; rw [add_block]; exact hn201_1) | exact hn201_1) (.int .i64 ((rd_T38 l0 x3_2).f1))).trans hx201_0; replace hx201_1 := (cell_far (p := ⟨gb199, 1, none⟩) (by first | (rw [add_block]; exact hn201_1) | (show (Addr.add _ _).block ≠ _; rw [add_block]; exact hn201_1) | exact hn201_1) (.int .i64 ((rd_T38 l0 x3_2).f1))).trans hx201_1; replace hx201_2 := (cell_far (p := ⟨gb199, 1, none⟩) (by first | (rw [add_block]; exact hn201_1) | (show (Addr.add _ _).block ≠ _; rw [add_block]; exact hn201_1) | exact hn201_1) (.int .i64 ((rd_T38 l0 x3_2).f1))).trans hx201_2; replace hx201_0 := (cell_far (p := ⟨gb199, 2, none⟩) (by first | (rw [add_block]; exact hn201_2) | (show (Addr.add _ _).block ≠ _; rw [add_block]; exact hn201_2) | exact hn201_2) (.int .i64 ((rd_T38 l0 x3_2).f2))).trans hx201_0; replace hx201_1 := (cell_far (p := ⟨gb199, 2, none⟩) (by first | (rw [add_block]; exact hn201_2) | (show (Addr.add _ _).block ≠ _; rw [add_block]; exact hn201_2) | exact hn201_2) (.int .i64 ((rd_T38 l0 x3_2).f2))).trans hx201_1; replace hx201_2 := (cell_far (p := ⟨gb199, 2, none⟩) (by first | (rw [add_block]; exact hn201_2) | (show (Addr.add _ _).block ≠ _; rw [add_block]; exact hn201_2) | exact hn201_2) (.int .i64 ((rd_T38 l0 x3_2).f2))).trans hx201_2; (try have hy201_0 := fun (n_ : Nat) => (show (((((w10.drewN n_).setCell ⟨gb199, 0, none⟩ (.int .i64 ((rd_T38 l0 x3_2).f0))).setCell ⟨gb199, 1, none⟩ (.int .i64 ((rd_T38 l0 x3_2).f1))).setCell ⟨gb199, 2, none⟩ (.int .i64 ((rd_T38 l0 x3_2).f2)))).cell? _ = some _ from hx201_0)); (try have hy201_1 := fun (n_ : Nat) => (show (((((w10.drewN n_).setCell ⟨gb199, 0, none⟩ (.int .i64 ((rd_T38 l0 x3_2).f0))).setCell ⟨gb199, 1, none⟩ (.int .i64 ((rd_T38 l0 x3_2).f1))).setCell ⟨gb199, 2, none⟩ (.int .i64 ((rd_T38 l0 x3_2).f2)))).cell? _ = some _ from hx201_1)); (try have hy201_2 := fun (n_ : Nat) => (show (((((w10.drewN n_).setCell ⟨gb199, 0, none⟩ (.int .i64 ((rd_T38 l0 x3_2).f0))).setCell ⟨gb199, 1, none⟩ (.int .i64 ((rd_T38 l0 x3_2).f1))).setCell ⟨gb199, 2, none⟩ (.int .i64 ((rd_T38 l0 x3_2).f2)))).cell? _ = some _ from hx201_2)); clear hn201_0; clear hn201_1; clear hn201_2; replace p201 := eq_true p201; replace q201 := eq_true q201))
                          repeat (go_quiet (first | (go_at_call 40; (with_reducible refine (spec_l01In.calls ((rd_T38 l0 x3_2).f0) 0 (wrap64 (x3_2 - 1)) true _ A12.out).mono ?_); rintro e w' ⟨rfl, ⟨nd, rfl⟩⟩; (try first | exact ⟨rfl, _, World.drewN_drewN _ _ _⟩ | exact ⟨rfl, _, Eq.trans (World.drewN_drewN _ _ _) (congrArg (World.drewN _) (Nat.add_assoc _ _ _))⟩); have p201 : 0 ≤ (((rd_T38 l0 x3_2).f0) : Int) := of_decide_eq_true (by first | (with_reducible assumption) | assumption); have q201 : ((rd_T38 l0 x3_2).f0) < (l0.length : Int) := of_decide_eq_true (by first | (with_reducible assumption) | assumption); obtain ⟨ad201, e201, hx201_0, hx201_1, hx201_2⟩ := at_T38 HR0.out ((rd_T38 l0 x3_2).f0) p201 q201; obtain rfl : ad198 = ad201 := (by injection e201); have hn201_0 : ad198.block ≠ gb199 := Nat.ne_of_lt (Nat.lt_of_lt_of_le (by have := World.block_lt_of_cell? _ _ hx201_0; first | rwa [add_block] at this | exact this) GW199.out); have hn201_1 : ad198.block ≠ gb199 := Nat.ne_of_lt (Nat.lt_of_lt_of_le (by have := World.block_lt_of_cell? _ _ hx201_0; first | rwa [add_block] at this | exact this) GW199.out); have hn201_2 : ad198.block ≠ gb199 := Nat.ne_of_lt (Nat.lt_of_lt_of_le (by have := World.block_lt_of_cell? _ _ hx201_0; first | rwa [add_block] at this | exact this) GW199.out); replace hx201_0 := (HB.out.cell (World.block_lt_of_cell? w _ hx201_0)).trans hx201_0; replace hx201_1 := (HB.out.cell (World.block_lt_of_cell? w _ hx201_1)).trans hx201_1; replace hx201_2 := (HB.out.cell (World.block_lt_of_cell? w _ hx201_2)).trans hx201_2; replace hx201_0 := (cell_far (p := ⟨gb199, 0, none⟩) (by first | (rw [add_block]; exact hn201_0) | (show (Addr.add _ _).block ≠ _; rw [add_block]; exact hn201_0) | exact hn201_0) (.int .i64 ((rd_T38 l0 x3_2).f0))).trans hx201_0; replace hx201_1 := (cell_far (p := ⟨gb199, 0, none⟩) (by first | (rw [add_block]; exact hn201_0) | (show (Addr.add _ _).block ≠ _; rw [add_block]; exact hn201_0) | exact hn201_0) (.int .i64 ((rd_T38 l0 x3_2).f0))).trans hx201_1; replace hx201_2 := (cell_far (p := ⟨gb199, 0, none⟩) (by first | (rw [add_block]; exact hn201_0) | (show (Addr.add _ _).block ≠ _; rw [add_block]; exact hn201_0) | exact hn201_0) (.int .i64 ((rd_T38 l0 x3_2).f0))).trans hx201_2; replace hx201_0 := (cell_far (p := ⟨gb199, 1, none⟩) (by first | (rw [add_block]; exact hn201_1) | (show (Addr.add _ _).block ≠ _; rw [add_block]; exact hn201_1) | exact hn201_1) (.int .i64 ((rd_T38 l0 x3_2).f1))).trans hx201_0; replace hx201_1 := (cell_far (p := ⟨gb199, 1, none⟩) (by first | (rw [add_block]; exact hn201_1) | (show (Addr.add _ _).block ≠ _; rw [add_block]; exact hn201_1) | exact hn201_1) (.int .i64 ((rd_T38 l0 x3_2).f1))).trans hx201_1; replace hx201_2 := (cell_far (p := ⟨gb199, 1, none⟩) (by first | (rw [add_block]; exact hn201_1) | (show (Addr.add _ _).block ≠ _; rw [add_block]; exact hn201_1) | exact hn201_1) (.int .i64 ((rd_T38 l0 x3_2).f1))).trans hx201_2; replace hx201_0 := (cell_far (p := ⟨gb199, 2, none⟩) (by first | (rw [add_block]; exact hn201_2) | (show (Addr.add _ _).block ≠ _; rw [add_block]; exact hn201_2) | exact hn201_2) (.int .i64 ((rd_T38 l0 x3_2).f2))).trans hx201_0; replace hx201_1 := (cell_far (p := ⟨gb199, 2, none⟩) (by first | (rw [add_block]; exact hn201_2) | (show (Addr.add _ _).block ≠ _; rw [add_block]; exact hn201_2) | exact hn201_2) (.int .i64 ((rd_T38 l0 x3_2).f2))).trans hx201_1; replace hx201_2 := (cell_far (p := ⟨gb199, 2, none⟩) (by first | (rw [add_block]; exact hn201_2) | (show (Addr.add _ _).block ≠ _; rw [add_block]; exact hn201_2) | exact hn201_2) (.int .i64 ((rd_T38 l0 x3_2).f2))).trans hx201_2; (try have hy201_0 := fun (n_ : Nat) => (show (((((w10.drewN n_).setCell ⟨gb199, 0, none⟩ (.int .i64 ((rd_T38 l0 x3_2).f0))).setCell ⟨gb199, 1, none⟩ (.int .i64 ((rd_T38 l0 x3_2).f1))).setCell ⟨gb199, 2, none⟩ (.int .i64 ((rd_T38 l0 x3_2).f2)))).cell? _ = some _ from hx201_0)); (try have hy201_1 := fun (n_ : Nat) => (show (((((w10.drewN n_).setCell ⟨gb199, 0, none⟩ (.int .i64 ((rd_T38 l0 x3_2).f0))).setCell ⟨gb199, 1, none⟩ (.int .i64 ((rd_T38 l0 x3_2).f1))).setCell ⟨gb199, 2, none⟩ (.int .i64 ((rd_T38 l0 x3_2).f2)))).cell? _ = some _ from hx201_1)); (try have hy201_2 := fun (n_ : Nat) => (show (((((w10.drewN n_).setCell ⟨gb199, 0, none⟩ (.int .i64 ((rd_T38 l0 x3_2).f0))).setCell ⟨gb199, 1, none⟩ (.int .i64 ((rd_T38 l0 x3_2).f1))).setCell ⟨gb199, 2, none⟩ (.int .i64 ((rd_T38 l0 x3_2).f2)))).cell? _ = some _ from hx201_2)); clear hn201_0; clear hn201_1; clear hn201_2; replace p201 := eq_true p201; replace q201 := eq_true q201)); try go_wp2_with (first | (go_at_call 40; (with_reducible refine (spec_l01In.calls ((rd_T38 l0 x3_2).f0) 0 (wrap64 (x3_2 - 1)) true _ A12.out).mono ?_); rintro e w' ⟨rfl, ⟨nd, rfl⟩⟩; (try first | exact ⟨rfl, _, World.drewN_drewN _ _ _⟩ | exact ⟨rfl, _, Eq.trans (World.drewN_drewN _ _ _) (congrArg (World.drewN _) (Nat.add_assoc _ _ _))⟩); have p201 : 0 ≤ (((rd_T38 l0 x3_2).f0) : Int) := of_decide_eq_true (by first | (with_reducible assumption) | assumption); have q201 : ((rd_T38 l0 x3_2).f0) < (l0.length : Int) := of_decide_eq_true (by first | (with_reducible assumption) | assumption); obtain ⟨ad201, e201, hx201_0, hx201_1, hx201_2⟩ := at_T38 HR0.out ((rd_T38 l0 x3_2).f0) p201 q201; obtain rfl : ad198 = ad201 := (by injection e201); have hn201_0 : ad198.block ≠ gb199 := Nat.ne_of_lt (Nat.lt_of_lt_of_le (by have := World.block_lt_of_cell? _ _ hx201_0; first | rwa [add_block] at this | exact this) GW199.out); have hn201_1 : ad198.block ≠ gb199 := Nat.ne_of_lt (Nat.lt_of_lt_of_le (by have := World.block_lt_of_cell? _ _ hx201_0; first | rwa [add_block] at this | exact this) GW199.out); have hn201_2 : ad198.block ≠ gb199 := Nat.ne_of_lt (Nat.lt_of_lt_of_le (by have := World.block_lt_of_cell? _ _ hx201_0; first | rwa [add_block] at this | exact this) GW199.out); replace hx201_0 := (HB.out.cell (World.block_lt_of_cell? w _ hx201_0)).trans hx201_0; replace hx201_1 := (HB.out.cell (World.block_lt_of_cell? w _ hx201_1)).trans hx201_1; replace hx201_2 := (HB.out.cell (World.block_lt_of_cell? w _ hx201_2)).trans hx201_2; replace hx201_0 := (cell_far (p := ⟨gb199, 0, none⟩) (by first | (rw [add_block]; exact hn201_0) | (show (Addr.add _ _).block ≠ _; rw [add_block]; exact hn201_0) | exact hn201_0) (.int .i64 ((rd_T38 l0 x3_2).f0))).trans hx201_0; replace hx201_1 := (cell_far (p := ⟨gb199, 0, none⟩) (by first | (rw [add_block]; exact hn201_0) | (show (Addr.add _ _).block ≠ _; rw [add_block]; exact hn201_0) | exact hn201_0) (.int .i64 ((rd_T38 l0 x3_2).f0))).trans hx201_1; replace hx201_2 := (cell_far (p := ⟨gb199, 0, none⟩) (by first | (rw [add_block]; exact hn201_0) | (show (Addr.add _ _).block ≠ _; rw [add_block]; exact hn201_0) | exact hn201_0) (.int .i64 ((rd_T38 l0 x3_2).f0))).trans hx201_2; replace hx201_0 := (cell_far (p := ⟨gb199, 1, none⟩) (by first | (rw [add_block]; exact hn201_1) | (show (Addr.add _ _).block ≠ _; rw [add_block]; exact hn201_1) | exact hn201_1) (.int .i64 ((rd_T38 l0 x3_2).f1))).trans hx201_0; replace hx201_1 := (cell_far (p := ⟨gb199, 1, none⟩) (by first | (rw [add_block]; exact hn201_1) | (show (Addr.add _ _).block ≠ _; rw [add_block]; exact hn201_1) | exact hn201_1) (.int .i64 ((rd_T38 l0 x3_2).f1))).trans hx201_1; replace hx201_2 := (cell_far (p := ⟨gb199, 1, none⟩) (by first | (rw [add_block]; exact hn201_1) | (show (Addr.add _ _).block ≠ _; rw [add_block]; exact hn201_1) | exact hn201_1) (.int .i64 ((rd_T38 l0 x3_2).f1))).trans hx201_2; replace hx201_0 := (cell_far (p := ⟨gb199, 2, none⟩) (by first | (rw [add_block]; exact hn201_2) | (show (Addr.add _ _).block ≠ _; rw [add_block]; exact hn201_2) | exact hn201_2) (.int .i64 ((rd_T38 l0 x3_2).f2))).trans hx201_0; replace hx201_1 := (cell_far (p := ⟨gb199, 2, none⟩) (by first | (rw [add_block]; exact hn201_2) | (show (Addr.add _ _).block ≠ _; rw [add_block]; exact hn201_2) | exact hn201_2) (.int .i64 ((rd_T38 l0 x3_2).f2))).trans hx201_1; replace hx201_2 := (cell_far (p := ⟨gb199, 2, none⟩) (by first | (rw [add_block]; exact hn201_2) | (show (Addr.add _ _).block ≠ _; rw [add_block]; exact hn201_2) | exact hn201_2) (.int .i64 ((rd_T38 l0 x3_2).f2))).trans hx201_2; (try have hy201_0 := fun (n_ : Nat) => (show (((((w10.drewN n_).setCell ⟨gb199, 0, none⟩ (.int .i64 ((rd_T38 l0 x3_2).f0))).setCell ⟨gb199, 1, none⟩ (.int .i64 ((rd_T38 l0 x3_2).f1))).setCell ⟨gb199, 2, none⟩ (.int .i64 ((rd_T38 l0 x3_2).f2)))).cell? _ = some _ from hx201_0)); (try have hy201_1 := fun (n_ : Nat) => (show (((((w10.drewN n_).setCell ⟨gb199, 0, none⟩ (.int .i64 ((rd_T38 l0 x3_2).f0))).setCell ⟨gb199, 1, none⟩ (.int .i64 ((rd_T38 l0 x3_2).f1))).setCell ⟨gb199, 2, none⟩ (.int .i64 ((rd_T38 l0 x3_2).f2)))).cell? _ = some _ from hx201_1)); (try have hy201_2 := fun (n_ : Nat) => (show (((((w10.drewN n_).setCell ⟨gb199, 0, none⟩ (.int .i64 ((rd_T38 l0 x3_2).f0))).setCell ⟨gb199, 1, none⟩ (.int .i64 ((rd_T38 l0 x3_2).f1))).setCell ⟨gb199, 2, none⟩ (.int .i64 ((rd_T38 l0 x3_2).f2)))).cell? _ = some _ from hx201_2)); clear hn201_0; clear hn201_1; clear hn201_2; replace p201 := eq_true p201; replace q201 := eq_true q201)))
                          go_meet
                          case rel => exact ⟨_, (true), (by first | rfl | (simp; done) | (simp [*]; done)), H', ⟨by have := HJ1.out; have := HK2.out; first | omega | exact Nat.le_refl _⟩, ⟨by (with_reducible repeat (first | refine blk_drewN ?_ _ | refine blk_drew ?_ | refine blk_alloc ?_ _)); refine blk_put (cs := #[.int .i64 ((rd_T38 l0 x3_2).f0), .int .i64 ((rd_T38 l0 x3_2).f1), .int .i64 0]) ?_ 2 _ rfl; (with_reducible repeat (first | refine blk_drewN ?_ _ | refine blk_drew ?_ | refine blk_alloc ?_ _)); refine blk_put (cs := #[.int .i64 ((rd_T38 l0 x3_2).f0), .int .i64 0, .int .i64 0]) ?_ 1 _ rfl; (with_reducible repeat (first | refine blk_drewN ?_ _ | refine blk_drew ?_ | refine blk_alloc ?_ _)); refine blk_put (cs := #[.int .i64 0, .int .i64 0, .int .i64 0]) ?_ 0 _ rfl; (with_reducible repeat (first | refine blk_drewN ?_ _ | refine blk_drew ?_ | refine blk_alloc ?_ _)); exact BK199.out⟩, ⟨by repeat (first | (with_reducible first | exact HB.out | apply below_alloc | apply pw_below_drewN | apply below_drew1 | refine below_set ?_ GE199.out) | exact HB.out)⟩⟩
                      · rw [if_neg c15] at H
                        exact absurd H (by simp)
                    · rw [if_neg c14] at H
                      exact absurd H (by simp)
                  · replace c13 := Bool.eq_false_iff.mpr c13
                    subst c13
                    have H1 : (spec_TreeOk.j2 k2 l0 x3_2 true ((rd_T38 l0 x3_2).f0) ((rd_T38 l0 x3_2).f1) ((rd_T38 l0 x3_2).f2)) = some r := by rw [if_neg (show ¬ (false = true) by decide)] at H; exact H
                    clear H
                    have H := H1
                    clear H1
                    have H' := Aside0.mk H
                    clear H
                    have hcz23_0 : w10.cell? ⟨gb199, 0, none⟩ = some (.int .i64 0) := (blk_cell BK199.out 0).trans rfl
                    have hcz23_1 : w10.cell? ⟨gb199, 1, none⟩ = some (.int .i64 0) := (blk_cell BK199.out 1).trans rfl
                    have hcz23_2 : w10.cell? ⟨gb199, 2, none⟩ = some (.int .i64 0) := (blk_cell BK199.out 2).trans rfl
                    have hfz23_0 := blk_frozen BK199.out 0
                    have hfz23_1 := blk_frozen BK199.out 1
                    have hfz23_2 := blk_frozen BK199.out 2
                    go_wp2_with (first | (go_at_call 40; (with_reducible refine (spec_l01In.calls ((rd_T38 l0 x3_2).f0) 0 (wrap64 (x3_2 - 1)) false _ A12.out).mono ?_); rintro e w' ⟨rfl, ⟨nd, rfl⟩⟩; (try first | exact ⟨rfl, _, World.drewN_drewN _ _ _⟩ | exact ⟨rfl, _, Eq.trans (World.drewN_drewN _ _ _) (congrArg (World.drewN _) (Nat.add_assoc _ _ _))⟩)))
                    repeat (go_quiet (first | (go_at_call 40; (with_reducible refine (spec_l01In.calls ((rd_T38 l0 x3_2).f0) 0 (wrap64 (x3_2 - 1)) false _ A12.out).mono ?_); rintro e w' ⟨rfl, ⟨nd, rfl⟩⟩; (try first | exact ⟨rfl, _, World.drewN_drewN _ _ _⟩ | exact ⟨rfl, _, Eq.trans (World.drewN_drewN _ _ _) (congrArg (World.drewN _) (Nat.add_assoc _ _ _))⟩))); try go_wp2_with (first | (go_at_call 40; (with_reducible refine (spec_l01In.calls ((rd_T38 l0 x3_2).f0) 0 (wrap64 (x3_2 - 1)) false _ A12.out).mono ?_); rintro e w' ⟨rfl, ⟨nd, rfl⟩⟩; (try first | exact ⟨rfl, _, World.drewN_drewN _ _ _⟩ | exact ⟨rfl, _, Eq.trans (World.drewN_drewN _ _ _) (congrArg (World.drewN _) (Nat.add_assoc _ _ _))⟩))))
                    go_meet
                    case rel => exact ⟨_, (true), (by first | rfl | (simp; done) | (simp [*]; done)), H', ⟨by have := HJ1.out; have := HK2.out; first | omega | exact Nat.le_refl _⟩, ⟨by (with_reducible repeat (first | refine blk_drewN ?_ _ | refine blk_drew ?_ | refine blk_alloc ?_ _)); refine blk_put (cs := #[.int .i64 ((rd_T38 l0 x3_2).f0), .int .i64 ((rd_T38 l0 x3_2).f1), .int .i64 0]) ?_ 2 _ rfl; (with_reducible repeat (first | refine blk_drewN ?_ _ | refine blk_drew ?_ | refine blk_alloc ?_ _)); refine blk_put (cs := #[.int .i64 ((rd_T38 l0 x3_2).f0), .int .i64 0, .int .i64 0]) ?_ 1 _ rfl; (with_reducible repeat (first | refine blk_drewN ?_ _ | refine blk_drew ?_ | refine blk_alloc ?_ _)); refine blk_put (cs := #[.int .i64 0, .int .i64 0, .int .i64 0]) ?_ 0 _ rfl; (with_reducible repeat (first | refine blk_drewN ?_ _ | refine blk_drew ?_ | refine blk_alloc ?_ _)); exact BK199.out⟩, ⟨by repeat (first | (with_reducible first | exact HB.out | apply below_alloc | apply pw_below_drewN | apply below_drew1 | refine below_set ?_ GE199.out) | exact HB.out)⟩⟩
                case rest =>
                  clear HC9
                  try clear c1
                  try clear p1
                  try clear q1
                  try clear hx1
                  try clear qi1
                  try clear p2
                  try clear q2
                  try clear hx2
                  try clear c4
                  try clear c5
                  try clear c5b0
                  try clear c5b1
                  try clear c6
                  try clear p6
                  try clear c7
                  try clear c7b0
                  try clear c8
                  try clear c8b0
                  try clear c12
                  try clear c13
                  try clear c14
                  try clear c14b0
                  try clear c15
                  try clear c15b0
                  try clear c16
                  try clear c16b0
                  try clear c16b1
                  try clear c18
                  try clear p19
                  try clear q19
                  try clear hx19
                  try clear qi19
                  try clear p20
                  try clear q20
                  try clear hx20
                  try clear hcz11_0
                  try clear hcz11_1
                  try clear hcz11_2
                  try clear hcz20_0
                  try clear hcz20_1
                  try clear hcz20_2
                  try clear hcz21_0
                  try clear hcz21_1
                  try clear hcz21_2
                  try clear hcz22_0
                  try clear hcz22_1
                  try clear hcz22_2
                  try clear hcz23_0
                  try clear hcz23_1
                  try clear hcz23_2
                  try clear hfz11_0
                  try clear hfz11_1
                  try clear hfz11_2
                  try clear hfz20_0
                  try clear hfz20_1
                  try clear hfz20_2
                  try clear hfz21_0
                  try clear hfz21_1
                  try clear hfz21_2
                  try clear hfz22_0
                  try clear hfz22_1
                  try clear hfz22_2
                  try clear hfz23_0
                  try clear hfz23_1
                  try clear hfz23_2
                  try clear hx197_0
                  try clear hx197_1
                  try clear hx197_2
                  try clear hx198_0
                  try clear hx198_1
                  try clear hx198_2
                  try clear hx201_0
                  try clear hx201_1
                  try clear hx201_2
                  try clear p1
                  try clear p197
                  try clear p198
                  try clear p2
                  try clear p201
                  try clear q1
                  try clear q197
                  try clear q198
                  try clear q201
                  obtain ⟨kq, x53_8, rfl, HA, HJ8, BK199, HB⟩ := hcut
                  cases kq with
                  | zero => exact absurd HA.out (by simp [spec_TreeOk.j2])
                  | succ kj8 =>
                    have H := HA.out
                    clear HA
                    simp only [spec_TreeOk.j2] at H
                    by_cases c24 : x53_8 = true
                    · subst c24
                      have H1 : (some false) = some r := by rw [if_pos rfl] at H; exact H
                      clear H
                      have H := H1
                      clear H1
                      obtain rfl := Option.some.inj H
                      go_wp2
                      repeat (go_quiet (fail); try go_wp2)
                      go_ret
                      exact ⟨by first | rfl | (simp [errW_none, errW_some] <;> rfl) | (simp [*, errW_none, errW_some] <;> rfl), by repeat (first | (with_reducible first | exact HB.out | apply below_alloc | apply pw_below_drewN | apply below_drew1 | refine below_set ?_ GE199.out) | exact HB.out)⟩
                    · replace c24 := Bool.eq_false_iff.mpr c24
                      subst c24
                      have H1 : (spec_TreeOk.l1 kj8 l0 x3_2 1 ((rd_T38 l0 x3_2).f0) ((rd_T38 l0 x3_2).f1) ((rd_T38 l0 x3_2).f2)) = some r := by rw [if_neg (show ¬ (false = true) by decide)] at H; exact H
                      clear H
                      have H := H1
                      clear H1
                      have H' := Aside0.mk H
                      clear H
                      go_wp2
                      repeat (go_quiet (fail); try go_wp2)
                      go_loopg [5] kj8 (fun kq v5 w' => ∃ (x5_4 : Int), v5 = .int .i64 x5_4 ∧ Aside0 (spec_TreeOk.l1 kq l0 x3_2 x5_4 ((rd_T38 l0 x3_2).f0) ((rd_T38 l0 x3_2).f1) ((rd_T38 l0 x3_2).f2) = some r) ∧ Aside0 (kq ≤ kj8) ∧ Aside0 (w'.heap[gb199]? = some (.cells #[.int .i64 ((rd_T38 l0 x3_2).f0), .int .i64 ((rd_T38 l0 x3_2).f1), .int .i64 ((rd_T38 l0 x3_2).f2)] 38 (0, 0))) ∧ Aside0 (Below w.heap.size w w'))
                      case atStart => exact ⟨(1), (by first | rfl | (simp; done) | (simp [*]; done)), H', ⟨Nat.le_refl _⟩, ⟨by (with_reducible repeat (first | refine blk_drewN ?_ _ | refine blk_drew ?_ | refine blk_alloc ?_ _)); exact BK199.out⟩, ⟨by repeat (first | (with_reducible first | exact HB.out | apply below_alloc | apply pw_below_drewN | apply below_drew1 | refine below_set ?_ GE199.out) | exact HB.out)⟩⟩
                      case round =>
                        clear H'
                        try clear c1
                        try clear p1
                        try clear q1
                        try clear hx1
                        try clear qi1
                        try clear c2
                        try clear p2
                        try clear q2
                        try clear hx2
                        try clear c4
                        try clear c5
                        try clear c5b0
                        try clear c5b1
                        try clear c6
                        try clear p6
                        try clear c7
                        try clear c7b0
                        try clear c8
                        try clear c8b0
                        try clear c12
                        try clear c13
                        try clear c14
                        try clear c14b0
                        try clear c15
                        try clear c15b0
                        try clear c16
                        try clear c16b0
                        try clear c16b1
                        try clear c18
                        try clear p19
                        try clear q19
                        try clear hx19
                        try clear qi19
                        try clear p20
                        try clear q20
                        try clear hx20
                        try clear c24
                        try clear hcz11_0
                        try clear hcz11_1
                        try clear hcz11_2
                        try clear hcz20_0
                        try clear hcz20_1
                        try clear hcz20_2
                        try clear hcz21_0
                        try clear hcz21_1
                        try clear hcz21_2
                        try clear hcz22_0
                        try clear hcz22_1
                        try clear hcz22_2
                        try clear hcz23_0
                        try clear hcz23_1
                        try clear hcz23_2
                        try clear hfz11_0
                        try clear hfz11_1
                        try clear hfz11_2
                        try clear hfz20_0
                        try clear hfz20_1
                        try clear hfz20_2
                        try clear hfz21_0
                        try clear hfz21_1
                        try clear hfz21_2
                        try clear hfz22_0
                        try clear hfz22_1
                        try clear hfz22_2
                        try clear hfz23_0
                        try clear hfz23_1
                        try clear hfz23_2
                        try clear hx197_0
                        try clear hx197_1
                        try clear hx197_2
                        try clear hx198_0
                        try clear hx198_1
                        try clear hx198_2
                        try clear hx201_0
                        try clear hx201_1
                        try clear hx201_2
                        try clear p1
                        try clear p19
                        try clear p197
                        try clear p198
                        try clear p2
                        try clear p20
                        try clear p201
                        try clear p6
                        try clear q1
                        try clear q19
                        try clear q197
                        try clear q198
                        try clear q2
                        try clear q20
                        try clear q201
                        obtain ⟨x5_4, rfl, HA, HK4, BK199, HB⟩ := hrel
                        cases gk with
                        | zero => exact absurd HA.out (by simp [spec_TreeOk.l1])
                        | succ k4 =>
                          have H := HA.out
                          clear HA
                          simp only [spec_TreeOk.l1] at H
                          by_cases c25 : x5_4 < x3_2
                          · rw [if_pos c25] at H
                            have c25b0 : decide (x5_4 < x3_2) = true := decide_eq_true c25
                            clear c25
                            by_cases c26 : 0 ≤ x5_4
                            · rw [if_pos c26] at H
                              have c26b0 : decide (0 ≤ x5_4) = true := decide_eq_true c26
                              clear c26
                              by_cases c27 : x5_4 < (l0.length : Int)
                              · rw [if_pos c27] at H
                                have c27b0 : decide (x5_4 < (l0.length : Int)) = true := decide_eq_true c27
                                clear c27
                                by_cases c28 : ((rd_T38 l0 x5_4).f0) = ((rd_T38 l0 x3_2).f0)
                                · rw [if_pos c28] at H
                                  have c28b0 : (((rd_T38 l0 x5_4).f0) == ((rd_T38 l0 x3_2).f0)) = true := beq_iff_eq.mpr c28
                                  have c28b1 : (((rd_T38 l0 x5_4).f0) != ((rd_T38 l0 x3_2).f0)) = false := bne_eq_false_iff_eq.mpr c28
                                  clear c28
                                  by_cases c29 : ((rd_T38 l0 x5_4).f1) = ((rd_T38 l0 x3_2).f1)
                                  · rw [if_pos c29] at H
                                    have c29b0 : (((rd_T38 l0 x5_4).f1) == ((rd_T38 l0 x3_2).f1)) = true := beq_iff_eq.mpr c29
                                    have c29b1 : (((rd_T38 l0 x5_4).f1) != ((rd_T38 l0 x3_2).f1)) = false := bne_eq_false_iff_eq.mpr c29
                                    clear c29
                                    obtain rfl := Option.some.inj H
                                    have p204 : 0 ≤ (x5_4 : Int) := of_decide_eq_true (by first | (with_reducible assumption) | assumption)
                                    have q204 : x5_4 < (l0.length : Int) := of_decide_eq_true (by first | (with_reducible assumption) | assumption)
                                    obtain ⟨ad204, e204, hx204_0, hx204_1, hx204_2⟩ := at_T38 HR0.out x5_4 p204 q204
                                    obtain rfl : ad198 = ad204 := (by injection e204)
                                    replace hx204_0 := (HB.out.cell (World.block_lt_of_cell? w _ hx204_0)).trans hx204_0
                                    replace hx204_1 := (HB.out.cell (World.block_lt_of_cell? w _ hx204_1)).trans hx204_1
                                    replace hx204_2 := (HB.out.cell (World.block_lt_of_cell? w _ hx204_2)).trans hx204_2
                                    replace p204 := eq_true p204
                                    replace q204 := eq_true q204
                                    have hcz30_0 : wr.cell? ⟨gb199, 0, none⟩ = some (.int .i64 ((rd_T38 l0 x3_2).f0)) := (blk_cell BK199.out 0).trans rfl
                                    have hcz30_1 : wr.cell? ⟨gb199, 1, none⟩ = some (.int .i64 ((rd_T38 l0 x3_2).f1)) := (blk_cell BK199.out 1).trans rfl
                                    have hcz30_2 : wr.cell? ⟨gb199, 2, none⟩ = some (.int .i64 ((rd_T38 l0 x3_2).f2)) := (blk_cell BK199.out 2).trans rfl
                                    have hfz30_0 := blk_frozen BK199.out 0
                                    have hfz30_1 := blk_frozen BK199.out 1
                                    have hfz30_2 := blk_frozen BK199.out 2
                                    have p205 : 0 ≤ (x5_4 : Int) := of_decide_eq_true (by first | (with_reducible assumption) | assumption)
                                    have q205 : x5_4 < (l0.length : Int) := of_decide_eq_true (by first | (with_reducible assumption) | assumption)
                                    obtain ⟨ad205, e205, hx205_0, hx205_1, hx205_2⟩ := at_T38 HR0.out x5_4 p205 q205
                                    obtain rfl : ad198 = ad205 := (by injection e205)
                                    replace hx205_0 := (HB.out.cell (World.block_lt_of_cell? w _ hx205_0)).trans hx205_0
                                    replace hx205_1 := (HB.out.cell (World.block_lt_of_cell? w _ hx205_1)).trans hx205_1
                                    replace hx205_2 := (HB.out.cell (World.block_lt_of_cell? w _ hx205_2)).trans hx205_2
                                    replace p205 := eq_true p205
                                    replace q205 := eq_true q205
                                    go_wp2
                                    repeat (go_quiet (fail); try go_wp2)
                                    go_ret
                                    exact ⟨by first | rfl | (simp [errW_none, errW_some] <;> rfl) | (simp [*, errW_none, errW_some] <;> rfl), by repeat (first | (with_reducible first | exact HB.out | apply below_alloc | apply pw_below_drewN | apply below_drew1 | refine below_set ?_ GE199.out) | exact HB.out)⟩
                                  · rw [if_neg c29] at H
                                    have c29b0 : (((rd_T38 l0 x5_4).f1) == ((rd_T38 l0 x3_2).f1)) = false := beq_eq_false_iff_ne.mpr c29
                                    have c29b1 : (((rd_T38 l0 x5_4).f1) != ((rd_T38 l0 x3_2).f1)) = true := bne_iff_ne.mpr c29
                                    have H' := Aside0.mk H
                                    clear H
                                    have p204 : 0 ≤ (x5_4 : Int) := of_decide_eq_true (by first | (with_reducible assumption) | assumption)
                                    have q204 : x5_4 < (l0.length : Int) := of_decide_eq_true (by first | (with_reducible assumption) | assumption)
                                    obtain ⟨ad204, e204, hx204_0, hx204_1, hx204_2⟩ := at_T38 HR0.out x5_4 p204 q204
                                    obtain rfl : ad198 = ad204 := (by injection e204)
                                    replace hx204_0 := (HB.out.cell (World.block_lt_of_cell? w _ hx204_0)).trans hx204_0
                                    replace hx204_1 := (HB.out.cell (World.block_lt_of_cell? w _ hx204_1)).trans hx204_1
                                    replace hx204_2 := (HB.out.cell (World.block_lt_of_cell? w _ hx204_2)).trans hx204_2
                                    replace p204 := eq_true p204
                                    replace q204 := eq_true q204
                                    have hcz31_0 : wr.cell? ⟨gb199, 0, none⟩ = some (.int .i64 ((rd_T38 l0 x3_2).f0)) := (blk_cell BK199.out 0).trans rfl
                                    have hcz31_1 : wr.cell? ⟨gb199, 1, none⟩ = some (.int .i64 ((rd_T38 l0 x3_2).f1)) := (blk_cell BK199.out 1).trans rfl
                                    have hcz31_2 : wr.cell? ⟨gb199, 2, none⟩ = some (.int .i64 ((rd_T38 l0 x3_2).f2)) := (blk_cell BK199.out 2).trans rfl
                                    have hfz31_0 := blk_frozen BK199.out 0
                                    have hfz31_1 := blk_frozen BK199.out 1
                                    have hfz31_2 := blk_frozen BK199.out 2
                                    have p205 : 0 ≤ (x5_4 : Int) := of_decide_eq_true (by first | (with_reducible assumption) | assumption)
                                    have q205 : x5_4 < (l0.length : Int) := of_decide_eq_true (by first | (with_reducible assumption) | assumption)
                                    obtain ⟨ad205, e205, hx205_0, hx205_1, hx205_2⟩ := at_T38 HR0.out x5_4 p205 q205
                                    obtain rfl : ad198 = ad205 := (by injection e205)
                                    replace hx205_0 := (HB.out.cell (World.block_lt_of_cell? w _ hx205_0)).trans hx205_0
                                    replace hx205_1 := (HB.out.cell (World.block_lt_of_cell? w _ hx205_1)).trans hx205_1
                                    replace hx205_2 := (HB.out.cell (World.block_lt_of_cell? w _ hx205_2)).trans hx205_2
                                    replace p205 := eq_true p205
                                    replace q205 := eq_true q205
                                    go_wp2
                                    repeat (go_quiet (fail); try go_wp2)
                                    go_roundg k4
                                    case measure => have := HJ1.out; have := HK2.out; have := HJ8.out; have := HK4.out; omega
                                    case rel => exact ⟨(wrap64 (x5_4 + 1)), (by first | rfl | (simp; done) | (simp [*]; done)), H', ⟨by have := HJ1.out; have := HK2.out; have := HJ8.out; have := HK4.out; omega⟩, ⟨by (with_reducible repeat (first | refine blk_drewN ?_ _ | refine blk_drew ?_ | refine blk_alloc ?_ _)); exact BK199.out⟩, ⟨by repeat (first | (with_reducible first | exact HB.out | apply below_alloc | apply pw_below_drewN | apply below_drew1 | refine below_set ?_ GE199.out) | exact HB.out)⟩⟩
                                · rw [if_neg c28] at H
                                  have c28b0 : (((rd_T38 l0 x5_4).f0) == ((rd_T38 l0 x3_2).f0)) = false := beq_eq_false_iff_ne.mpr c28
                                  have c28b1 : (((rd_T38 l0 x5_4).f0) != ((rd_T38 l0 x3_2).f0)) = true := bne_iff_ne.mpr c28
                                  have H' := Aside0.mk H
                                  clear H
                                  have p204 : 0 ≤ (x5_4 : Int) := of_decide_eq_true (by first | (with_reducible assumption) | assumption)
                                  have q204 : x5_4 < (l0.length : Int) := of_decide_eq_true (by first | (with_reducible assumption) | assumption)
                                  obtain ⟨ad204, e204, hx204_0, hx204_1, hx204_2⟩ := at_T38 HR0.out x5_4 p204 q204
                                  obtain rfl : ad198 = ad204 := (by injection e204)
                                  replace hx204_0 := (HB.out.cell (World.block_lt_of_cell? w _ hx204_0)).trans hx204_0
                                  replace hx204_1 := (HB.out.cell (World.block_lt_of_cell? w _ hx204_1)).trans hx204_1
                                  replace hx204_2 := (HB.out.cell (World.block_lt_of_cell? w _ hx204_2)).trans hx204_2
                                  replace p204 := eq_true p204
                                  replace q204 := eq_true q204
                                  have hcz32_0 : wr.cell? ⟨gb199, 0, none⟩ = some (.int .i64 ((rd_T38 l0 x3_2).f0)) := (blk_cell BK199.out 0).trans rfl
                                  have hcz32_1 : wr.cell? ⟨gb199, 1, none⟩ = some (.int .i64 ((rd_T38 l0 x3_2).f1)) := (blk_cell BK199.out 1).trans rfl
                                  have hcz32_2 : wr.cell? ⟨gb199, 2, none⟩ = some (.int .i64 ((rd_T38 l0 x3_2).f2)) := (blk_cell BK199.out 2).trans rfl
                                  have hfz32_0 := blk_frozen BK199.out 0
                                  have hfz32_1 := blk_frozen BK199.out 1
                                  have hfz32_2 := blk_frozen BK199.out 2
                                  go_wp2
                                  repeat (go_quiet (fail); try go_wp2)
                                  go_roundg k4
                                  case measure => have := HJ1.out; have := HK2.out; have := HJ8.out; have := HK4.out; omega
                                  case rel => exact ⟨(wrap64 (x5_4 + 1)), (by first | rfl | (simp; done) | (simp [*]; done)), H', ⟨by have := HJ1.out; have := HK2.out; have := HJ8.out; have := HK4.out; omega⟩, ⟨by (with_reducible repeat (first | refine blk_drewN ?_ _ | refine blk_drew ?_ | refine blk_alloc ?_ _)); exact BK199.out⟩, ⟨by repeat (first | (with_reducible first | exact HB.out | apply below_alloc | apply pw_below_drewN | apply below_drew1 | refine below_set ?_ GE199.out) | exact HB.out)⟩⟩
                              · rw [if_neg c27] at H
                                exact absurd H (by simp)
                            · rw [if_neg c26] at H
                              exact absurd H (by simp)
                          · rw [if_neg c25] at H
                            have c25b0 : decide (x5_4 < x3_2) = false := decide_eq_false c25
                            clear c25
                            have H' := Aside0.mk H
                            clear H
                            go_wp2
                            repeat (go_quiet (fail); try go_wp2)
                            go_roundg k4
                            case measure => have := HJ1.out; have := HK2.out; have := HJ8.out; have := HK4.out; omega
                            case rel => exact ⟨(wrap64 (x3_2 + 1)), (by first | rfl | (simp; done) | (simp [*]; done)), H', ⟨by have := HJ1.out; have := HK2.out; have := HJ8.out; have := HK4.out; omega⟩, ⟨by repeat (first | (with_reducible first | exact HB.out | apply below_alloc | apply pw_below_drewN | apply below_drew1 | refine below_set ?_ GE199.out) | exact HB.out)⟩⟩
              · rw [if_neg c8] at H
                exact absurd H (by simp)
            · rw [if_neg c7] at H
              have c7b0 : decide (x3_2 < (l0.length : Int)) = false := decide_eq_false c7
              clear c7
              obtain rfl := Option.some.inj H
              go_wp2
              repeat (go_quiet (fail); try go_wp2)
              go_ret
              exact ⟨by first | rfl | (simp [errW_none, errW_some] <;> rfl) | (simp [*, errW_none, errW_some] <;> rfl), by repeat (first | (with_reducible first | exact HB.out | apply below_alloc | apply pw_below_drewN | apply below_drew1) | exact HB.out)⟩

/-! ### spec_l19Ok: function 54 -/
def spec_l19Ok.f (k : Nat) (l0 : List (S38)) (a1 : Int) : Option (Bool) := (spec_TreeOk.f k l0).bind fun t206 => (if t206 = true then ((spec_l01In.f a1 0 (wrap64 ((l0.length : Int) - 1))).bind fun t207 => (some t207)) else (some false))
theorem spec_l19Ok.mono : ∀ a0 a1 k, LeO (spec_l19Ok.f k a0 a1) (spec_l19Ok.f (k + 1) a0 a1) := by
  intro a0 a1 k
  unfold spec_l19Ok.f
  repeat' first
      | (with_reducible exact spec_TreeOk.mono _ _)
      | (with_reducible exact LeO.refl _)
      | (with_reducible exact LeO.none _)
      | (with_reducible refine LeO.ite ?_ ?_)
      | (with_reducible refine LeO.bind ?_ (fun _ => ?_))
      | exact spec_TreeOk.mono _ _
      | exact LeO.none _
      | refine LeO.ite ?_ ?_
      | refine LeO.bind ?_ (fun _ => ?_)
set_option maxHeartbeats 8000000 in
set_option maxRecDepth 100000 in
theorem spec_l19Ok.calls (k : Nat) (A0 : Option Addr) (c0 : Nat) (l0 : List (S38)) (a1 : Int) (r : Bool) (w : World) (hr0 : Kd.C k38 w A0 l0.length l0) (hc0 : l0.length ≤ c0) (h : spec_l19Ok.f k l0 a1 = some r) :
    Calls Try.prog 54 #[.slice A0 l0.length c0, .int .i64 a1] w fun e w' => e = .returned (.bool r) ∧ Below w.heap.size w w' := by
  have HR0 := Aside0.mk hr0
  have HC0 := Aside0.mk hc0
  clear hr0 hc0
  have HB := Aside0.mk (Below.refl w.heap.size w)
  have H : ((spec_TreeOk.f k l0).bind fun t206 => (if t206 = true then ((spec_l01In.f a1 0 (wrap64 ((l0.length : Int) - 1))).bind fun t207 => (some t207)) else (some false))) = some r := h
  clear h
  replace H := Option.bind_eq_some_iff.mp H
  obtain ⟨t206, A30, H⟩ := H
  replace H : (if t206 = true then ((spec_l01In.f a1 0 (wrap64 ((l0.length : Int) - 1))).bind fun t207 => (some t207)) else (some false)) = some r := H
  have A3 := Aside0.mk A30
  clear A30
  by_cases c4 : t206 = true
  · subst c4
    have H1 : ((spec_l01In.f a1 0 (wrap64 ((l0.length : Int) - 1))).bind fun t207 => (some t207)) = some r := by rw [if_pos rfl] at H; exact H
    clear H
    have H := H1
    clear H1
    replace H := Option.bind_eq_some_iff.mp H
    obtain ⟨t207, A50, H⟩ := H
    replace H : (some t207) = some r := H
    have A5 := Aside0.mk A50
    clear A50
    obtain rfl := Option.some.inj H
    go_enter Try.func54, Try.ntmps54
    go_wp2_with (first | ((with_reducible refine gate_callee (f := 12) rfl ?_); refine goesL_ (some 6) rfl rfl Try.func12 (by kernel_rfl) rfl #[.slice A0 l0.length c0] rfl (by (try simp only [List.map_toArray, List.map_cons, List.map_nil]); first | done | rfl | (simp only [List.length_drop, List.length_take]; rfl)) ?_; (with_reducible refine (spec_TreeOk.calls k _ _ l0 true _ ?side1 ?side2 A3.out).mono ?_); (case side1 => repeat (first | exact HR0.out | (with_reducible refine Kd.C_alloc ?_ _) | (with_reducible refine Kd.C_drewN ?_ _) | (with_reducible refine Kd.C_drew ?_))); (case side2 => exact HC0.out); rintro e w6 ⟨rfl, hb⟩; refine ⟨_, rfl, ?_⟩; have n0_ := Aside0.mk (below_step (by repeat (first | (with_reducible first | exact HB.out | apply below_alloc | apply pw_below_drewN | apply below_drew1) | exact HB.out)) hb); clear HB; have HB := n0_; clear n0_; (try clear hb); (try clear hb2); (try clear hk); (try clear hi)) | (go_at_call 40; (with_reducible refine (spec_l01In.calls a1 0 (wrap64 ((l0.length : Int) - 1)) t207 _ A5.out).mono ?_); rintro e w' ⟨rfl, ⟨nd, rfl⟩⟩))
    go_ret
    exact ⟨by first | rfl | (simp [errW_none, errW_some] <;> rfl) | (simp [*, errW_none, errW_some] <;> rfl), by repeat (first | (with_reducible first | exact HB.out | apply below_alloc | apply pw_below_drewN | apply below_drew1) | exact HB.out)⟩
  · replace c4 := Bool.eq_false_iff.mpr c4
    subst c4
    have H1 : (some false) = some r := by rw [if_neg (show ¬ (false = true) by decide)] at H; exact H
    clear H
    have H := H1
    clear H1
    obtain rfl := Option.some.inj H
    go_enter Try.func54, Try.ntmps54
    go_wp2_with (first | ((with_reducible refine gate_callee (f := 12) rfl ?_); refine goesL_ (some 6) rfl rfl Try.func12 (by kernel_rfl) rfl #[.slice A0 l0.length c0] rfl (by (try simp only [List.map_toArray, List.map_cons, List.map_nil]); first | done | rfl | (simp only [List.length_drop, List.length_take]; rfl)) ?_; (with_reducible refine (spec_TreeOk.calls k _ _ l0 false _ ?side1 ?side2 A3.out).mono ?_); (case side1 => repeat (first | exact HR0.out | (with_reducible refine Kd.C_alloc ?_ _) | (with_reducible refine Kd.C_drewN ?_ _) | (with_reducible refine Kd.C_drew ?_))); (case side2 => exact HC0.out); rintro e w7 ⟨rfl, hb⟩; refine ⟨_, rfl, ?_⟩; have n0_ := Aside0.mk (below_step (by repeat (first | (with_reducible first | exact HB.out | apply below_alloc | apply pw_below_drewN | apply below_drew1) | exact HB.out)) hb); clear HB; have HB := n0_; clear n0_; (try clear hb); (try clear hb2); (try clear hk); (try clear hi)))
    go_ret
    exact ⟨by first | rfl | (simp [errW_none, errW_some] <;> rfl) | (simp [*, errW_none, errW_some] <;> rfl), by repeat (first | (with_reducible first | exact HB.out | apply below_alloc | apply pw_below_drewN | apply below_drew1) | exact HB.out)⟩

end Go.Proofs.Ytbgmbhhbonpoaaa.PFnExactPathBetween
