/- Printed by a program of this session out of the translation: each Go function as a Lean function, with the proof that Go comes to just its answer (no condition beyond what each theorem says). -/
import Derived.Test.YtbbppknnkghkjaaPFnExactChildrenOfx0
import Derived.Test.YtbbppknnkghkjaaPFnExactChildrenOfx1
import Derived.Test.YtbbppknnkghkjaaPFnExactChildrenOfx5
namespace Go.Proofs.Ytbbppknnkghkjaa.PFnExactChildrenOf
open Go.RowKit Go.Proofs.YtbbppknnkghkjaaW.PrintWords Go.Proofs.YtbbppknnkghkjaaW.PrintLast Go.Proofs.YtbbppknnkghkjaaW.PrintMore
attribute [local go_sem] max2_int min2_int max_two min_two max_three min_three max_four min_four   -- for this text's walks alone
set_option linter.unusedVariables false
set_option linter.unusedSimpArgs false

attribute [local go_sem high] eqA50
/-! ### spec_TreeOk: function 106 -/
mutual
def spec_TreeOk.j0 : Nat → List (S50) → Bool → Option (Bool)
  | 0, _, _ => none
  | k + 1, x0, x16 => if x16 = true then (some false) else (spec_TreeOk.l0 k x0 1)
def spec_TreeOk.l0 : Nat → List (S50) → Int → Option (Bool)
  | 0, _, _ => none
  | k + 1, x0, x3 => if x3 < (x0.length : Int) then (if 0 ≤ x3 then ((spec_l01In.f ((rd_T50 x0 x3).f0) 0 (wrap64 (x3 - 1))).bind fun t163 => (if t163 = true then (if 0 ≤ ((rd_T50 x0 x3).f0) then (if ((rd_T50 x0 x3).f0) < (x0.length : Int) then (if ((rd_T50 x0 ((rd_T50 x0 x3).f0)).f2) = 0 then ((spec_l01In.f ((rd_T50 x0 x3).f1) 0 3).bind fun t165 => (if t165 = true then ((spec_l01In.f ((rd_T50 x0 x3).f2) 0 4).bind fun t166 => (spec_TreeOk.j2 k x0 x3 (!t166) ((rd_T50 x0 x3).f0) ((rd_T50 x0 x3).f1) ((rd_T50 x0 x3).f2))) else (spec_TreeOk.j2 k x0 x3 true ((rd_T50 x0 x3).f0) ((rd_T50 x0 x3).f1) ((rd_T50 x0 x3).f2)))) else (spec_TreeOk.j2 k x0 x3 true ((rd_T50 x0 x3).f0) ((rd_T50 x0 x3).f1) ((rd_T50 x0 x3).f2))) else (none)) else (none)) else (spec_TreeOk.j2 k x0 x3 true ((rd_T50 x0 x3).f0) ((rd_T50 x0 x3).f1) ((rd_T50 x0 x3).f2)))) else (none)) else (some true)
def spec_TreeOk.j2 : Nat → List (S50) → Int → Bool → Int → Int → Int → Option (Bool)
  | 0, _, _, _, _, _, _ => none
  | k + 1, x0, x3, x53, x163000, x163001, x163002 => if x53 = true then (some false) else (spec_TreeOk.l1 k x0 x3 1 x163000 x163001 x163002)
def spec_TreeOk.l1 : Nat → List (S50) → Int → Int → Int → Int → Int → Option (Bool)
  | 0, _, _, _, _, _, _ => none
  | k + 1, x0, x3, x5, x163000, x163001, x163002 => if x5 < x3 then (if 0 ≤ x5 then (if x5 < (x0.length : Int) then (if ((rd_T50 x0 x5).f0) = x163000 then (if ((rd_T50 x0 x5).f1) = x163001 then (some false) else (spec_TreeOk.l1 k x0 x3 (wrap64 (x5 + 1)) x163000 x163001 x163002)) else (spec_TreeOk.l1 k x0 x3 (wrap64 (x5 + 1)) x163000 x163001 x163002)) else (none)) else (none)) else (spec_TreeOk.l0 k x0 (wrap64 (x3 + 1)))
end
def spec_TreeOk.f (k : Nat) (l0 : List (S50)) : Option (Bool) := (spec_l01In.f (l0.length : Int) 1 12).bind fun t159 => (if t159 = true then (if 0 < (l0.length : Int) then (spec_TreeOk.j0 k l0 (!(((rd_T50 l0 0).f0) == (-1)) || (!(((rd_T50 l0 0).f1) == 0) || (!(((rd_T50 l0 0).f2) == 0))))) else (none)) else (spec_TreeOk.j0 k l0 true))
theorem spec_TreeOk.mono_l : ∀ k, (∀ y0 y1, LeO (spec_TreeOk.j0 k y0 y1) (spec_TreeOk.j0 (k + 1) y0 y1)) ∧ (∀ y0 y1, LeO (spec_TreeOk.l0 k y0 y1) (spec_TreeOk.l0 (k + 1) y0 y1)) ∧ (∀ y0 y1 y2 y3 y4 y5, LeO (spec_TreeOk.j2 k y0 y1 y2 y3 y4 y5) (spec_TreeOk.j2 (k + 1) y0 y1 y2 y3 y4 y5)) ∧ (∀ y0 y1 y2 y3 y4 y5, LeO (spec_TreeOk.l1 k y0 y1 y2 y3 y4 y5) (spec_TreeOk.l1 (k + 1) y0 y1 y2 y3 y4 y5))
  | 0 => ⟨fun _ _ r h => by simp [spec_TreeOk.j0] at h, fun _ _ r h => by simp [spec_TreeOk.l0] at h, fun _ _ _ _ _ _ r h => by simp [spec_TreeOk.j2] at h, fun _ _ _ _ _ _ r h => by simp [spec_TreeOk.l1] at h⟩
  | k + 1 => by
    obtain ⟨ih0, ih1, ih2, ih3⟩ := spec_TreeOk.mono_l k
    refine ⟨?_, ?_, ?_, ?_⟩
    · intro y0 y1
      unfold spec_TreeOk.j0
      repeat' first
      | (with_reducible exact ih0 _ _)
      | (with_reducible exact ih1 _ _)
      | (with_reducible exact ih2 _ _ _ _ _ _)
      | (with_reducible exact ih3 _ _ _ _ _ _)
      | (with_reducible exact LeO.refl _)
      | (with_reducible exact LeO.none _)
      | (with_reducible refine LeO.ite ?_ ?_)
      | (with_reducible refine LeO.bind ?_ (fun _ => ?_))
      | exact ih0 _ _
      | exact ih1 _ _
      | exact ih2 _ _ _ _ _ _
      | exact ih3 _ _ _ _ _ _
      | exact LeO.none _
      | refine LeO.ite ?_ ?_
      | refine LeO.bind ?_ (fun _ => ?_)
    · intro y0 y1
      unfold spec_TreeOk.l0
      repeat' first
      | (with_reducible exact ih0 _ _)
      | (with_reducible exact ih1 _ _)
      | (with_reducible exact ih2 _ _ _ _ _ _)
      | (with_reducible exact ih3 _ _ _ _ _ _)
      | (with_reducible exact LeO.refl _)
      | (with_reducible exact LeO.none _)
      | (with_reducible refine LeO.ite ?_ ?_)
      | (with_reducible refine LeO.bind ?_ (fun _ => ?_))
      | exact ih0 _ _
      | exact ih1 _ _
      | exact ih2 _ _ _ _ _ _
      | exact ih3 _ _ _ _ _ _
      | exact LeO.none _
      | refine LeO.ite ?_ ?_
      | refine LeO.bind ?_ (fun _ => ?_)
    · intro y0 y1 y2 y3 y4 y5
      unfold spec_TreeOk.j2
      repeat' first
      | (with_reducible exact ih0 _ _)
      | (with_reducible exact ih1 _ _)
      | (with_reducible exact ih2 _ _ _ _ _ _)
      | (with_reducible exact ih3 _ _ _ _ _ _)
      | (with_reducible exact LeO.refl _)
      | (with_reducible exact LeO.none _)
      | (with_reducible refine LeO.ite ?_ ?_)
      | (with_reducible refine LeO.bind ?_ (fun _ => ?_))
      | exact ih0 _ _
      | exact ih1 _ _
      | exact ih2 _ _ _ _ _ _
      | exact ih3 _ _ _ _ _ _
      | exact LeO.none _
      | refine LeO.ite ?_ ?_
      | refine LeO.bind ?_ (fun _ => ?_)
    · intro y0 y1 y2 y3 y4 y5
      unfold spec_TreeOk.l1
      repeat' first
      | (with_reducible exact ih0 _ _)
      | (with_reducible exact ih1 _ _)
      | (with_reducible exact ih2 _ _ _ _ _ _)
      | (with_reducible exact ih3 _ _ _ _ _ _)
      | (with_reducible exact LeO.refl _)
      | (with_reducible exact LeO.none _)
      | (with_reducible refine LeO.ite ?_ ?_)
      | (with_reducible refine LeO.bind ?_ (fun _ => ?_))
      | exact ih0 _ _
      | exact ih1 _ _
      | exact ih2 _ _ _ _ _ _
      | exact ih3 _ _ _ _ _ _
      | exact LeO.none _
      | refine LeO.ite ?_ ?_
      | refine LeO.bind ?_ (fun _ => ?_)
theorem spec_TreeOk.mono : ∀ a0 k, LeO (spec_TreeOk.f k a0) (spec_TreeOk.f (k + 1) a0) := by
  intro a0 k
  obtain ⟨ih0, ih1, ih2, ih3⟩ := spec_TreeOk.mono_l k
  unfold spec_TreeOk.f
  repeat' first
      | (with_reducible exact ih0 _ _)
      | (with_reducible exact ih1 _ _)
      | (with_reducible exact ih2 _ _ _ _ _ _)
      | (with_reducible exact ih3 _ _ _ _ _ _)
      | (with_reducible exact LeO.refl _)
      | (with_reducible exact LeO.none _)
      | (with_reducible refine LeO.ite ?_ ?_)
      | (with_reducible refine LeO.bind ?_ (fun _ => ?_))
      | exact ih0 _ _
      | exact ih1 _ _
      | exact ih2 _ _ _ _ _ _
      | exact ih3 _ _ _ _ _ _
      | exact LeO.none _
      | refine LeO.ite ?_ ?_
      | refine LeO.bind ?_ (fun _ => ?_)
set_option maxHeartbeats 8000000 in
set_option maxRecDepth 100000 in
theorem spec_TreeOk.calls (k : Nat) (A0 : Option Addr) (c0 : Nat) (l0 : List (S50)) (r : Bool) (w : World) (hr0 : Kd.C k50 w A0 l0.length l0) (hc0 : l0.length ≤ c0) (h : spec_TreeOk.f k l0 = some r) :
    Calls Try.prog 106 #[.slice A0 l0.length c0] w fun e w' => e = .returned (.bool r) ∧ Below w.heap.size w w' := by
  have hu50 := Try.underlying50
  have HR0 := Aside0.mk hr0
  have HC0 := Aside0.mk hc0
  clear hr0 hc0
  have HB := Aside0.mk (Below.refl w.heap.size w)
  have H : ((spec_l01In.f (l0.length : Int) 1 12).bind fun t159 => (if t159 = true then (if 0 < (l0.length : Int) then (spec_TreeOk.j0 k l0 (!(((rd_T50 l0 0).f0) == (-1)) || (!(((rd_T50 l0 0).f1) == 0) || (!(((rd_T50 l0 0).f2) == 0))))) else (none)) else (spec_TreeOk.j0 k l0 true))) = some r := h
  clear h
  have HC2 := Aside0.mk H
  clear H
  go_enter Try.func106, Try.ntmps106
  go_upto_region 1 with (fail)
  repeat (go_quiet (fail); go_upto_region 1 with (fail))
  go_cut [16] (fun v16 wc => ∃ (kq : Nat) (x16_1 : Bool), v16 = .bool x16_1 ∧ Aside0 (spec_TreeOk.j0 kq l0 x16_1 = some r) ∧ Aside0 (kq ≤ k) ∧ Aside0 (Below w.heap.size w wc))
  case first =>
    have H := HC2.out
    clear HC2
    replace H := Option.bind_eq_some_iff.mp H
    obtain ⟨t159, A30, H⟩ := H
    replace H : (if t159 = true then (if 0 < (l0.length : Int) then (spec_TreeOk.j0 k l0 (!(((rd_T50 l0 0).f0) == (-1)) || (!(((rd_T50 l0 0).f1) == 0) || (!(((rd_T50 l0 0).f2) == 0))))) else (none)) else (spec_TreeOk.j0 k l0 true)) = some r := H
    have A3 := Aside0.mk A30
    clear A30
    by_cases c4 : t159 = true
    · subst c4
      have H1 : (if 0 < (l0.length : Int) then (spec_TreeOk.j0 k l0 (!(((rd_T50 l0 0).f0) == (-1)) || (!(((rd_T50 l0 0).f1) == 0) || (!(((rd_T50 l0 0).f2) == 0))))) else (none)) = some r := by rw [if_pos rfl] at H; exact H
      clear H
      have H := H1
      clear H1
      by_cases c5 : 0 < (l0.length : Int)
      · rw [if_pos c5] at H
        have c5b0 : decide (0 < (l0.length : Int)) = true := decide_eq_true c5
        have c5b1 : decide (0 < l0.length) = true := decide_eq_true (by omega)
        clear c5
        (first | rw [c5b0] | (simp only [i64_w, i32_w]; rw [c5b0]) | skip)
        have H' := Aside0.mk H
        clear H
        go_wp2_with (first | (go_at_call 103; (with_reducible refine (spec_l01In.calls (l0.length : Int) 1 12 true _ A3.out).mono ?_); rintro e w' ⟨rfl, ⟨nd, rfl⟩⟩; (try first | exact ⟨rfl, _, World.drewN_drewN _ _ _⟩ | exact ⟨rfl, _, Eq.trans (World.drewN_drewN _ _ _) (congrArg (World.drewN _) (Nat.add_assoc _ _ _))⟩); have p160 : 0 ≤ (0 : Int) := (by omega); have q160 : 0 < (l0.length : Int) := of_decide_eq_true (by first | (with_reducible assumption) | assumption); obtain ⟨ad160, e160, hx160_0, hx160_1, hx160_2⟩ := at_T50 HR0.out 0 p160 q160; cases e160; have qi160 : (0 < l0.length) = True := eq_true (by omega); (try rw [show ((0 : Int)).toNat = 0 from rfl] at hx160_0); (try rw [show 0 * 3 = 0 from rfl] at hx160_0); (try rw [Addr.add_zero'] at hx160_0); (try rw [show ((0 : Int)).toNat = 0 from rfl] at hx160_1); (try rw [show 0 * 3 = 0 from rfl] at hx160_1); (try rw [Addr.add_zero'] at hx160_1); (try rw [show ((0 : Int)).toNat = 0 from rfl] at hx160_2); (try rw [show 0 * 3 = 0 from rfl] at hx160_2); (try rw [Addr.add_zero'] at hx160_2); replace hx160_0 := (HB.out.cell (World.block_lt_of_cell? w _ hx160_0)).trans hx160_0; replace hx160_1 := (HB.out.cell (World.block_lt_of_cell? w _ hx160_1)).trans hx160_1; replace hx160_2 := (HB.out.cell (World.block_lt_of_cell? w _ hx160_2)).trans hx160_2; replace p160 := eq_true p160; replace q160 := eq_true q160))
        repeat (go_quiet (first | (go_at_call 103; (with_reducible refine (spec_l01In.calls (l0.length : Int) 1 12 true _ A3.out).mono ?_); rintro e w' ⟨rfl, ⟨nd, rfl⟩⟩; (try first | exact ⟨rfl, _, World.drewN_drewN _ _ _⟩ | exact ⟨rfl, _, Eq.trans (World.drewN_drewN _ _ _) (congrArg (World.drewN _) (Nat.add_assoc _ _ _))⟩); have p160 : 0 ≤ (0 : Int) := (by omega); have q160 : 0 < (l0.length : Int) := of_decide_eq_true (by first | (with_reducible assumption) | assumption); obtain ⟨ad160, e160, hx160_0, hx160_1, hx160_2⟩ := at_T50 HR0.out 0 p160 q160; cases e160; have qi160 : (0 < l0.length) = True := eq_true (by omega); (try rw [show ((0 : Int)).toNat = 0 from rfl] at hx160_0); (try rw [show 0 * 3 = 0 from rfl] at hx160_0); (try rw [Addr.add_zero'] at hx160_0); (try rw [show ((0 : Int)).toNat = 0 from rfl] at hx160_1); (try rw [show 0 * 3 = 0 from rfl] at hx160_1); (try rw [Addr.add_zero'] at hx160_1); (try rw [show ((0 : Int)).toNat = 0 from rfl] at hx160_2); (try rw [show 0 * 3 = 0 from rfl] at hx160_2); (try rw [Addr.add_zero'] at hx160_2); replace hx160_0 := (HB.out.cell (World.block_lt_of_cell? w _ hx160_0)).trans hx160_0; replace hx160_1 := (HB.out.cell (World.block_lt_of_cell? w _ hx160_1)).trans hx160_1; replace hx160_2 := (HB.out.cell (World.block_lt_of_cell? w _ hx160_2)).trans hx160_2; replace p160 := eq_true p160; replace q160 := eq_true q160)); try go_wp2_with (first | (go_at_call 103; (with_reducible refine (spec_l01In.calls (l0.length : Int) 1 12 true _ A3.out).mono ?_); rintro e w' ⟨rfl, ⟨nd, rfl⟩⟩; (try first | exact ⟨rfl, _, World.drewN_drewN _ _ _⟩ | exact ⟨rfl, _, Eq.trans (World.drewN_drewN _ _ _) (congrArg (World.drewN _) (Nat.add_assoc _ _ _))⟩); have p160 : 0 ≤ (0 : Int) := (by omega); have q160 : 0 < (l0.length : Int) := of_decide_eq_true (by first | (with_reducible assumption) | assumption); obtain ⟨ad160, e160, hx160_0, hx160_1, hx160_2⟩ := at_T50 HR0.out 0 p160 q160; cases e160; have qi160 : (0 < l0.length) = True := eq_true (by omega); (try rw [show ((0 : Int)).toNat = 0 from rfl] at hx160_0); (try rw [show 0 * 3 = 0 from rfl] at hx160_0); (try rw [Addr.add_zero'] at hx160_0); (try rw [show ((0 : Int)).toNat = 0 from rfl] at hx160_1); (try rw [show 0 * 3 = 0 from rfl] at hx160_1); (try rw [Addr.add_zero'] at hx160_1); (try rw [show ((0 : Int)).toNat = 0 from rfl] at hx160_2); (try rw [show 0 * 3 = 0 from rfl] at hx160_2); (try rw [Addr.add_zero'] at hx160_2); replace hx160_0 := (HB.out.cell (World.block_lt_of_cell? w _ hx160_0)).trans hx160_0; replace hx160_1 := (HB.out.cell (World.block_lt_of_cell? w _ hx160_1)).trans hx160_1; replace hx160_2 := (HB.out.cell (World.block_lt_of_cell? w _ hx160_2)).trans hx160_2; replace p160 := eq_true p160; replace q160 := eq_true q160)))
        go_meet
        case rel => exact ⟨_, ((!(((rd_T50 l0 0).f0) == (-1)) || (!(((rd_T50 l0 0).f1) == 0) || (!(((rd_T50 l0 0).f2) == 0))))), (by first | rfl | (simp; done) | (simp [*]; done)), H', ⟨by first | omega | exact Nat.le_refl _⟩, ⟨by repeat (first | (with_reducible first | exact HB.out | apply below_alloc | apply pw_below_drewN | apply below_drew1) | exact HB.out)⟩⟩
      · rw [if_neg c5] at H
        exact absurd H (by simp)
    · replace c4 := Bool.eq_false_iff.mpr c4
      subst c4
      have H1 : (spec_TreeOk.j0 k l0 true) = some r := by rw [if_neg (show ¬ (false = true) by decide)] at H; exact H
      clear H
      have H := H1
      clear H1
      have H' := Aside0.mk H
      clear H
      go_wp2_with (first | (go_at_call 103; (with_reducible refine (spec_l01In.calls (l0.length : Int) 1 12 false _ A3.out).mono ?_); rintro e w' ⟨rfl, ⟨nd, rfl⟩⟩; (try first | exact ⟨rfl, _, World.drewN_drewN _ _ _⟩ | exact ⟨rfl, _, Eq.trans (World.drewN_drewN _ _ _) (congrArg (World.drewN _) (Nat.add_assoc _ _ _))⟩)))
      repeat (go_quiet (first | (go_at_call 103; (with_reducible refine (spec_l01In.calls (l0.length : Int) 1 12 false _ A3.out).mono ?_); rintro e w' ⟨rfl, ⟨nd, rfl⟩⟩; (try first | exact ⟨rfl, _, World.drewN_drewN _ _ _⟩ | exact ⟨rfl, _, Eq.trans (World.drewN_drewN _ _ _) (congrArg (World.drewN _) (Nat.add_assoc _ _ _))⟩))); try go_wp2_with (first | (go_at_call 103; (with_reducible refine (spec_l01In.calls (l0.length : Int) 1 12 false _ A3.out).mono ?_); rintro e w' ⟨rfl, ⟨nd, rfl⟩⟩; (try first | exact ⟨rfl, _, World.drewN_drewN _ _ _⟩ | exact ⟨rfl, _, Eq.trans (World.drewN_drewN _ _ _) (congrArg (World.drewN _) (Nat.add_assoc _ _ _))⟩))))
      go_meet
      case rel => exact ⟨_, (true), (by first | rfl | (simp; done) | (simp [*]; done)), H', ⟨by first | omega | exact Nat.le_refl _⟩, ⟨by repeat (first | (with_reducible first | exact HB.out | apply below_alloc | apply pw_below_drewN | apply below_drew1) | exact HB.out)⟩⟩
  case rest =>
    clear HC2
    try clear c1
    try clear p1
    try clear q1
    try clear hx1
    try clear qi1
    try clear p2
    try clear c4
    try clear c5
    try clear c5b0
    try clear c5b1
    try clear hx160_0
    try clear hx160_1
    try clear hx160_2
    try clear p160
    try clear q160
    obtain ⟨kq, x16_1, rfl, HA, HJ1, HB⟩ := hcut
    cases kq with
    | zero => exact absurd HA.out (by simp [spec_TreeOk.j0])
    | succ kj1 =>
      have H := HA.out
      clear HA
      simp only [spec_TreeOk.j0] at H
      by_cases c6 : x16_1 = true
      · subst c6
        have H1 : (some false) = some r := by rw [if_pos rfl] at H; exact H
        clear H
        have H := H1
        clear H1
        obtain rfl := Option.some.inj H
        go_wp2
        repeat (go_quiet (fail); try go_wp2)
        go_ret
        exact ⟨by first | rfl | (simp [errW_none, errW_some] <;> rfl) | (simp [*, errW_none, errW_some] <;> rfl), by repeat (first | (with_reducible first | exact HB.out | apply below_alloc | apply pw_below_drewN | apply below_drew1) | exact HB.out)⟩
      · replace c6 := Bool.eq_false_iff.mpr c6
        subst c6
        have H1 : (spec_TreeOk.l0 kj1 l0 1) = some r := by rw [if_neg (show ¬ (false = true) by decide)] at H; exact H
        clear H
        have H := H1
        clear H1
        have H' := Aside0.mk H
        clear H
        go_wp2
        repeat (go_quiet (fail); try go_wp2)
        go_loopg [3] kj1 (fun kq v3 w' => ∃ (x3_2 : Int), v3 = .int .i64 x3_2 ∧ Aside0 (spec_TreeOk.l0 kq l0 x3_2 = some r) ∧ Aside0 (kq ≤ kj1) ∧ Aside0 (Below w.heap.size w w'))
        case atStart => exact ⟨(1), (by first | rfl | (simp; done) | (simp [*]; done)), H', ⟨Nat.le_refl _⟩, ⟨by repeat (first | (with_reducible first | exact HB.out | apply below_alloc | apply pw_below_drewN | apply below_drew1) | exact HB.out)⟩⟩
        case round =>
          clear H'
          try clear c1
          try clear p1
          try clear q1
          try clear hx1
          try clear qi1
          try clear p2
          try clear c4
          try clear c5
          try clear c5b0
          try clear c5b1
          try clear c6
          try clear hx160_0
          try clear hx160_1
          try clear hx160_2
          try clear p1
          try clear p160
          try clear p2
          try clear q1
          try clear q160
          obtain ⟨x3_2, rfl, HA, HK2, HB⟩ := hrel
          cases gk with
          | zero => exact absurd HA.out (by simp [spec_TreeOk.l0])
          | succ k2 =>
            have H := HA.out
            clear HA
            simp only [spec_TreeOk.l0] at H
            by_cases c7 : x3_2 < (l0.length : Int)
            · rw [if_pos c7] at H
              have c7b0 : decide (x3_2 < (l0.length : Int)) = true := decide_eq_true c7
              clear c7
              by_cases c8 : 0 ≤ x3_2
              · rw [if_pos c8] at H
                have c8b0 : decide (0 ≤ x3_2) = true := decide_eq_true c8
                clear c8
                have HC9 := Aside0.mk H
                clear H
                have p161 : 0 ≤ (x3_2 : Int) := of_decide_eq_true (by first | (with_reducible assumption) | assumption)
                have q161 : x3_2 < (l0.length : Int) := of_decide_eq_true (by first | (with_reducible assumption) | assumption)
                obtain ⟨ad161, e161, hx161_0, hx161_1, hx161_2⟩ := at_T50 HR0.out x3_2 p161 q161
                cases e161
                replace hx161_0 := (HB.out.cell (World.block_lt_of_cell? w _ hx161_0)).trans hx161_0
                replace hx161_1 := (HB.out.cell (World.block_lt_of_cell? w _ hx161_1)).trans hx161_1
                replace hx161_2 := (HB.out.cell (World.block_lt_of_cell? w _ hx161_2)).trans hx161_2
                replace p161 := eq_true p161
                replace q161 := eq_true q161
                go_upto_region 7 with (first | ((with_reducible refine gate_dst (N := 4) rfl ?_); refine box_event ?hg (N := 4) ?hd (cs := #[.int .i64 0, .int .i64 0, .int .i64 0]) (t := 50) ?hr ?_; (case hd => rfl); (case hg => rfl); (case hr => first | (go_simp; done) | (go_simp; rfl)); intro gb162 hg w10 hbox hb; have n0_ := Aside0.mk (below_step (by repeat (first | (with_reducible first | exact HB.out | apply below_alloc | apply pw_below_drewN | apply below_drew1) | exact HB.out)) hb); have n1_ := Aside0.mk (hbox); have n2_ := Aside0.mk ((by rw [hg]; exact (below_size (by repeat (first | (with_reducible first | exact HB.out | apply below_alloc | apply pw_below_drewN | apply below_drew1) | exact HB.out))) : w.heap.size ≤ gb162)); have n3_ := Aside0.mk ((by rw [hg]; exact (below_size (by repeat (first | (with_reducible first | exact HB.out | apply below_alloc | apply pw_below_drewN | apply below_drew1) | exact HB.out))) : w.heap.size ≤ gb162)); clear HB; have HB := n0_; have BK162 := n1_; have GW162 := n2_; have GE162 := n3_; clear n0_ n1_ n2_ n3_; clear hb hbox hg; have hcz11_0 : w10.cell? ⟨gb162, 0, none⟩ = some (.int .i64 0) := (blk_cell BK162.out 0).trans rfl; have hcz11_1 : w10.cell? ⟨gb162, 1, none⟩ = some (.int .i64 0) := (blk_cell BK162.out 1).trans rfl; have hcz11_2 : w10.cell? ⟨gb162, 2, none⟩ = some (.int .i64 0) := (blk_cell BK162.out 2).trans rfl; have hfz11_0 := blk_frozen BK162.out 0; have hfz11_1 := blk_frozen BK162.out 1; have hfz11_2 := blk_frozen BK162.out 2))
                repeat (go_quiet (first | ((with_reducible refine gate_dst (N := 4) rfl ?_); refine box_event ?hg (N := 4) ?hd (cs := #[.int .i64 0, .int .i64 0, .int .i64 0]) (t := 50) ?hr ?_; (case hd => rfl); (case hg => rfl); (case hr => first | (go_simp; done) | (go_simp; rfl)); intro gb162 hg w10 hbox hb; have n0_ := Aside0.mk (below_step (by repeat (first | (with_reducible first | exact HB.out | apply below_alloc | apply pw_below_drewN | apply below_drew1) | exact HB.out)) hb); have n1_ := Aside0.mk (hbox); have n2_ := Aside0.mk ((by rw [hg]; exact (below_size (by repeat (first | (with_reducible first | exact HB.out | apply below_alloc | apply pw_below_drewN | apply below_drew1) | exact HB.out))) : w.heap.size ≤ gb162)); have n3_ := Aside0.mk ((by rw [hg]; exact (below_size (by repeat (first | (with_reducible first | exact HB.out | apply below_alloc | apply pw_below_drewN | apply below_drew1) | exact HB.out))) : w.heap.size ≤ gb162)); clear HB; have HB := n0_; have BK162 := n1_; have GW162 := n2_; have GE162 := n3_; clear n0_ n1_ n2_ n3_; clear hb hbox hg; have hcz11_0 : w10.cell? ⟨gb162, 0, none⟩ = some (.int .i64 0) := (blk_cell BK162.out 0).trans rfl; have hcz11_1 : w10.cell? ⟨gb162, 1, none⟩ = some (.int .i64 0) := (blk_cell BK162.out 1).trans rfl; have hcz11_2 : w10.cell? ⟨gb162, 2, none⟩ = some (.int .i64 0) := (blk_cell BK162.out 2).trans rfl; have hfz11_0 := blk_frozen BK162.out 0; have hfz11_1 := blk_frozen BK162.out 1; have hfz11_2 := blk_frozen BK162.out 2)); go_upto_region 7 with (first | ((with_reducible refine gate_dst (N := 4) rfl ?_); refine box_event ?hg (N := 4) ?hd (cs := #[.int .i64 0, .int .i64 0, .int .i64 0]) (t := 50) ?hr ?_; (case hd => rfl); (case hg => rfl); (case hr => first | (go_simp; done) | (go_simp; rfl)); intro gb162 hg w10 hbox hb; have n0_ := Aside0.mk (below_step (by repeat (first | (with_reducible first | exact HB.out | apply below_alloc | apply pw_below_drewN | apply below_drew1) | exact HB.out)) hb); have n1_ := Aside0.mk (hbox); have n2_ := Aside0.mk ((by rw [hg]; exact (below_size (by repeat (first | (with_reducible first | exact HB.out | apply below_alloc | apply pw_below_drewN | apply below_drew1) | exact HB.out))) : w.heap.size ≤ gb162)); have n3_ := Aside0.mk ((by rw [hg]; exact (below_size (by repeat (first | (with_reducible first | exact HB.out | apply below_alloc | apply pw_below_drewN | apply below_drew1) | exact HB.out))) : w.heap.size ≤ gb162)); clear HB; have HB := n0_; have BK162 := n1_; have GW162 := n2_; have GE162 := n3_; clear n0_ n1_ n2_ n3_; clear hb hbox hg; have hcz11_0 : w10.cell? ⟨gb162, 0, none⟩ = some (.int .i64 0) := (blk_cell BK162.out 0).trans rfl; have hcz11_1 : w10.cell? ⟨gb162, 1, none⟩ = some (.int .i64 0) := (blk_cell BK162.out 1).trans rfl; have hcz11_2 : w10.cell? ⟨gb162, 2, none⟩ = some (.int .i64 0) := (blk_cell BK162.out 2).trans rfl; have hfz11_0 := blk_frozen BK162.out 0; have hfz11_1 := blk_frozen BK162.out 1; have hfz11_2 := blk_frozen BK162.out 2)))
                (try simp only [Act.put, List.setIfInBounds_toArray, List.set_cons_zero, List.set_cons_succ])
                go_cut [53] (fun v53 wc => ∃ (kq : Nat) (x53_8 : Bool), v53 = .bool x53_8 ∧ Aside0 (spec_TreeOk.j2 kq l0 x3_2 x53_8 ((rd_T50 l0 x3_2).f0) ((rd_T50 l0 x3_2).f1) ((rd_T50 l0 x3_2).f2) = some r) ∧ Aside0 (kq ≤ k2) ∧ Aside0 (wc.heap[gb162]? = some (.cells #[.int .i64 ((rd_T50 l0 x3_2).f0), .int .i64 ((rd_T50 l0 x3_2).f1), .int .i64 ((rd_T50 l0 x3_2).f2)] 50 (0, 0))) ∧ Aside0 (Below w.heap.size w wc))
                case first =>
                  have H := HC9.out
                  clear HC9
                  replace H := Option.bind_eq_some_iff.mp H
                  obtain ⟨t163, A120, H⟩ := H
                  replace H : (if t163 = true then (if 0 ≤ ((rd_T50 l0 x3_2).f0) then (if ((rd_T50 l0 x3_2).f0) < (l0.length : Int) then (if ((rd_T50 l0 ((rd_T50 l0 x3_2).f0)).f2) = 0 then ((spec_l01In.f ((rd_T50 l0 x3_2).f1) 0 3).bind fun t165 => (if t165 = true then ((spec_l01In.f ((rd_T50 l0 x3_2).f2) 0 4).bind fun t166 => (spec_TreeOk.j2 k2 l0 x3_2 (!t166) ((rd_T50 l0 x3_2).f0) ((rd_T50 l0 x3_2).f1) ((rd_T50 l0 x3_2).f2))) else (spec_TreeOk.j2 k2 l0 x3_2 true ((rd_T50 l0 x3_2).f0) ((rd_T50 l0 x3_2).f1) ((rd_T50 l0 x3_2).f2)))) else (spec_TreeOk.j2 k2 l0 x3_2 true ((rd_T50 l0 x3_2).f0) ((rd_T50 l0 x3_2).f1) ((rd_T50 l0 x3_2).f2))) else (none)) else (none)) else (spec_TreeOk.j2 k2 l0 x3_2 true ((rd_T50 l0 x3_2).f0) ((rd_T50 l0 x3_2).f1) ((rd_T50 l0 x3_2).f2))) = some r := H
                  have A12 := Aside0.mk A120
                  clear A120
                  by_cases c13 : t163 = true
                  · subst c13
                    have H1 : (if 0 ≤ ((rd_T50 l0 x3_2).f0) then (if ((rd_T50 l0 x3_2).f0) < (l0.length : Int) then (if ((rd_T50 l0 ((rd_T50 l0 x3_2).f0)).f2) = 0 then ((spec_l01In.f ((rd_T50 l0 x3_2).f1) 0 3).bind fun t165 => (if t165 = true then ((spec_l01In.f ((rd_T50 l0 x3_2).f2) 0 4).bind fun t166 => (spec_TreeOk.j2 k2 l0 x3_2 (!t166) ((rd_T50 l0 x3_2).f0) ((rd_T50 l0 x3_2).f1) ((rd_T50 l0 x3_2).f2))) else (spec_TreeOk.j2 k2 l0 x3_2 true ((rd_T50 l0 x3_2).f0) ((rd_T50 l0 x3_2).f1) ((rd_T50 l0 x3_2).f2)))) else (spec_TreeOk.j2 k2 l0 x3_2 true ((rd_T50 l0 x3_2).f0) ((rd_T50 l0 x3_2).f1) ((rd_T50 l0 x3_2).f2))) else (none)) else (none)) = some r := by rw [if_pos rfl] at H; exact H
                    clear H
                    have H := H1
                    clear H1
                    by_cases c14 : 0 ≤ ((rd_T50 l0 x3_2).f0)
                    · rw [if_pos c14] at H
                      have c14b0 : decide (0 ≤ ((rd_T50 l0 x3_2).f0)) = true := decide_eq_true c14
                      clear c14
                      (first | rw [c14b0] | (simp only [i64_w, i32_w]; rw [c14b0]) | skip)
                      by_cases c15 : ((rd_T50 l0 x3_2).f0) < (l0.length : Int)
                      · rw [if_pos c15] at H
                        have c15b0 : decide (((rd_T50 l0 x3_2).f0) < (l0.length : Int)) = true := decide_eq_true c15
                        clear c15
                        by_cases c16 : ((rd_T50 l0 ((rd_T50 l0 x3_2).f0)).f2) = 0
                        · rw [if_pos c16] at H
                          have c16b0 : (((rd_T50 l0 ((rd_T50 l0 x3_2).f0)).f2) == 0) = true := beq_iff_eq.mpr c16
                          have c16b1 : (((rd_T50 l0 ((rd_T50 l0 x3_2).f0)).f2) != 0) = false := bne_eq_false_iff_eq.mpr c16
                          clear c16
                          replace H := Option.bind_eq_some_iff.mp H
                          obtain ⟨t165, A170, H⟩ := H
                          replace H : (if t165 = true then ((spec_l01In.f ((rd_T50 l0 x3_2).f2) 0 4).bind fun t166 => (spec_TreeOk.j2 k2 l0 x3_2 (!t166) ((rd_T50 l0 x3_2).f0) ((rd_T50 l0 x3_2).f1) ((rd_T50 l0 x3_2).f2))) else (spec_TreeOk.j2 k2 l0 x3_2 true ((rd_T50 l0 x3_2).f0) ((rd_T50 l0 x3_2).f1) ((rd_T50 l0 x3_2).f2))) = some r := H
                          have A17 := Aside0.mk A170
                          clear A170
                          by_cases c18 : t165 = true
                          · subst c18
                            have H1 : ((spec_l01In.f ((rd_T50 l0 x3_2).f2) 0 4).bind fun t166 => (spec_TreeOk.j2 k2 l0 x3_2 (!t166) ((rd_T50 l0 x3_2).f0) ((rd_T50 l0 x3_2).f1) ((rd_T50 l0 x3_2).f2))) = some r := by rw [if_pos rfl] at H; exact H
                            clear H
                            have H := H1
                            clear H1
                            replace H := Option.bind_eq_some_iff.mp H
                            obtain ⟨t166, A190, H⟩ := H
                            replace H : (spec_TreeOk.j2 k2 l0 x3_2 (!t166) ((rd_T50 l0 x3_2).f0) ((rd_T50 l0 x3_2).f1) ((rd_T50 l0 x3_2).f2)) = some r := H
                            have A19 := Aside0.mk A190
                            clear A190
                            have H' := Aside0.mk H
                            clear H
                            have hcz20_0 : w10.cell? ⟨gb162, 0, none⟩ = some (.int .i64 0) := (blk_cell BK162.out 0).trans rfl
                            have hcz20_1 : w10.cell? ⟨gb162, 1, none⟩ = some (.int .i64 0) := (blk_cell BK162.out 1).trans rfl
                            have hcz20_2 : w10.cell? ⟨gb162, 2, none⟩ = some (.int .i64 0) := (blk_cell BK162.out 2).trans rfl
                            have hfz20_0 := blk_frozen BK162.out 0
                            have hfz20_1 := blk_frozen BK162.out 1
                            have hfz20_2 := blk_frozen BK162.out 2
                            go_wp2_with (first | (go_at_call 103; (with_reducible refine (spec_l01In.calls ((rd_T50 l0 x3_2).f0) 0 (wrap64 (x3_2 - 1)) true _ A12.out).mono ?_); rintro e w' ⟨rfl, ⟨nd, rfl⟩⟩; (try first | exact ⟨rfl, _, World.drewN_drewN _ _ _⟩ | exact ⟨rfl, _, Eq.trans (World.drewN_drewN _ _ _) (congrArg (World.drewN _) (Nat.add_assoc _ _ _))⟩); have p164 : 0 ≤ (((rd_T50 l0 x3_2).f0) : Int) := of_decide_eq_true (by first | (with_reducible assumption) | assumption); have q164 : ((rd_T50 l0 x3_2).f0) < (l0.length : Int) := of_decide_eq_true (by first | (with_reducible assumption) | assumption); obtain ⟨ad164, e164, hx164_0, hx164_1, hx164_2⟩ := at_T50 HR0.out ((rd_T50 l0 x3_2).f0) p164 q164; obtain rfl : ad161 = ad164 := (by injection e164); have hn164_0 : ad161.block ≠ gb162 := Nat.ne_of_lt (Nat.lt_of_lt_of_le (by have := World.block_lt_of_cell? _ _ hx164_0; first | rwa [add_block] at this | exact this) GW162.out); have hn164_1 : ad161.block ≠ gb162 := Nat.ne_of_lt (Nat.lt_of_lt_of_le (by have := World.block_lt_of_cell? _ _ hx164_0; first | rwa [add_block] at this | exact this) GW162.out); have hn164_2 : ad161.block ≠ gb162 := Nat.ne_of_lt (Nat.lt_of_lt_of_le (by have := World.block_lt_of_cell? _ _ hx164_0; first | rwa [add_block] at this | exact this) GW162.out); replace hx164_0 := (HB.out.cell (World.block_lt_of_cell? w _ hx164_0)).trans hx164_0; replace hx164_1 := (HB.out.cell (World.block_lt_of_cell? w _ hx164_1)).trans hx164_1; replace hx164_2 := (HB.out.cell (World.block_lt_of_cell? w _ hx164_2)).trans hx164_2; replace hx164_0 := (cell_far (p := ⟨gb162, 0, none⟩) (by first | (rw [add_block]; exact hn164_0) | (show (Addr.add _ _).block ≠ _; rw [add_block]; exact hn164_0) | exact hn164_0) (.int .i64 ((rd_T50 l0 x3_2).f0))).trans hx164_0; replace hx164_1 := (cell_far (p := ⟨gb162, 0, none⟩) (by first | (rw [add_block]; exact hn164_0) | (show (Addr.add _ _).block ≠ _; rw [add_block]; exact hn164_0) | exact hn164_0) (.int .i64 ((rd_T50 l0 x3_2).f0))).trans hx164_1; replace hx164_2 := (cell_far (p := ⟨gb162, 0, none⟩) (by first | (rw [add_block]; exact hn164_0) | (show (Addr.add _ _).block ≠ _; rw [add_block]; exact hn164_0) | exact hn164_0) (.int .i64 ((rd_T50 l0 x3_2).f0))).trans hx164_2; replace hx164_0 := (cell_far (p := ⟨gb162, 1, none⟩) (by first | (rw [add_block]; exact hn164_1) | (show (Addr.add _ _).block ≠ _; rw [add_block]; exact hn164_1) | exact hn164_1) (.int .i64 ((rd_T50 l0 x3_2).f1))).trans hx164_0; replace hx164_1 := (cell_far (p := ⟨gb162, 1, none⟩) (by first | (rw [add_block]; exact hn164_1) | (show (Addr.add _ _).block ≠ _; rw [add_block]; exact hn164_1) | exact hn164_1) (.int .i64 ((rd_T50 l0 x3_2).f1))).trans hx164_1; replace hx164_2 := (cell_far (p := ⟨gb162, 1, none⟩) (by first | (rw [add_block]; exact hn164_1) | (show (Addr.add _ _).block ≠ _; rw [add_block]; exact hn164_1) | exact hn164_1) (.int .i64 ((rd_T50 l0 x3_2).f1))).trans hx164_2; replace hx164_0 := (cell_far (p := ⟨gb162, 2, none⟩) (by first | (rw [add_block]; exact hn164_2) | (show (Addr.add _ _).block ≠ _; rw [add_block]; exact hn164_2) | exact hn164_2) (.int .i64 ((rd_T50 l0 x3_2).f2))).trans hx164_0; replace hx164_1 := (cell_far (p := ⟨gb162, 2, none⟩) (by first | (rw [add_block]; exact hn164_2) | (show (Addr.add _ _).block ≠ _; rw [add_block]; exact hn164_2) | exact hn164_2) (.int .i64 ((rd_T50 l0 x3_2).f2))).trans hx164_1; replace hx164_2 := (cell_far (p := ⟨gb162, 2, none⟩) (by first | (rw [add_block]; exact hn164_2) | (show (Addr.add _ _).block ≠ _; rw [add_block]; exact hn164_2) | exact hn164_2) (.int .i64 ((rd_T50 l0 x3_2).f2))).trans hx164_2; (try have hy164_0 := fun (n_ : Nat) => (show (((((w10.drewN n_).setCell ⟨gb162, 0, none⟩ (.int .i64 ((rd_T50 l0 x3_2).f0))).setCell ⟨gb162, 1, none⟩ (.int .i64 ((rd_T50 l0 x3_2).f1))).setCell ⟨gb162, 2, none⟩ (.int .i64 ((rd_T50 l0 x3_2).f2)))).cell? _ = some _ from hx164_0)); (try have hy164_1 := fun (n_ : Nat) => (show (((((w10.drewN n_).setCell ⟨gb162, 0, none⟩ (.int .i64 ((rd_T50 l0 x3_2).f0))).setCell ⟨gb162, 1, none⟩ (.int .i64 ((rd_T50 l0 x3_2).f1))).setCell ⟨gb162, 2, none⟩ (.int .i64 ((rd_T50 l0 x3_2).f2)))).cell? _ = some _ from hx164_1)); (try have hy164_2 := fun (n_ : Nat) => (show (((((w10.drewN n_).setCell ⟨gb162, 0, none⟩ (.int .i64 ((rd_T50 l0 x3_2).f0))).setCell ⟨gb162, 1, none⟩ (.int .i64 ((rd_T50 l0 x3_2).f1))).setCell ⟨gb162, 2, none⟩ (.int .i64 ((rd_T50 l0 x3_2).f2)))).cell? _ = some _ from hx164_2)); clear hn164_0; clear hn164_1; clear hn164_2; replace p164 := eq_true p164; replace q164 := eq_true q164) | (go_at_call 103; (with_reducible refine (spec_l01In.calls ((rd_T50 l0 x3_2).f1) 0 3 true _ A17.out).mono ?_); rintro e w' ⟨rfl, ⟨nd, rfl⟩⟩; (try first | exact ⟨rfl, _, World.drewN_drewN _ _ _⟩ | exact ⟨rfl, _, Eq.trans (World.drewN_drewN _ _ _) (congrArg (World.drewN _) (Nat.add_assoc _ _ _))⟩)) | (go_at_call 103; (with_reducible refine (spec_l01In.calls ((rd_T50 l0 x3_2).f2) 0 4 t166 _ A19.out).mono ?_); rintro e w' ⟨rfl, ⟨nd, rfl⟩⟩; (try first | exact ⟨rfl, _, World.drewN_drewN _ _ _⟩ | exact ⟨rfl, _, Eq.trans (World.drewN_drewN _ _ _) (congrArg (World.drewN _) (Nat.add_assoc _ _ _))⟩)))
                            repeat (go_quiet (first | (go_at_call 103; (with_reducible refine (spec_l01In.calls ((rd_T50 l0 x3_2).f0) 0 (wrap64 (x3_2 - 1)) true _ A12.out).mono ?_); rintro e w' ⟨rfl, ⟨nd, rfl⟩⟩; (try first | exact ⟨rfl, _, World.drewN_drewN _ _ _⟩ | exact ⟨rfl, _, Eq.trans (World.drewN_drewN _ _ _) (congrArg (World.drewN _) (Nat.add_assoc _ _ _))⟩); have p164 : 0 ≤ (((rd_T50 l0 x3_2).f0) : Int) := of_decide_eq_true (by first | (with_reducible assumption) | assumption); have q164 : ((rd_T50 l0 x3_2).f0) < (l0.length : Int) := of_decide_eq_true (by first | (with_reducible assumption) | assumption); obtain ⟨ad164, e164, hx164_0, hx164_1, hx164_2⟩ := at_T50 HR0.out ((rd_T50 l0 x3_2).f0) p164 q164; obtain rfl : ad161 = ad164 := (by injection e164); have hn164_0 : ad161.block ≠ gb162 := Nat.ne_of_lt (Nat.lt_of_lt_of_le (by have := World.block_lt_of_cell? _ _ hx164_0; first | rwa [add_block] at this | exact this) GW162.out); have hn164_1 : ad161.block ≠ gb162 := Nat.ne_of_lt (Nat.lt_of_lt_of_le (by have := World.block_lt_of_cell? _ _ hx164_0; first | rwa [add_block] at this | exact this) GW162.out); have hn164_2 : ad161.block ≠ gb162 := Nat.ne_of_lt (Nat.lt_of_lt_of_le (by have := World.block_lt_of_cell? _ _ hx164_0; first | rwa [add_block] at this | exact this) GW162.out); replace hx164_0 := (HB.out.cell (World.block_lt_of_cell? w _ hx164_0)).trans hx164_0; replace hx164_1 := (HB.out.cell (World.block_lt_of_cell? w _ hx164_1)).trans hx164_1; replace hx164_2 := (HB.out.cell (World.block_lt_of_cell? w _ hx164_2)).trans hx164_2; replace hx164_0 := (cell_far (p := ⟨gb162, 0, none⟩) (by first | (rw [add_block]; exact hn164_0) | (show (Addr.add _ _).block ≠ _; rw [add_block]; exact hn164_0) | exact hn164_0) (.int .i64 ((rd_T50 l0 x3_2).f0))).trans hx164_0; replace hx164_1 := (cell_far (p := ⟨gb162, 0, none⟩) (by first | (rw [add_block]; exact hn164_0) | (show (Addr.add _ _).block ≠ _; rw [add_block]; exact hn164_0) | exact hn164_0) (.int .i64 ((rd_T50 l0 x3_2).f0))).trans hx164_1; replace hx164_2 := (cell_far (p := ⟨gb162, 0, none⟩) (by first | (rw [add_block]; exact hn164_0) | (show (Addr.add _ _).block ≠ _; rw [add_block]; exact hn164_0) | exact hn164_0) (.int .i64 ((rd_T50 l0 x3_2).f0))).trans hx164_2; replace hx164_0 := (cell_far (p := ⟨gb162, 1, none⟩) (by first | (rw [add_block]; exact hn164_1) | (show (Addr.add _ _).block ≠ _; rw [add_block]; exact hn164_1) | exact hn164_1) (.int .i64 ((rd_T50 l0 x3_2).f1))).trans hx164_0; replace hx164_1 := (cell_far (p := ⟨gb162, 1, none⟩) (by first | (rw [add_block]; exact hn164_1) | (show (Addr.add _ _).block ≠ _; rw [add_block]; exact hn164_1) | exact hn164_1) (.int .i64 ((rd_T50 l0 x3_2).f1))).trans hx164_1; replace hx164_2 := (cell_far (p := ⟨gb162, 1, none⟩) (by first | (rw [add_block]; exact hn164_1) | (show (Addr.add _ _).block ≠ _; rw [add_block]; exact hn164_1) | exact hn164_1) (.int .i64 ((rd_T50 l0 x3_2).f1))).trans hx164_2; replace hx164_0 := (cell_far (p := ⟨gb162, 2, none⟩) (by first | (rw [add_block]; exact hn164_2) | (show (Addr.add _ _).block ≠ _; rw [add_block]; exact hn164_2) | exact hn164_2) (.int .i64 ((rd_T50 l0 x3_2).f2))).trans hx164_0; replace hx164_1 := (cell_far (p := ⟨gb162, 2, none⟩) (by first | (rw [add_block]; exact hn164_2) | (show (Addr.add _ _).block ≠ _; rw [add_block]; exact hn164_2) | exact hn164_2) (.int .i64 ((rd_T50 l0 x3_2).f2))).trans hx164_1; replace hx164_2 := (cell_far (p := ⟨gb162, 2, none⟩) (by first | (rw [add_block]; exact hn164_2) | (show (Addr.add _ _).block ≠ _; rw [add_block]; exact hn164_2) | exact hn164_2) (.int .i64 ((rd_T50 l0 x3_2).f2))).trans hx164_2; (try have hy164_0 := fun (n_ : Nat) => (show (((((w10.drewN n_).setCell ⟨gb162, 0, none⟩ (.int .i64 ((rd_T50 l0 x3_2).f0))).setCell ⟨gb162, 1, none⟩ (.int .i64 ((rd_T50 l0 x3_2).f1))).setCell ⟨gb162, 2, none⟩ (.int .i64 ((rd_T50 l0 x3_2).f2)))).cell? _ = some _ from hx164_0)); (try have hy164_1 := fun (n_ : Nat) => (show (((((w10.drewN n_).setCell ⟨gb162, 0, none⟩ (.int .i64 ((rd_T50 l0 x3_2).f0))).setCell ⟨gb162, 1, none⟩ (.int .i64 ((rd_T50 l0 x3_2).f1))).setCell ⟨gb162, 2, none⟩ (.int .i64 ((rd_T50 l0 x3_2).f2)))).cell? _ = some _ from hx164_1)); (try have hy164_2 := fun (n_ : Nat) => (show (((((w10.drewN n_).setCell ⟨gb162, 0, none⟩ (.int .i64 ((rd_T50 l0 x3_2).f0))).setCell ⟨gb162, 1, none⟩ (.int .i64 ((rd_T50 l0 x3_2).f1))).setCell ⟨gb162, 2, none⟩ (.int .i64 ((rd_T50 l0 x3_2).f2)))).cell? _ = some _ from hx164_2)); clear hn164_0; clear hn164_1; clear hn164_2; replace p164 := eq_true p164; replace q164 := eq_true q164) | (go_at_call 103; (with_reducible refine (spec_l01In.calls ((rd_T50 l0 x3_2).f1) 0 3 true _ A17.out).mono ?_); rintro e w' ⟨rfl, ⟨nd, rfl⟩⟩; (try first | exact ⟨rfl, _, World.drewN_drewN _ _ _⟩ | exact ⟨rfl, _, Eq.trans (World.drewN_drewN _ _ _) (congrArg (World.drewN _) (Nat.add_assoc _ _ _))⟩)) | (go_at_call 103; (with_reducible refine (spec_l01In.calls ((rd_T50 l0 x3_2).f2) 0 4 t166 _ A19.out).mono ?_); rintro e w' ⟨rfl, ⟨nd, rfl⟩⟩; (try first | exact ⟨rfl, _, World.drewN_drewN _ _ _⟩ | exact ⟨rfl, _, Eq.trans (World.drewN_drewN _ _ _) (congrArg (World.drewN _) (Nat.add_assoc _ _ _))⟩))); try go_wp2_with (first | (go_at_call 103; (with_reducible refine (spec_l01In.calls ((rd_T50 l0 x3_2).f0) 0 (wrap64 (x3_2 - 1)) true _ A12.out).mono ?_); rintro e w' ⟨rfl, ⟨nd, rfl⟩⟩; (try first | exact ⟨rfl, _, World.drewN_drewN _ _ _⟩ | exact ⟨rfl, _, Eq.trans (World.drewN_drewN _ _ _) (congrArg (World.drewN _) (Nat.add_assoc _ _ _))⟩); have p164 : 0 ≤ (((rd_T50 l0 x3_2).f0) : Int) := of_decide_eq_true (by first | (with_reducible assumption) | assumption); have q164 : ((rd_T50 l0 x3_2).f0) < (l0.length : Int) := of_decide_eq_true (by first | (with_reducible assumption) | assumption); obtain ⟨ad164, e164, hx164_0, hx164_1, hx164_2⟩ := at_T50 HR0.out ((rd_T50 l0 x3_2).f0) p164 q164; obtain rfl : ad161 = ad164 := (by injection e164); have hn164_0 : ad161.block ≠ gb162 := Nat.ne_of_lt (Nat.lt_of_lt_of_le (by have := World.block_lt_of_cell? _ _ hx164_0; first | rwa [add_block] at this | exact this) GW162.out); have hn164_1 : ad161.block ≠ gb162 := Nat.ne_of_lt (Nat.lt_of_lt_of_le (by have := World.block_lt_of_cell? _ _ hx164_0; first | rwa [add_block] at this | exact this) GW162.out); have hn164_2 : ad161.block ≠ gb162 := Nat.ne_of_lt (Nat.lt_of_lt_of_le (by have := World.block_lt_of_cell? _ _ hx164_0; first | rwa [add_block] at this | exact this) GW162.out); replace hx164_0 := (HB.out.cell (World.block_lt_of_cell? w _ hx164_0)).trans hx164_0; replace hx164_1 := (HB.out.cell (World.block_lt_of_cell? w _ hx164_1)).trans hx164_1; replace hx164_2 := (HB.out.cell (World.block_lt_of_cell? w _ hx164_2)).trans hx164_2; replace hx164_0 := (cell_far (p := ⟨gb162, 0, none⟩) (by first | (rw [add_block]; exact hn164_0) | (show (Addr.add _ _).block ≠ _; rw [add_block]; exact hn164_0) | exact hn164_0) (.int .i64 ((rd_T50 l0 x3_2).f0))).trans hx164_0; replace hx164_1 := (cell_far (p := ⟨gb162, 0, none⟩) (by first | (rw [add_block]; exact hn164_0) | (show (Addr.add _ _).block ≠ _; rw [add_block]; exact hn164_0) | exact hn164_0) (.int .i64 ((rd_T50 l0 x3_2).f0))).trans hx164_1; replace hx164_2 := (cell_far (p := ⟨gb162, 0, none⟩) (by first | (rw [add_block]; exact hn164_0) | (show (Addr.add _ _).block ≠ _; rw [add_block]; exact hn164_0) | exact hn164_0) (.int .i64 ((rd_T50 l0 x3_2).f0))).trans hx164_2; replace hx164_0 := (cell_far (p := ⟨gb162, 1, none⟩) (by first | (rw [add_block]; exact hn164_1) | (show (Addr.add _ _).block ≠ _; rw [add_block]; exact hn164_1) | exact hn164_1) (.int .i64 ((rd_T50 l0 x3_2).f1))).trans hx164_0; replace hx164_1 := (cell_far (p := ⟨gb162, 1, none⟩) (by first | (rw [add_block]; exact hn164_1) | (show (Addr.add _ _).block ≠ _; rw [add_block]; exact hn164_1) | exact hn164_1) (.int .i64 ((rd_T50 l0 x3_2).f1))).trans hx164_1; replace hx164_2 := (cell_far (p := ⟨gb162, 1, none⟩) (by first | (rw [add_block]; exact hn164_1) | (show (Addr.add _ _).block ≠ _; rw [add_block]; exact hn164_1) | exact hn164_1) (.int .i64 ((rd_T50 l0 x3_2).f1))).trans hx164_2; replace hx164_0 := (cell_far (p := ⟨gb162, 2, none⟩) (by first | (rw [add_block]; exact hn164_2) | (show (Addr.add _ _).block ≠ _; rw [add_block]; exact hn164_2) | exact hn164_2) (.int .i64 ((rd_T50 l0 x3_2).f2))).trans hx164_0; replace hx164_1 := (cell_far (p := ⟨gb162, 2, none⟩) (by first | (rw [add_block]; exact hn164_2) | (show (Addr.add _ _).block ≠ _; rw [add_block]; exact hn164_2) | exact hn164_2) (.int .i64 ((rd_T50 l0 x3_2).f2))).trans hx164_1; replace hx164_2 := (cell_far (p := ⟨gb162, 2, none⟩) (by first | (rw [add_block]; exact hn164_2) | (show (Addr.add _ _).block ≠ _; rw [add_block]; exact hn164_2) | exact hn164_2) (.int .i64 ((rd_T50 l0 x3_2).f2))).trans hx164_2; (try have hy164_0 := fun (n_ : Nat) => (show (((((w10.drewN n_).setCell ⟨gb162, 0, none⟩ (.int .i64 ((rd_T50 l0 x3_2).f0))).setCell ⟨gb162, 1, none⟩ (.int .i64 ((rd_T50 l0 x3_2).f1))).setCell ⟨gb162, 2, none⟩ (.int .i64 ((rd_T50 l0 x3_2).f2)))).cell? _ = some _ from hx164_0)); (try have hy164_1 := fun (n_ : Nat) => (show (((((w10.drewN n_).setCell ⟨gb162, 0, none⟩ (.int .i64 ((rd_T50 l0 x3_2).f0))).setCell ⟨gb162, 1, none⟩ (.int .i64 ((rd_T50 l0 x3_2).f1))).setCell ⟨gb162, 2, none⟩ (.int .i64 ((rd_T50 l0 x3_2).f2)))).cell? _ = some _ from hx164_1)); (try have hy164_2 := fun (n_ : Nat) => (show (((((w10.drewN n_).setCell ⟨gb162, 0, none⟩ (.int .i64 ((rd_T50 l0 x3_2).f0))).setCell ⟨gb162, 1, none⟩ (.int .i64 ((rd_T50 l0 x3_2).f1))).setCell ⟨gb162, 2, none⟩ (.int .i64 ((rd_T50 l0 x3_2).f2)))).cell? _ = some _ from hx164_2)); clear hn164_0; clear hn164_1; clear hn164_2; replace p164 := eq_true p164; replace q164 := eq_true q164) | (go_at_call 103; (with_reducible refine (spec_l01In.calls ((rd_T50 l0 x3_2).f1) 0 3 true _ A17.out).mono ?_); rintro e w' ⟨rfl, ⟨nd, rfl⟩⟩; (try first | exact ⟨rfl, _, World.drewN_drewN _ _ _⟩ | exact ⟨rfl, _, Eq.trans (World.drewN_drewN _ _ _) (congrArg (World.drewN _) (Nat.add_assoc _ _ _))⟩)) | (go_at_call 103; (with_reducible refine (spec_l01In.calls ((rd_T50 l0 x3_2).f2) 0 4 t166 _ A19.out).mono ?_); rintro e w' ⟨rfl, ⟨nd, rfl⟩⟩; (try first | exact ⟨rfl, _, World.drewN_drewN _ _ _⟩ | exact ⟨rfl, _, Eq.trans (World.drewN_drewN _ _ _) (congrArg (World.drewN _) (Nat.add_assoc _ _ _))⟩))))
                            go_meet
                            case rel => exact ⟨_, (!t166), (by first | rfl | (simp; done) | (simp [*]; done)), H', ⟨by have := HJ1.out; have := HK2.out; first | omega | exact Nat.le_refl _⟩, ⟨by (with_reducible repeat (first | refine blk_drewN ?_ _ | refine blk_drew ?_ | refine blk_alloc ?_ _)); refine blk_put (cs := #[.int .i64 ((rd_T50 l0 x3_2).f0), .int .i64 ((rd_T50 l0 x3_2).f1), .int .i64 0]) ?_ 2 _ rfl; (with_reducible repeat (first | refine blk_drewN ?_ _ | refine blk_drew ?_ | refine blk_alloc ?_ _)); refine blk_put (cs := #[.int .i64 ((rd_T50 l0 x3_2).f0), .int .i64 0, .int .i64 0]) ?_ 1 _ rfl; (with_reducible repeat (first | refine blk_drewN ?_ _ | refine blk_drew ?_ | refine blk_alloc ?_ _)); refine blk_put (cs := #[.int .i64 0, .int .i64 0, .int .i64 0]) ?_ 0 _ rfl; (with_reducible repeat (first | refine blk_drewN ?_ _ | refine blk_drew ?_ | refine blk_alloc ?_ _)); exact BK162.out⟩, ⟨by repeat (first | (with_reducible first | exact HB.out | apply below_alloc | apply pw_below_drewN | apply below_drew1 | refine below_set ?_ GE162.out) | exact HB.out)⟩⟩
                          · replace c18 := Bool.eq_false_iff.mpr c18
                            subst c18
                            have H1 : (spec_TreeOk.j2 k2 l0 x3_2 true ((rd_T50 l0 x3_2).f0) ((rd_T50 l0 x3_2).f1) ((rd_T50 l0 x3_2).f2)) = some r := by rw [if_neg (show ¬ (false = true) by decide)] at H; exact H
                            clear H
                            have H := H1
                            clear H1
                            have H' := Aside0.mk H
                            clear H
                            have hcz21_0 : w10.cell? ⟨gb162, 0, none⟩ = some (.int .i64 0) := (blk_cell BK162.out 0).trans rfl
                            have hcz21_1 : w10.cell? ⟨gb162, 1, none⟩ = some (.int .i64 0) := (blk_cell BK162.out 1).trans rfl
                            have hcz21_2 : w10.cell? ⟨gb162, 2, none⟩ = some (.int .i64 0) := (blk_cell BK162.out 2).trans rfl
                            have hfz21_0 := blk_frozen BK162.out 0
                            have hfz21_1 := blk_frozen BK162.out 1
                            have hfz21_2 := blk_frozen BK162.out 2
                            go_wp2_with (first | (go_at_call 103; (with_reducible refine (spec_l01In.calls ((rd_T50 l0 x3_2).f0) 0 (wrap64 (x3_2 - 1)) true _ A12.out).mono ?_); rintro e w' ⟨rfl, ⟨nd, rfl⟩⟩; (try first | exact ⟨rfl, _, World.drewN_drewN _ _ _⟩ | exact ⟨rfl, _, Eq.trans (World.drewN_drewN _ _ _) (congrArg (World.drewN _) (Nat.add_assoc _ _ _))⟩); have p164 : 0 ≤ (((rd_T50 l0 x3_2).f0) : Int) := of_decide_eq_true (by first | (with_reducible assumption) | assumption); have q164 : ((rd_T50 l0 x3_2).f0) < (l0.length : Int) := of_decide_eq_true (by first | (with_reducible assumption) | assumption); obtain ⟨ad164, e164, hx164_0, hx164_1, hx164_2⟩ := at_T50 HR0.out ((rd_T50 l0 x3_2).f0) p164 q164; obtain rfl : ad161 = ad164 := (by injection e164); have hn164_0 : ad161.block ≠ gb162 := Nat.ne_of_lt (Nat.lt_of_lt_of_le (by have := World.block_lt_of_cell? _ _ hx164_0; first | rwa [add_block] at this | exact this) GW162.out); have hn164_1 : ad161.block ≠ gb162 := Nat.ne_of_lt (Nat.lt_of_lt_of_le (by have := World.block_lt_of_cell? _ _ hx164_0; first | rwa [add_block] at this | exact this) GW162.out); have hn164_2 : ad161.block ≠ gb162 := Nat.ne_of_lt (Nat.lt_of_lt_of_le (by have := World.block_lt_of_cell? _ _ hx164_0; first | rwa [add_block] at this | exact this) GW162.out); replace hx164_0 := (HB.out.cell (World.block_lt_of_cell? w _ hx164_0)).trans hx164_0; replace hx164_1 := (HB.out.cell (World.block_lt_of_cell? w _ hx164_1)).trans hx164_1; replace hx164_2 := (HB.out.cell (World.block_lt_of_cell? w _ hx164_2)).trans hx164_2; replace hx164_0 := (cell_far (p := ⟨gb162, 0, none⟩) (by first | (rw [add_block]; exact hn164_0) | (show (Addr.add _ _).block ≠ _; rw [add_block]; exact hn164_0) | exact hn164_0) (.int .i64 ((rd_T50 l0 x3_2).f0))).trans hx164_0; replace hx164_1 := (cell_far (p := ⟨gb162, 0, none⟩) (by first | (rw [add_block]; exact hn164_0) | (show (Addr.add _ _).block ≠ _; rw [add_block]; exact hn164_0) | exact hn164_0) (.int .i64 ((rd_T50 l0 x3_2).f0))).trans hx164_1; replace hx164_2 := (cell_far (p := ⟨gb162, 0, none⟩) (by first | (rw [add_block]; exact hn164_0) | (show (Addr.add _ _).block ≠ _; rw [add_block]; exact hn164_0) | exact hn164_0) (.int .i64 ((rd_T50 l0 x3_2).f0))).trans hx164_2; replace hx164_0 := (cell_far (p := ⟨gb162, 1, none⟩) (by first | (rw [add_block]; exact hn164_1) | (show (Addr.add _ _).block ≠ _; rw [add_block]; exact hn164_1) | exact hn164_1) (.int .i64 ((rd_T50 l0 x3_2).f1))).trans hx164_0; replace hx164_1 := (cell_far (p := ⟨gb162, 1, none⟩) (by first | (rw [add_block]; exact hn164_1) | (show (Addr.add _ _).block ≠ _; rw [add_block]; exact hn164_1) | exact hn164_1) (.int .i64 ((rd_T50 l0 x3_2).f1))).trans hx164_1; replace hx164_2 := (cell_far (p := ⟨gb162, 1, none⟩) (by first | (rw [add_block]; exact hn164_1) | (show (Addr.add _ _).block ≠ _; rw [add_block]; exact hn164_1) | exact hn164_1) (.int .i64 ((rd_T50 l0 x3_2).f1))).trans hx164_2; replace hx164_0 := (cell_far (p := ⟨gb162, 2, none⟩) (by first | (rw [add_block]; exact hn164_2) | (show (Addr.add _ _).block ≠ _; rw [add_block]; exact hn164_2) | exact hn164_2) (.int .i64 ((rd_T50 l0 x3_2).f2))).trans hx164_0; replace hx164_1 := (cell_far (p := ⟨gb162, 2, none⟩) (by first | (rw [add_block]; exact hn164_2) | (show (Addr.add _ _).block ≠ _; rw [add_block]; exact hn164_2) | exact hn164_2) (.int .i64 ((rd_T50 l0 x3_2).f2))).trans hx164_1; replace hx164_2 := (cell_far (p := ⟨gb162, 2, none⟩) (by first | (rw [add_block]; exact hn164_2) | (show (Addr.add _ _).block ≠ _; rw [add_block]; exact hn164_2) | exact hn164_2) (.int .i64 ((rd_T50 l0 x3_2).f2))).trans hx164_2; (try have hy164_0 := fun (n_ : Nat) => (show (((((w10.drewN n_).setCell ⟨gb162, 0, none⟩ (.int .i64 ((rd_T50 l0 x3_2).f0))).setCell ⟨gb162, 1, none⟩ (.int .i64 ((rd_T50 l0 x3_2).f1))).setCell ⟨gb162, 2, none⟩ (.int .i64 ((rd_T50 l0 x3_2).f2)))).cell? _ = some _ from hx164_0)); (try have hy164_1 := fun (n_ : Nat) => (show (((((w10.drewN n_).setCell ⟨gb162, 0, none⟩ (.int .i64 ((rd_T50 l0 x3_2).f0))).setCell ⟨gb162, 1, none⟩ (.int .i64 ((rd_T50 l0 x3_2).f1))).setCell ⟨gb162, 2, none⟩ (.int .i64 ((rd_T50 l0 x3_2).f2)))).cell? _ = some _ from hx164_1)); (try have hy164_2 := fun (n_ : Nat) => (show (((((w10.drewN n_).setCell ⟨gb162, 0, none⟩ (.int .i64 ((rd_T50 l0 x3_2).f0))).setCell ⟨gb162, 1, none⟩ (.int .i64 ((rd_T50 l0 x3_2).f1))).setCell ⟨gb162, 2, none⟩ (.int .i64 ((rd_T50 l0 x3_2).f2)))).cell? _ = some _ from hx164_2)); clear hn164_0; clear hn164_1; clear hn164_2; replace p164 := eq_true p164; replace q164 := eq_true q164) | (go_at_call 103; (with_reducible refine (spec_l01In.calls ((rd_T50 l0 x3_2).f1) 0 3 false _ A17.out).mono ?_); rintro e w' ⟨rfl, ⟨nd, rfl⟩⟩; (try first | exact ⟨rfl, _, World.drewN_drewN _ _ _⟩ | exact ⟨rfl, _, Eq.trans (World.drewN_drewN _ _ _) (congrArg (World.drewN _) (Nat.add_assoc _ _ _))⟩)))
                            repeat (go_quiet (first | (go_at_call 103; (with_reducible refine (spec_l01In.calls ((rd_T50 l0 x3_2).f0) 0 (wrap64 (x3_2 - 1)) true _ A12.out).mono ?_); rintro e w' ⟨rfl, ⟨nd, rfl⟩⟩; (try first | exact ⟨rfl, _, World.drewN_drewN _ _ _⟩ | exact ⟨rfl, _, Eq.trans (World.drewN_drewN _ _ _) (congrArg (World.drewN _) (Nat.add_assoc _ _ _))⟩); have p164 : 0 ≤ (((rd_T50 l0 x3_2).f0) : Int) := of_decide_eq_true (by first | (with_reducible assumption) | assumption); have q164 : ((rd_T50 l0 x3_2).f0) < (l0.length : Int) := of_decide_eq_true (by first | (with_reducible assumption) | assumption); obtain ⟨ad164, e164, hx164_0, hx164_1, hx164_2⟩ := at_T50 HR0.out ((rd_T50 l0 x3_2).f0) p164 q164; obtain rfl : ad161 = ad164 := (by injection e164); have hn164_0 : ad161.block ≠ gb162 := Nat.ne_of_lt (Nat.lt_of_lt_of_le (by have := World.block_lt_of_cell? _ _ hx164_0; first | rwa [add_block] at this | exact this) GW162.out); have hn164_1 : ad161.block ≠ gb162 := Nat.ne_of_lt (Nat.lt_of_lt_of_le (by have := World.block_lt_of_cell? _ _ hx164_0; first | rwa [add_block] at this | exact this) GW162.out); have hn164_2 : ad161.block ≠ gb162 := Nat.ne_of_lt (Nat.lt_of_lt_of_le (by have := World.block_lt_of_cell? _ _ hx164_0; first | rwa [add_block] at this | exact this) GW162.out); replace hx164_0 := (HB.out.cell (World.block_lt_of_cell? w _ hx164_0)).trans hx164_0; replace hx164_1 := (HB.out.cell (World.block_lt_of_cell? w _ hx164_1)).trans hx164_1; replace hx164_2 := (HB.out.cell (World.block_lt_of_cell? w _ hx164_2)).trans hx164_2; replace hx164_0 := (cell_far (p := ⟨gb162, 0, none⟩) (by first | (rw [add_block]; exact hn164_0) | (show (Addr.add _ _).block ≠ _; rw [add_block]; exact hn164_0) | exact hn164_0) (.int .i64 ((rd_T50 l0 x3_2).f0))).trans hx164_0; replace hx164_1 := (cell_far (p := ⟨gb162, 0, none⟩) (by first | (rw [add_block]; exact hn164_0) | (show (Addr.add _ _).block ≠ _; rw [add_block]; exact hn164_0) | exact hn164_0) (.int .i64 ((rd_T50 l0 x3_2).f0))).trans hx164_1; replace hx164_2 := (cell_far (p := ⟨gb162, 0, none⟩) (by first | (rw [add_block]; exact hn164_0) | (show (Addr.add _ _).block ≠ _; rw [add_block]; exact hn164_0) | exact hn164_0) (.int .i64 ((rd_T50 l0 x3_2).f0))).trans hx164_2; replace hx164_0 := (cell_far (p := ⟨gb162, 1, none⟩) (by first | (rw [add_block]; exact hn164_1) | (show (Addr.add _ _).block ≠ _; rw [add_block]; exact hn164_1) | exact hn164_1) (.int .i64 ((rd_T50 l0 x3_2).f1))).trans hx164_0; replace hx164_1 := (cell_far (p := ⟨gb162, 1, none⟩) (by first | (rw [add_block]; exact hn164_1) | (show (Addr.add _ _).block ≠ _; rw [add_block]; exact hn164_1) | exact hn164_1) (.int .i64 ((rd_T50 l0 x3_2).f1))).trans hx164_1; replace hx164_2 := (cell_far (p := ⟨gb162, 1, none⟩) (by first | (rw [add_block]; exact hn164_1) | (show (Addr.add _ _).block ≠ _; rw [add_block]; exact hn164_1) | exact hn164_1) (.int .i64 ((rd_T50 l0 x3_2).f1))).trans hx164_2; replace hx164_0 := (cell_far (p := ⟨gb162, 2, none⟩) (by first | (rw [add_block]; exact hn164_2) | (show (Addr.add _ _).block ≠ _; rw [add_block]; exact hn164_2) | exact hn164_2) (.int .i64 ((rd_T50 l0 x3_2).f2))).trans hx164_0; replace hx164_1 := (cell_far (p := ⟨gb162, 2, none⟩) (by first | (rw [add_block]; exact hn164_2) | (show (Addr.add _ _).block ≠ _; rw [add_block]; exact hn164_2) | exact hn164_2) (.int .i64 ((rd_T50 l0 x3_2).f2))).trans hx164_1; replace hx164_2 := (cell_far (p := ⟨gb162, 2, none⟩) (by first | (rw [add_block]; exact hn164_2) | (show (Addr.add _ _).block ≠ _; rw [add_block]; exact hn164_2) | exact hn164_2) (.int .i64 ((rd_T50 l0 x3_2).f2))).trans hx164_2; (try have hy164_0 := fun (n_ : Nat) => (show (((((w10.drewN n_).setCell ⟨gb162, 0, none⟩ (.int .i64 ((rd_T50 l0 x3_2).f0))).setCell ⟨gb162, 1, none⟩ (.int .i64 ((rd_T50 l0 x3_2).f1))).setCell ⟨gb162, 2, none⟩ (.int .i64 ((rd_T50 l0 x3_2).f2)))).cell? _ = some _ from hx164_0)); (try have hy164_1 := fun (n_ : Nat) => (show (((((w10.drewN n_).setCell ⟨gb162, 0, none⟩ (.int .i64 ((rd_T50 l0 x3_2).f0))).setCell ⟨gb162, 1, none⟩ (.int .i64 ((rd_T50 l0 x3_2).f1))).setCell ⟨gb162, 2, none⟩ (.int .i64 ((rd_T50 l0 x3_2).f2)))).cell? _ = some _ from hx164_1)); (try have hy164_2 := fun (n_ : Nat) => (show (((((w10.drewN n_).setCell ⟨gb162, 0, none⟩ (.int .i64 ((rd_T50 l0 x3_2).f0))).setCell ⟨gb162, 1, none⟩ (.int .i64 ((rd_T50 l0 x3_2).f1))).setCell ⟨gb162, 2, none⟩ (.int .i64 ((rd_T50 l0 x3_2).f2)))).cell? _ = some _ from hx164_2)); clear hn164_0; clear hn164_1; clear hn164_2; replace p164 := eq_true p164; replace q164 := eq_true q164) | (go_at_call 103; (with_reducible refine (spec_l01In.calls ((rd_T50 l0 x3_2).f1) 0 3 false _ A17.out).mono ?_); rintro e w' ⟨rfl, ⟨nd, rfl⟩⟩; (try first | exact ⟨rfl, _, World.drewN_drewN _ _ _⟩ | exact ⟨rfl, _, Eq.trans (World.drewN_drewN _ _ _) (congrArg (World.drewN _) (Nat.add_assoc _ _ _))⟩))); try go_wp2_with (first | (go_at_call 103; (with_reducible refine (spec_l01In.calls ((rd_T50 l0 x3_2).f0) 0 (wrap64 (x3_2 - 1)) true _ A12.out).mono ?_); rintro e w' ⟨rfl, ⟨nd, rfl⟩⟩; (try first | exact ⟨rfl, _, World.drewN_drewN _ _ _⟩ | exact ⟨rfl, _, Eq.trans (World.drewN_drewN _ _ _) (congrArg (World.drewN _) (Nat.add_assoc _ _ _))⟩); have p164 : 0 ≤ (((rd_T50 l0 x3_2).f0) : Int) := of_decide_eq_true (by first | (with_reducible assumption) | assumption); have q164 : ((rd_T50 l0 x3_2).f0) < (l0.length : Int) := of_decide_eq_true (by first | (with_reducible assumption) | assumption); obtain ⟨ad164, e164, hx164_0, hx164_1, hx164_2⟩ := at_T50 HR0.out ((rd_T50 l0 x3_2).f0) p164 q164; obtain rfl : ad161 = ad164 := (by injection e164); have hn164_0 : ad161.block ≠ gb162 := Nat.ne_of_lt (Nat.lt_of_lt_of_le (by have := World.block_lt_of_cell? _ _ hx164_0; first | rwa [add_block] at this | exact this) GW162.out); have hn164_1 : ad161.block ≠ gb162 := Nat.ne_of_lt (Nat.lt_of_lt_of_le (by have := World.block_lt_of_cell? _ _ hx164_0; first | rwa [add_block] at this | exact this) GW162.out); have hn164_2 : ad161.block ≠ gb162 := Nat.ne_of_lt (Nat.lt_of_lt_of_le (by have := World.block_lt_of_cell? _ _ hx164_0; first | rwa [add_block] at this | exact this) GW162.out); replace hx164_0 := (HB.out.cell (World.block_lt_of_cell? w _ hx164_0)).trans hx164_0; replace hx164_1 := (HB.out.cell (World.block_lt_of_cell? w _ hx164_1)).trans hx164_1; replace hx164_2 := (HB.out.cell (World.block_lt_of_cell? w _ hx164_2)).trans hx164_2; replace hx164_0 := (cell_far (p := ⟨gb162, 0, none⟩) (by first | (rw [add_block]; exact hn164_0) | (show (Addr.add _ _).block ≠ _; rw [add_block]; exact hn164_0) | exact hn164_0) (.int .i64 ((rd_T50 l0 x3_2).f0))).trans hx164_0; replace hx164_1 := (cell_far (p := ⟨gb162, 0, none⟩) (by first | (rw [add_block]; exact hn164_0) | (show (Addr.add _ _).block ≠ _; rw [add_block]; exact hn164_0) | exact hn164_0) (.int .i64 ((rd_T50 l0 x3_2).f0))).trans hx164_1; replace hx164_2 := (cell_far (p := ⟨gb162, 0, none⟩) (by first | (rw [add_block]; exact hn164_0) | (show (Addr.add _ _).block ≠ _; rw [add_block]; exact hn164_0) | exact hn164_0) (.int .i64 ((rd_T50 l0 x3_2).f0))).trans hx164_2; replace hx164_0 := (cell_far (p := ⟨gb162, 1, none⟩) (by first | (rw [add_block]; exact hn164_1) | (show (Addr.add _ _).block ≠ _; rw [add_block]; exact hn164_1) | exact hn164_1) (.int .i64 ((rd_T50 l0 x3_2).f1))).trans hx164_0; replace hx164_1 := (cell_far (p := ⟨gb162, 1, none⟩) (by first | (rw [add_block]; exact hn164_1) | (show (Addr.add _ _).block ≠ _; rw [add_block]; exact hn164_1) | exact hn164_1) (.int .i64 ((rd_T50 l0 x3_2).f1))).trans hx164_1; replace hx164_2 := (cell_far (p := ⟨gb162, 1, none⟩) (by first | (rw [add_block]; exact hn164_1) | (show (Addr.add _ _).block ≠ _; rw [add_block]; exact hn164_1) | exact hn164_1) (.int .i64 ((rd_T50 l0 x3_2).f1))).trans hx164_2; replace hx164_0 := (cell_far (p := ⟨gb162, 2, none⟩) (by first | (rw [add_block]; exact hn164_2) | (show (Addr.add _ _).block ≠ _; rw [add_block]; exact hn164_2) | exact hn164_2) (.int .i64 ((rd_T50 l0 x3_2).f2))).trans hx164_0; replace hx164_1 := (cell_far (p := ⟨gb162, 2, none⟩) (by first | (rw [add_block]; exact hn164_2) | (show (Addr.add _ _).block ≠ _; rw [add_block]; exact hn164_2) | exact hn164_2) (.int .i64 ((rd_T50 l0 x3_2).f2))).trans hx164_1; replace hx164_2 := (cell_far (p := ⟨gb162, 2, none⟩) (by first | (rw [add_block]; exact hn164_2) | (show (Addr.add _ _).block ≠ _; rw [add_block]; exact hn164_2) | exact hn164_2) (.int .i64 ((rd_T50 l0 x3_2).f2))).trans hx164_2; (try have hy164_0 := fun (n_ : Nat) => (show (((((w10.drewN n_).setCell ⟨gb162, 0, none⟩ (.int .i64 ((rd_T50 l0 x3_2).f0))).setCell ⟨gb162, 1, none⟩ (.int .i64 ((rd_T50 l0 x3_2).f1))).setCell ⟨gb162, 2, none⟩ (.int .i64 ((rd_T50 l0 x3_2).f2)))).cell? _ = some _ from hx164_0)); (try have hy164_1 := fun (n_ : Nat) => (show (((((w10.drewN n_).setCell ⟨gb162, 0, none⟩ (.int .i64 ((rd_T50 l0 x3_2).f0))).setCell ⟨gb162, 1, none⟩ (.int .i64 ((rd_T50 l0 x3_2).f1))).setCell ⟨gb162, 2, none⟩ (.int .i64 ((rd_T50 l0 x3_2).f2)))).cell? _ = some _ from hx164_1)); (try have hy164_2 := fun (n_ : Nat) => (show (((((w10.drewN n_).setCell ⟨gb162, 0, none⟩ (.int .i64 ((rd_T50 l0 x3_2).f0))).setCell ⟨gb162, 1, none⟩ (.int .i64 ((rd_T50 l0 x3_2).f1))).setCell ⟨gb162, 2, none⟩ (.int .i64 ((rd_T50 l0 x3_2).f2)))).cell? _ = some _ from hx164_2)); clear hn164_0; clear hn164_1; clear hn164_2; replace p164 := eq_true p164; replace q164 := eq_true q164) | (go_at_call 103; (with_reducible refine (spec_l01In.calls ((rd_T50 l0 x3_2).f1) 0 3 false _ A17.out).mono ?_); rintro e w' ⟨rfl, ⟨nd, rfl⟩⟩; (try first | exact ⟨rfl, _, World.drewN_drewN _ _ _⟩ | exact ⟨rfl, _, Eq.trans (World.drewN_drewN _ _ _) (congrArg (World.drewN _) (Nat.add_assoc _ _ _))⟩))))
                            go_meet
                            case rel => exact ⟨_, (true), (by first | rfl | (simp; done) | (simp [*]; done)), H', ⟨by have := HJ1.out; have := HK2.out; first | omega | exact Nat.le_refl _⟩, ⟨by (with_reducible repeat (first | refine blk_drewN ?_ _ | refine blk_drew ?_ | refine blk_alloc ?_ _)); refine blk_put (cs := #[.int .i64 ((rd_T50 l0 x3_2).f0), .int .i64 ((rd_T50 l0 x3_2).f1), .int .i64 0]) ?_ 2 _ rfl; (with_reducible repeat (first | refine blk_drewN ?_ _ | refine blk_drew ?_ | refine blk_alloc ?_ _)); refine blk_put (cs := #[.int .i64 ((rd_T50 l0 x3_2).f0), .int .i64 0, .int .i64 0]) ?_ 1 _ rfl; (with_reducible repeat (first | refine blk_drewN ?_ _ | refine blk_drew ?_ | refine blk_alloc ?_ _)); refine blk_put (cs := #[.int .i64 0, .int .i64 0, .int .i64 0]) ?_ 0 _ rfl; (with_reducible repeat (first | refine blk_drewN ?_ _ | refine blk_drew ?_ | refine blk_alloc ?_ _)); exact BK162.out⟩, ⟨by repeat (first | (with_reducible first | exact HB.out | apply below_alloc | apply pw_below_drewN | apply below_drew1 | refine below_set ?_ GE162.out) | exact HB.out)⟩⟩
                        · rw [if_neg c16] at H
                          have c16b0 : (((rd_T50 l0 ((rd_T50 l0 x3_2).f0)).f2) == 0) = false := beq_eq_false_iff_ne.mpr c16
                          have c16b1 : (((rd_T50 l0 ((rd_T50 l0 x3_2).f0)).f2) != 0) = true := bne_iff_ne.mpr c16
                          have H' := Aside0.mk H
                          clear H
                          have hcz22_0 : w10.cell? ⟨gb162, 0, none⟩ = some (.int .i64 0) := (blk_cell BK162.out 0).trans rfl
                          have hcz22_1 : w10.cell? ⟨gb162, 1, none⟩ = some (.int .i64 0) := (blk_cell BK162.out 1).trans rfl
                          have hcz22_2 : w10.cell? ⟨gb162, 2, none⟩ = some (.int .i64 0) := (blk_cell BK162.out 2).trans rfl
                          have hfz22_0 := blk_frozen BK162.out 0
                          have hfz22_1 := blk_frozen BK162.out 1
                          have hfz22_2 := blk_frozen BK162.out 2
                          go_wp2_with (first | (go_at_call 103; (with_reducible refine (spec_l01In.calls ((rd_T50 l0 x3_2).f0) 0 (wrap64 (x3_2 - 1)) true _ A12.out).mono ?_); rintro e w' ⟨rfl, ⟨nd, rfl⟩⟩; (try first | exact ⟨rfl, _, World.drewN_drewN _ _ _⟩ | exact ⟨rfl, _, Eq.trans (World.drewN_drewN _ _ _) (congrArg (World.drewN _) (Nat.add_assoc _ _ _))⟩); have p164 : 0 ≤ (((rd_T50 l0 x3_2).f0) : Int) := of_decide_eq_true (by first | (with_reducible assumption) | assumption); have q164 : ((rd_T50 l0 x3_2).f0) < (l0.length : Int) := of_decide_eq_true (by first | (with_reducible assumption) | assumption); obtain ⟨ad164, e164, hx164_0, hx164_1, hx164_2⟩ := at_T50 HR0.out ((rd_T50 l0 x3_2).f0) p164 q164; obtain rfl : ad161 = ad164 := (by injection e164); have hn164_0 : ad161.block ≠ gb162 := Nat.ne_of_lt (Nat.lt_of_lt_of_le (by have := World.block_lt_of_cell? _ _ hx164_0; first | rwa [add_block] at this | exact this) GW162.out); have hn164_1 : ad161.block ≠ gb162 := Nat.ne_of_lt (Nat.lt_of_lt_of_le (by have := World.block_lt_of_cell? _ _ hx164_0; first | rwa [add_block] at this | exact this) GW162.out); have hn164_2 : ad161.block ≠ gb162 := Nat.ne_of_lt (Nat.lt_of_lt_of_le (by have := World.block_lt_of_cell? _ _ hx164_0; first | rwa [add_block] at this | exact this) GW162.out); replace hx164_0 := (HB.out.cell (World.block_lt_of_cell? w _ hx164_0)).trans hx164_0; replace hx164_1 := (HB.out.cell (World.block_lt_of_cell? w _ hx164_1)).trans hx164_1; replace hx164_2 := (HB.out.cell (World.block_lt_of_cell? w _ hx164_2)).trans hx164_2; replace hx164_0 := (cell_far (p := ⟨gb162, 0, none⟩) (by first | (rw [add_block]; exact hn164_0) | (show (Addr.add _ _).block ≠ _; rw [add_block]; exact hn164_0) | exact hn164_0) (.int .i64 ((rd_T50 l0 x3_2).f0))).trans hx164_0; replace hx164_1 := (cell_far (p := ⟨gb162, 0, none⟩) (by first | (rw [add_block]; exact hn164_0) | (show (Addr.add _ _).block ≠ _; rw [add_block]; exact hn164_0) | exact hn164_0) (.int .i64 ((rd_T50 l0 x3_2).f0))).trans hx164_1; replace hx164_2 := (cell_far (p := ⟨gb162, 0, none⟩) (by first | (rw [add_block]; exact hn164_0) | (show (Addr.add _ _).block ≠ _; rw [add_block]; exact hn164_0) | exact hn164_0) (.int .i64 ((rd_T50 l0 x3_2).f0))).trans hx164_2; replace hx164_0 := (cell_far (p := ⟨gb162, 1, none⟩) (by first | (rw [add_block]; exact hn164_1) | (show (Addr.add _ _).block ≠ _; rw [add_block]; exact hn164_1) | exact hn164_1) (.int .i64 ((rd_T50 l0 x3_2).f1))).trans hx164_0; replace hx164_1 := (cell_far (p := ⟨gb162, 1, none⟩) (by first | (rw [add_block]; exact hn164_1) | (show (Addr.add _ _).block ≠ _; rw [add_block]; exact hn164_1) | exact hn164_1) (.int .i64 ((rd_T50 l0 x3_2).f1))).trans hx164_1; replace hx164_2 := (cell_far (p := ⟨gb162, 1, none⟩) (by first | (rw [add_block]; exact hn164_1) | (show (Addr.add _ _).block ≠ _; rw [add_block]; exact hn164_1) | exact hn164_1) (.int .i64 ((rd_T50 l0 x3_2).f1))).trans hx164_2; replace hx164_0 := (cell_far (p := ⟨gb162, 2, none⟩) (by first | (rw [add_block]; exact hn164_2) | (show (Addr.add _ _).block ≠ _; rw [add_block]; exact hn164_2) | exact hn164_2) (.int .i64 ((rd_T50 l0 x3_2).f2))).trans hx164_0; replace hx164_1 := (cell_far (p := ⟨gb162, 2, none⟩) (by first | (rw [add_block]; exact hn164_2) | (show (Addr.add _ _).block ≠ _; rw [add_block]; exact hn164_2) | exact hn164_2) (.int .i64 ((rd_T50 l0 x3_2).f2))).trans hx164_1; replace hx164_2 := (cell_far (p := ⟨gb162, 2, none⟩) (by first | (rw [add_block]; exact hn164_2) | (show (Addr.add _ _).block ≠ _; rw [add_block]; exact hn164_2) | exact hn164_2) (.int .i64 ((rd_T50 l0 x3_2).f2))).trans hx164_2; (try have hy164_0 := fun (n_ : Nat) => (show (((((w10.drewN n_).setCell ⟨gb162, 0, none⟩ (.int .i64 ((rd_T50 l0 x3_2).f0))).setCell ⟨gb162, 1, none⟩ (.int .i64 ((rd_T50 l0 x3_2).f1))).setCell ⟨gb162, 2, none⟩ (.int .i64 ((rd_T50 l0 x3_2).f2)))).cell? _ = some _ from hx164_0)); (try have hy164_1 := fun (n_ : Nat) => (show (((((w10.drewN n_).setCell ⟨gb162, 0, none⟩ (.int .i64 ((rd_T50 l0 x3_2).f0))).setCell ⟨gb162, 1, none⟩ (.int .i64 ((rd_T50 l0 x3_2).f1))).setCell ⟨gb162, 2, none⟩ (.int .i64 ((rd_T50 l0 x3_2).f2)))).cell? _ = some _ from hx164_1)); (try have hy164_2 := fun (n_ : Nat) => (show (((((w10.drewN n_).setCell ⟨gb162, 0, none⟩ (.int .i64 ((rd_T50 l0 x3_2).f0))).setCell ⟨gb162, 1, none⟩ (.int .i64 ((rd_T50 l0 x3_2).f1))).setCell ⟨gb162, 2, none⟩ (.int .i64 ((rd_T50 l0 x3_2).f2)))).cell? _ = some _ from hx164_2)); clear hn164_0; clear hn164_1; clear hn164_2; replace p164 := eq_true p164; replace q164 := eq_true q164))
                          repeat (go_quiet (first | (go_at_call 103; (with_reducible refine (spec_l01In.calls ((rd_T50 l0 x3_2).f0) 0 (wrap64 (x3_2 - 1)) true _ A12.out).mono ?_); rintro e w' ⟨rfl, ⟨nd, rfl⟩⟩; (try first | exact ⟨rfl, _, World.drewN_drewN _ _ _⟩ | exact ⟨rfl, _, Eq.trans (World.drewN_drewN _ _ _) (congrArg (World.drewN _) (Nat.add_assoc _ _ _))⟩); have p164 : 0 ≤ (((rd_T50 l0 x3_2).f0) : Int) := of_decide_eq_true (by first | (with_reducible assumption) | assumption); have q164 : ((rd_T50 l0 x3_2).f0) < (l0.length : Int) := of_decide_eq_true (by first | (with_reducible assumption) | assumption); obtain ⟨ad164, e164, hx164_0, hx164_1, hx164_2⟩ := at_T50 HR0.out ((rd_T50 l0 x3_2).f0) p164 q164; obtain rfl : ad161 = ad164 := (by injection e164); have hn164_0 : ad161.block ≠ gb162 := Nat.ne_of_lt (Nat.lt_of_lt_of_le (by have := World.block_lt_of_cell? _ _ hx164_0; first | rwa [add_block] at this | exact this) GW162.out); have hn164_1 : ad161.block ≠ gb162 := Nat.ne_of_lt (Nat.lt_of_lt_of_le (by have := World.block_lt_of_cell? _ _ hx164_0; first | rwa [add_block] at this | exact this) GW162.out); have hn164_2 : ad161.block ≠ gb162 := Nat.ne_of_lt (Nat.lt_of_lt_of_le (by have := World.block_lt_of_cell? _ _ hx164_0; first | rwa [add_block] at this | exact this) GW162.out); replace hx164_0 := (HB.out.cell (World.block_lt_of_cell? w _ hx164_0)).trans hx164_0; replace hx164_1 := (HB.out.cell (World.block_lt_of_cell? w _ hx164_1)).trans hx164_1; replace hx164_2 := (HB.out.cell (World.block_lt_of_cell? w _ hx164_2)).trans hx164_2; replace hx164_0 := (cell_far (p := ⟨gb162, 0, none⟩) (by first | (rw [add_block]; exact hn164_0) | (show (Addr.add _ _).block ≠ _; rw [add_block]; exact hn164_0) | exact hn164_0) (.int .i64 ((rd_T50 l0 x3_2).f0))).trans hx164_0; replace hx164_1 := (cell_far (p := ⟨gb162, 0, none⟩) (by first | (rw [add_block]; exact hn164_0) | (show (Addr.add _ _).block ≠ _; rw [add_block]; exact hn164_0) | exact hn164_0) (.int .i64 ((rd_T50 l0 x3_2).f0))).trans hx164_1; replace hx164_2 := (cell_far (p := ⟨gb162, 0, none⟩) (by first | (rw [add_block]; exact hn164_0) | (show (Addr.add _ _).block ≠ _; rw [add_block]; exact hn164_0) | exact hn164_0) (.int .i64 ((rd_T50 l0 x3_2).f0))).trans hx164_2; replace hx164_0 := (cell_far (p := ⟨gb162, 1, none⟩) (by first | (rw [add_block]; exact hn164_1) | (show (Addr.add _ _).block ≠ _; rw [add_block]; exact hn164_1) | exact hn164_1) (.int .i64 ((rd_T50 l0 x3_2).f1))).trans hx164_0; replace hx164_1 := (cell_far (p := ⟨gb162, 1, none⟩) (by first | (rw [add_block]; exact hn164_1) | (show (Addr.add _ _).block ≠ _; rw [add_block]; exact hn164_1) | exact hn164_1) (.int .i64 ((rd_T50 l0 x3_2).f1))).trans hx164_1; replace hx164_2 := (cell_far (p := ⟨gb162, 1, none⟩) (by first | (rw [add_block]; exact hn164_1) | (show (Addr.add _ _).block ≠ _; rw [add_block]; exact hn164_1) | exact hn164_1) (.int .i64 ((rd_T50 l0 x3_2).f1))).trans hx164_2; replace hx164_0 := (cell_far (p := ⟨gb162, 2, none⟩) (by first | (rw [add_block]; exact hn164_2) | (show (Addr.add _ _).block ≠ _; rw [add_block]; exact hn164_2) | exact hn164_2) (.int .i64 ((rd_T50 l0 x3_2).f2))).trans hx164_0; replace hx164_1 := (cell_far (p := ⟨gb162, 2, none⟩) (by first | (rw [add_block]; exact hn164_2) | (show (Addr.add _ _).block ≠ _; rw [add_block]; exact hn164_2) | exact hn164_2) (.int .i64 ((rd_T50 l0 x3_2).f2))).trans hx164_1; replace hx164_2 := (cell_far (p := ⟨gb162, 2, none⟩) (by first | (rw [add_block]; exact hn164_2) | (show (Addr.add _ _).block ≠ _; rw [add_block]; exact hn164_2) | exact hn164_2) (.int .i64 ((rd_T50 l0 x3_2).f2))).trans hx164_2; (try have hy164_0 := fun (n_ : Nat) => (show (((((w10.drewN n_).setCell ⟨gb162, 0, none⟩ (.int .i64 ((rd_T50 l0 x3_2).f0))).setCell ⟨gb162, 1, none⟩ (.int .i64 ((rd_T50 l0 x3_2).f1))).setCell ⟨gb162, 2, none⟩ (.int .i64 ((rd_T50 l0 x3_2).f2)))).cell? _ = some _ from hx164_0)); (try have hy164_1 := fun (n_ : Nat) => (show (((((w10.drewN n_).setCell ⟨gb162, 0, none⟩ (.int .i64 ((rd_T50 l0 x3_2).f0))).setCell ⟨gb162, 1, none⟩ (.int .i64 ((rd_T50 l0 x3_2).f1))).setCell ⟨gb162, 2, none⟩ (.int .i64 ((rd_T50 l0 x3_2).f2)))).cell? _ = some _ from hx164_1)); (try have hy164_2 := fun (n_ : Nat) => (show (((((w10.drewN n_).setCell ⟨gb162, 0, none⟩ (.int .i64 ((rd_T50 l0 x3_2).f0))).setCell ⟨gb162, 1, none⟩ (.int .i64 ((rd_T50 l0 x3_2).f1))).setCell ⟨gb162, 2, none⟩ (.int .i64 ((rd_T50 l0 x3_2).f2)))).cell? _ = some _ from hx164_2)); clear hn164_0; clear hn164_1; clear hn164_2; replace p164 := eq_true p164; replace q164 := eq_true q164)); try go_wp2_with (first | (go_at_call 103; (with_reducible refine (spec_l01In.calls ((rd_T50 l0 x3_2).f0) 0 (wrap64 (x3_2 - 1)) true _ A12.out).mono ?_); rintro e w' ⟨rfl, ⟨nd, rfl⟩⟩; (try first | exact ⟨rfl, _, World.drewN_drewN _ _ _⟩ | exact ⟨rfl, _, Eq.trans (World.drewN_drewN _ _ _) (congrArg (World.drewN _) (Nat.add_assoc _ _ _))⟩); have p164 : 0 ≤ (((rd_T50 l0 x3_2).f0) : Int) := of_decide_eq_true (by first | (with_reducible assumption) | assumption); have q164 : ((rd_T50 l0 x3_2).f0) < (l0.length : Int) := of_decide_eq_true (by first | (with_reducible assumption) | assumption); obtain ⟨ad164, e164, hx164_0, hx164_1, hx164_2⟩ := at_T50 HR0.out ((rd_T50 l0 x3_2).f0) p164 q164; obtain rfl : ad161 = ad164 := (by injection e164); have hn164_0 : ad161.block ≠ gb162 := Nat.ne_of_lt (Nat.lt_of_lt_of_le (by have := World.block_lt_of_cell? _ _ hx164_0; first | rwa [add_block] at this | exact this) GW162.out); have hn164_1 : ad161.block ≠ gb162 := Nat.ne_of_lt (Nat.lt_of_lt_of_le (by have := World.block_lt_of_cell? _ _ hx164_0; first | rwa [add_block] at this | exact this) GW162.out); have hn164_2 : ad161.block ≠ gb162 := Nat.ne_of_lt (Nat.lt_of_lt_of_le (by have := World.block_lt_of_cell? _ _ hx164_0; first | rwa [add_block] at this | exact this) GW162.out); replace hx164_0 := (HB.out.cell (World.block_lt_of_cell? w _ hx164_0)).trans hx164_0; replace hx164_1 := (HB.out.cell (World.block_lt_of_cell? w _ hx164_1)).trans hx164_1; replace hx164_2 := (HB.out.cell (World.block_lt_of_cell? w _ hx164_2)).trans hx164_2; replace hx164_0 := (cell_far (p := ⟨gb162, 0, none⟩) (by first | (rw [add_block]; exact hn164_0) | (show (Addr.add _ _).block ≠ _; rw [add_block]; exact hn164_0) | exact hn164_0) (.int .i64 ((rd_T50 l0 x3_2).f0))).trans hx164_0; replace hx164_1 := (cell_far (p := ⟨gb162, 0, none⟩) (by first | (rw [add_block]; exact hn164_0) | (show (Addr.add _ _).block ≠ _; rw [add_block]; exact hn164_0) | exact hn164_0) (.int .i64 ((rd_T50 l0 x3_2).f0))).trans hx164_1; replace hx164_2 := (cell_far (p := ⟨gb162, 0, none⟩) (by first | (rw [add_block]; exact hn164_0) | (show (Addr.add _ _).block ≠ _; rw [add_block]; exact hn164_0) | exact hn164_0) (.int .i64 ((rd_T50 l0 x3_2).f0))).trans hx164_2; replace hx164_0 := (cell_far (p := ⟨gb162, 1, none⟩) (by first | (rw [add_block]; exact hn164_1) | (show (Addr.add _ _).block ≠ _; rw [add_block]; exact hn164_1) | exact hn164_1) (.int .i64 ((rd_T50 l0 x3_2).f1))).trans hx164_0; replace hx164_1 := (cell_far (p := ⟨gb162, 1, none⟩) (by first | (rw [add_block]; exact hn164_1) | (show (Addr.add _ _).block ≠ _; rw [add_block]; exact hn164_1) | exact hn164_1) (.int .i64 ((rd_T50 l0 x3_2).f1))).trans hx164_1; replace hx164_2 := (cell_far (p := ⟨gb162, 1, none⟩) (by first | (rw [add_block]; exact hn164_1) | (show (Addr.add _ _).block ≠ _; rw [add_block]; exact hn164_1) | exact hn164_1) (.int .i64 ((rd_T50 l0 x3_2).f1))).trans hx164_2; replace hx164_0 := (cell_far (p := ⟨gb162, 2, none⟩) (by first | (rw [add_block]; exact hn164_2) | (show (Addr.add _ _).block ≠ _; rw [add_block]; exact hn164_2) | exact hn164_2) (.int .i64 ((rd_T50 l0 x3_2).f2))).trans hx164_0; replace hx164_1 := (cell_far (p := ⟨gb162, 2, none⟩) (by first | (rw [add_block]; exact hn164_2) | (show (Addr.add _ _).block ≠ _; rw [add_block]; exact hn164_2) | exact hn164_2) (.int .i64 ((rd_T50 l0 x3_2).f2))).trans hx164_1; replace hx164_2 := (cell_far (p := ⟨gb162, 2, none⟩) (by first | (rw [add_block]; exact hn164_2) | (show (Addr.add _ _).block ≠ _; rw [add_block]; exact hn164_2) | exact hn164_2) (.int .i64 ((rd_T50 l0 x3_2).f2))).trans hx164_2; (try have hy164_0 := fun (n_ : Nat) => (show (((((w10.drewN n_).setCell ⟨gb162, 0, none⟩ (.int .i64 ((rd_T50 l0 x3_2).f0))).setCell ⟨gb162, 1, none⟩ (.int .i64 ((rd_T50 l0 x3_2).f1))).setCell ⟨gb162, 2, none⟩ (.int .i64 ((rd_T50 l0 x3_2).f2)))).cell? _ = some _ from hx164_0)); (try have hy164_1 := fun (n_ : Nat) => (show (((((w10.drewN n_).setCell ⟨gb162, 0, none⟩ (.int .i64 ((rd_T50 l0 x3_2).f0))).setCell ⟨gb162, 1, none⟩ (.int .i64 ((rd_T50 l0 x3_2).f1))).setCell ⟨gb162, 2, none⟩ (.int .i64 ((rd_T50 l0 x3_2).f2)))).cell? _ = some _ from hx164_1)); (try have hy164_2 := fun (n_ : Nat) => (show (((((w10.drewN n_).setCell ⟨gb162, 0, none⟩ (.int .i64 ((rd_T50 l0 x3_2).f0))).setCell ⟨gb162, 1, none⟩ (.int .i64 ((rd_T50 l0 x3_2).f1))).setCell ⟨gb162, 2, none⟩ (.int .i64 ((rd_T50 l0 x3_2).f2)))).cell? _ = some _ from hx164_2)); clear hn164_0; clear hn164_1; clear hn164_2; replace p164 := eq_true p164; replace q164 := eq_true q164)))
                          go_meet
                          case rel => exact ⟨_, (true), (by first | rfl | (simp; done) | (simp [*]; done)), H', ⟨by have := HJ1.out; have := HK2.out; first | omega | exact Nat.le_refl _⟩, ⟨by (with_reducible repeat (first | refine blk_drewN ?_ _ | refine blk_drew ?_ | refine blk_alloc ?_ _)); refine blk_put (cs := #[.int .i64 ((rd_T50 l0 x3_2).f0), .int .i64 ((rd_T50 l0 x3_2).f1), .int .i64 0]) ?_ 2 _ rfl; (with_reducible repeat (first | refine blk_drewN ?_ _ | refine blk_drew ?_ | refine blk_alloc ?_ _)); refine blk_put (cs := #[.int .i64 ((rd_T50 l0 x3_2).f0), .int .i64 0, .int .i64 0]) ?_ 1 _ rfl; (with_reducible repeat (first | refine blk_drewN ?_ _ | refine blk_drew ?_ | refine blk_alloc ?_ _)); refine blk_put (cs := #[.int .i64 0, .int .i64 0, .int .i64 0]) ?_ 0 _ rfl; (with_reducible repeat (first | refine blk_drewN ?_ _ | refine blk_drew ?_ | refine blk_alloc ?_ _)); exact BK162.out⟩, ⟨by repeat (first | (with_reducible first | exact HB.out | apply below_alloc | apply pw_below_drewN | apply below_drew1 | refine below_set ?_ GE162.out) | exact HB.out)⟩⟩
                      · rw [if_neg c15] at H
                        exact absurd H (by simp)
                    · rw [if_neg c14] at H
                      exact absurd H (by simp)
                  · replace c13 := Bool.eq_false_iff.mpr c13
                    subst c13
                    have H1 : (spec_TreeOk.j2 k2 l0 x3_2 true ((rd_T50 l0 x3_2).f0) ((rd_T50 l0 x3_2).f1) ((rd_T50 l0 x3_2).f2)) = some r := by rw [if_neg (show ¬ (false = true) by decide)] at H; exact H
                    clear H
                    have H := H1
                    clear H1
                    have H' := Aside0.mk H
                    clear H
                    have hcz23_0 : w10.cell? ⟨gb162, 0, none⟩ = some (.int .i64 0) := (blk_cell BK162.out 0).trans rfl
                    have hcz23_1 : w10.cell? ⟨gb162, 1, none⟩ = some (.int .i64 0) := (blk_cell BK162.out 1).trans rfl
                    have hcz23_2 : w10.cell? ⟨gb162, 2, none⟩ = some (.int .i64 0) := (blk_cell BK162.out 2).trans rfl
                    have hfz23_0 := blk_frozen BK162.out 0
                    have hfz23_1 := blk_frozen BK162.out 1
                    have hfz23_2 := blk_frozen BK162.out 2
                    go_wp2_with (first | (go_at_call 103; (with_reducible refine (spec_l01In.calls ((rd_T50 l0 x3_2).f0) 0 (wrap64 (x3_2 - 1)) false _ A12.out).mono ?_); rintro e w' ⟨rfl, ⟨nd, rfl⟩⟩; (try first | exact ⟨rfl, _, World.drewN_drewN _ _ _⟩ | exact ⟨rfl, _, Eq.trans (World.drewN_drewN _ _ _) (congrArg (World.drewN _) (Nat.add_assoc _ _ _))⟩)))
                    repeat (go_quiet (first | (go_at_call 103; (with_reducible refine (spec_l01In.calls ((rd_T50 l0 x3_2).f0) 0 (wrap64 (x3_2 - 1)) false _ A12.out).mono ?_); rintro e w' ⟨rfl, ⟨nd, rfl⟩⟩; (try first | exact ⟨rfl, _, World.drewN_drewN _ _ _⟩ | exact ⟨rfl, _, Eq.trans (World.drewN_drewN _ _ _) (congrArg (World.drewN _) (Nat.add_assoc _ _ _))⟩))); try go_wp2_with (first | (go_at_call 103; (with_reducible refine (spec_l01In.calls ((rd_T50 l0 x3_2).f0) 0 (wrap64 (x3_2 - 1)) false _ A12.out).mono ?_); rintro e w' ⟨rfl, ⟨nd, rfl⟩⟩; (try first | exact ⟨rfl, _, World.drewN_drewN _ _ _⟩ | exact ⟨rfl, _, Eq.trans (World.drewN_drewN _ _ _) (congrArg (World.drewN _) (Nat.add_assoc _ _ _))⟩))))
                    go_meet
                    case rel => exact ⟨_, (true), (by first | rfl | (simp; done) | (simp [*]; done)), H', ⟨by have := HJ1.out; have := HK2.out; first | omega | exact Nat.le_refl _⟩, ⟨by (with_reducible repeat (first | refine blk_drewN ?_ _ | refine blk_drew ?_ | refine blk_alloc ?_ _)); refine blk_put (cs := #[.int .i64 ((rd_T50 l0 x3_2).f0), .int .i64 ((rd_T50 l0 x3_2).f1), .int .i64 0]) ?_ 2 _ rfl; (with_reducible repeat (first | refine blk_drewN ?_ _ | refine blk_drew ?_ | refine blk_alloc ?_ _)); refine blk_put (cs := #[.int .i64 ((rd_T50 l0 x3_2).f0), .int .i64 0, .int .i64 0]) ?_ 1 _ rfl; (with_reducible repeat (first | refine blk_drewN ?_ _ | refine blk_drew ?_ | refine blk_alloc ?_ _)); refine blk_put (cs := #[.int .i64 0, .int .i64 0, .int .i64 0]) ?_ 0 _ rfl; (with_reducible repeat (first | refine blk_drewN ?_ _ | refine blk_drew ?_ | refine blk_alloc ?_ _)); exact BK162.out⟩, ⟨by repeat (first | (with_reducible first | exact HB.out | apply below_alloc | apply pw_below_drewN | apply below_drew1 | refine below_set ?_ GE162.out) | exact HB.out)⟩⟩
                case rest =>
                  clear HC9
                  try clear c1
                  try clear p1
                  try clear q1
                  try clear hx1
                  try clear qi1
                  try clear p2
                  try clear c4
                  try clear c5
                  try clear c5b0
                  try clear c5b1
                  try clear c6
                  try clear p6
                  try clear c7
                  try clear c7b0
                  try clear c8
                  try clear c8b0
                  try clear c10
                  try clear c13
                  try clear c14
                  try clear c14b0
                  try clear c15
                  try clear c15b0
                  try clear c16
                  try clear c16b0
                  try clear c16b1
                  try clear p16
                  try clear q16
                  try clear hx16
                  try clear qi16
                  try clear c18
                  try clear hcz11_0
                  try clear hcz11_1
                  try clear hcz11_2
                  try clear hcz20_0
                  try clear hcz20_1
                  try clear hcz20_2
                  try clear hcz21_0
                  try clear hcz21_1
                  try clear hcz21_2
                  try clear hcz22_0
                  try clear hcz22_1
                  try clear hcz22_2
                  try clear hcz23_0
                  try clear hcz23_1
                  try clear hcz23_2
                  try clear hfz11_0
                  try clear hfz11_1
                  try clear hfz11_2
                  try clear hfz20_0
                  try clear hfz20_1
                  try clear hfz20_2
                  try clear hfz21_0
                  try clear hfz21_1
                  try clear hfz21_2
                  try clear hfz22_0
                  try clear hfz22_1
                  try clear hfz22_2
                  try clear hfz23_0
                  try clear hfz23_1
                  try clear hfz23_2
                  try clear hx160_0
                  try clear hx160_1
                  try clear hx160_2
                  try clear hx161_0
                  try clear hx161_1
                  try clear hx161_2
                  try clear hx164_0
                  try clear hx164_1
                  try clear hx164_2
                  try clear p1
                  try clear p160
                  try clear p161
                  try clear p164
                  try clear p2
                  try clear q1
                  try clear q160
                  try clear q161
                  try clear q164
                  obtain ⟨kq, x53_8, rfl, HA, HJ8, BK162, HB⟩ := hcut
                  cases kq with
                  | zero => exact absurd HA.out (by simp [spec_TreeOk.j2])
                  | succ kj8 =>
                    have H := HA.out
                    clear HA
                    simp only [spec_TreeOk.j2] at H
                    by_cases c24 : x53_8 = true
                    · subst c24
                      have H1 : (some false) = some r := by rw [if_pos rfl] at H; exact H
                      clear H
                      have H := H1
                      clear H1
                      obtain rfl := Option.some.inj H
                      go_wp2
                      repeat (go_quiet (fail); try go_wp2)
                      go_ret
                      exact ⟨by first | rfl | (simp [errW_none, errW_some] <;> rfl) | (simp [*, errW_none, errW_some] <;> rfl), by repeat (first | (with_reducible first | exact HB.out | apply below_alloc | apply pw_below_drewN | apply below_drew1 | refine below_set ?_ GE162.out) | exact HB.out)⟩
                    · replace c24 := Bool.eq_false_iff.mpr c24
                      subst c24
                      have H1 : (spec_TreeOk.l1 kj8 l0 x3_2 1 ((rd_T50 l0 x3_2).f0) ((rd_T50 l0 x3_2).f1) ((rd_T50 l0 x3_2).f2)) = some r := by rw [if_neg (show ¬ (false = true) by decide)] at H; exact H
                      clear H
                      have H := H1
                      clear H1
                      have H' := Aside0.mk H
                      clear H
                      go_wp2
                      repeat (go_quiet (fail); try go_wp2)
                      go_loopg [5] kj8 (fun kq v5 w' => ∃ (x5_4 : Int), v5 = .int .i64 x5_4 ∧ Aside0 (spec_TreeOk.l1 kq l0 x3_2 x5_4 ((rd_T50 l0 x3_2).f0) ((rd_T50 l0 x3_2).f1) ((rd_T50 l0 x3_2).f2) = some r) ∧ Aside0 (kq ≤ kj8) ∧ Aside0 (w'.heap[gb162]? = some (.cells #[.int .i64 ((rd_T50 l0 x3_2).f0), .int .i64 ((rd_T50 l0 x3_2).f1), .int .i64 ((rd_T50 l0 x3_2).f2)] 50 (0, 0))) ∧ Aside0 (Below w.heap.size w w'))
                      case atStart => exact ⟨(1), (by first | rfl | (simp; done) | (simp [*]; done)), H', ⟨Nat.le_refl _⟩, ⟨by (with_reducible repeat (first | refine blk_drewN ?_ _ | refine blk_drew ?_ | refine blk_alloc ?_ _)); exact BK162.out⟩, ⟨by repeat (first | (with_reducible first | exact HB.out | apply below_alloc | apply pw_below_drewN | apply below_drew1 | refine below_set ?_ GE162.out) | exact HB.out)⟩⟩
                      case round =>
                        clear H'
                        try clear c1
                        try clear p1
                        try clear q1
                        try clear hx1
                        try clear qi1
                        try clear c2
                        try clear p2
                        try clear c4
                        try clear c5
                        try clear c5b0
                        try clear c5b1
                        try clear c6
                        try clear p6
                        try clear c7
                        try clear c7b0
                        try clear c8
                        try clear c8b0
                        try clear c10
                        try clear c13
                        try clear c14
                        try clear c14b0
                        try clear c15
                        try clear c15b0
                        try clear c16
                        try clear c16b0
                        try clear c16b1
                        try clear p16
                        try clear q16
                        try clear hx16
                        try clear qi16
                        try clear c18
                        try clear c24
                        try clear hcz11_0
                        try clear hcz11_1
                        try clear hcz11_2
                        try clear hcz20_0
                        try clear hcz20_1
                        try clear hcz20_2
                        try clear hcz21_0
                        try clear hcz21_1
                        try clear hcz21_2
                        try clear hcz22_0
                        try clear hcz22_1
                        try clear hcz22_2
                        try clear hcz23_0
                        try clear hcz23_1
                        try clear hcz23_2
                        try clear hfz11_0
                        try clear hfz11_1
                        try clear hfz11_2
                        try clear hfz20_0
                        try clear hfz20_1
                        try clear hfz20_2
                        try clear hfz21_0
                        try clear hfz21_1
                        try clear hfz21_2
                        try clear hfz22_0
                        try clear hfz22_1
                        try clear hfz22_2
                        try clear hfz23_0
                        try clear hfz23_1
                        try clear hfz23_2
                        try clear hx160_0
                        try clear hx160_1
                        try clear hx160_2
                        try clear hx161_0
                        try clear hx161_1
                        try clear hx161_2
                        try clear hx164_0
                        try clear hx164_1
                        try clear hx164_2
                        try clear p1
                        try clear p16
                        try clear p160
                        try clear p161
                        try clear p164
                        try clear p2
                        try clear p6
                        try clear q1
                        try clear q16
                        try clear q160
                        try clear q161
                        try clear q164
                        obtain ⟨x5_4, rfl, HA, HK4, BK162, HB⟩ := hrel
                        cases gk with
                        | zero => exact absurd HA.out (by simp [spec_TreeOk.l1])
                        | succ k4 =>
                          have H := HA.out
                          clear HA
                          simp only [spec_TreeOk.l1] at H
                          by_cases c25 : x5_4 < x3_2
                          · rw [if_pos c25] at H
                            have c25b0 : decide (x5_4 < x3_2) = true := decide_eq_true c25
                            clear c25
                            by_cases c26 : 0 ≤ x5_4
                            · rw [if_pos c26] at H
                              have c26b0 : decide (0 ≤ x5_4) = true := decide_eq_true c26
                              clear c26
                              by_cases c27 : x5_4 < (l0.length : Int)
                              · rw [if_pos c27] at H
                                have c27b0 : decide (x5_4 < (l0.length : Int)) = true := decide_eq_true c27
                                clear c27
                                by_cases c28 : ((rd_T50 l0 x5_4).f0) = ((rd_T50 l0 x3_2).f0)
                                · rw [if_pos c28] at H
                                  have c28b0 : (((rd_T50 l0 x5_4).f0) == ((rd_T50 l0 x3_2).f0)) = true := beq_iff_eq.mpr c28
                                  have c28b1 : (((rd_T50 l0 x5_4).f0) != ((rd_T50 l0 x3_2).f0)) = false := bne_eq_false_iff_eq.mpr c28
                                  clear c28
                                  by_cases c29 : ((rd_T50 l0 x5_4).f1) = ((rd_T50 l0 x3_2).f1)
                                  · rw [if_pos c29] at H
                                    have c29b0 : (((rd_T50 l0 x5_4).f1) == ((rd_T50 l0 x3_2).f1)) = true := beq_iff_eq.mpr c29
                                    have c29b1 : (((rd_T50 l0 x5_4).f1) != ((rd_T50 l0 x3_2).f1)) = false := bne_eq_false_iff_eq.mpr c29
                                    clear c29
                                    obtain rfl := Option.some.inj H
                                    have p167 : 0 ≤ (x5_4 : Int) := of_decide_eq_true (by first | (with_reducible assumption) | assumption)
                                    have q167 : x5_4 < (l0.length : Int) := of_decide_eq_true (by first | (with_reducible assumption) | assumption)
                                    obtain ⟨ad167, e167, hx167_0, hx167_1, hx167_2⟩ := at_T50 HR0.out x5_4 p167 q167
                                    obtain rfl : ad161 = ad167 := (by injection e167)
                                    replace hx167_0 := (HB.out.cell (World.block_lt_of_cell? w _ hx167_0)).trans hx167_0
                                    replace hx167_1 := (HB.out.cell (World.block_lt_of_cell? w _ hx167_1)).trans hx167_1
                                    replace hx167_2 := (HB.out.cell (World.block_lt_of_cell? w _ hx167_2)).trans hx167_2
                                    replace p167 := eq_true p167
                                    replace q167 := eq_true q167
                                    have hcz30_0 : wr.cell? ⟨gb162, 0, none⟩ = some (.int .i64 ((rd_T50 l0 x3_2).f0)) := (blk_cell BK162.out 0).trans rfl
                                    have hcz30_1 : wr.cell? ⟨gb162, 1, none⟩ = some (.int .i64 ((rd_T50 l0 x3_2).f1)) := (blk_cell BK162.out 1).trans rfl
                                    have hcz30_2 : wr.cell? ⟨gb162, 2, none⟩ = some (.int .i64 ((rd_T50 l0 x3_2).f2)) := (blk_cell BK162.out 2).trans rfl
                                    have hfz30_0 := blk_frozen BK162.out 0
                                    have hfz30_1 := blk_frozen BK162.out 1
                                    have hfz30_2 := blk_frozen BK162.out 2
                                    have p168 : 0 ≤ (x5_4 : Int) := of_decide_eq_true (by first | (with_reducible assumption) | assumption)
                                    have q168 : x5_4 < (l0.length : Int) := of_decide_eq_true (by first | (with_reducible assumption) | assumption)
                                    obtain ⟨ad168, e168, hx168_0, hx168_1, hx168_2⟩ := at_T50 HR0.out x5_4 p168 q168
                                    obtain rfl : ad161 = ad168 := (by injection e168)
                                    replace hx168_0 := (HB.out.cell (World.block_lt_of_cell? w _ hx168_0)).trans hx168_0
                                    replace hx168_1 := (HB.out.cell (World.block_lt_of_cell? w _ hx168_1)).trans hx168_1
                                    replace hx168_2 := (HB.out.cell (World.block_lt_of_cell? w _ hx168_2)).trans hx168_2
                                    replace p168 := eq_true p168
                                    replace q168 := eq_true q168
                                    go_wp2
                                    repeat (go_quiet (fail); try go_wp2)
                                    go_ret
                                    exact ⟨by first | rfl | (simp [errW_none, errW_some] <;> rfl) | (simp [*, errW_none, errW_some] <;> rfl), by repeat (first | (with_reducible first | exact HB.out | apply below_alloc | apply pw_below_drewN | apply below_drew1 | refine below_set ?_ GE162.out) | exact HB.out)⟩
                                  · rw [if_neg c29] at H
                                    have c29b0 : (((rd_T50 l0 x5_4).f1) == ((rd_T50 l0 x3_2).f1)) = false := beq_eq_false_iff_ne.mpr c29
                                    have c29b1 : (((rd_T50 l0 x5_4).f1) != ((rd_T50 l0 x3_2).f1)) = true := bne_iff_ne.mpr c29
                                    have H' := Aside0.mk H
                                    clear H
                                    have p167 : 0 ≤ (x5_4 : Int) := of_decide_eq_true (by first | (with_reducible assumption) | assumption)
                                    have q167 : x5_4 < (l0.length : Int) := of_decide_eq_true (by first | (with_reducible assumption) | assumption)
                                    obtain ⟨ad167, e167, hx167_0, hx167_1, hx167_2⟩ := at_T50 HR0.out x5_4 p167 q167
                                    obtain rfl : ad161 = ad167 := (by injection e167)
                                    replace hx167_0 := (HB.out.cell (World.block_lt_of_cell? w _ hx167_0)).trans hx167_0
                                    replace hx167_1 := (HB.out.cell (World.block_lt_of_cell? w _ hx167_1)).trans hx167_1
                                    replace hx167_2 := (HB.out.cell (World.block_lt_of_cell? w _ hx167_2)).trans hx167_2
                                    replace p167 := eq_true p167
                                    replace q167 := eq_true q167
                                    have hcz31_0 : wr.cell? ⟨gb162, 0, none⟩ = some (.int .i64 ((rd_T50 l0 x3_2).f0)) := (blk_cell BK162.out 0).trans rfl
                                    have hcz31_1 : wr.cell? ⟨gb162, 1, none⟩ = some (.int .i64 ((rd_T50 l0 x3_2).f1)) := (blk_cell BK162.out 1).trans rfl
                                    have hcz31_2 : wr.cell? ⟨gb162, 2, none⟩ = some (.int .i64 ((rd_T50 l0 x3_2).f2)) := (blk_cell BK162.out 2).trans rfl
                                    have hfz31_0 := blk_frozen BK162.out 0
                                    have hfz31_1 := blk_frozen BK162.out 1
                                    have hfz31_2 := blk_frozen BK162.out 2
                                    have p168 : 0 ≤ (x5_4 : Int) := of_decide_eq_true (by first | (with_reducible assumption) | assumption)
                                    have q168 : x5_4 < (l0.length : Int) := of_decide_eq_true (by first | (with_reducible assumption) | assumption)
                                    obtain ⟨ad168, e168, hx168_0, hx168_1, hx168_2⟩ := at_T50 HR0.out x5_4 p168 q168
                                    obtain rfl : ad161 = ad168 := (by injection e168)
                                    replace hx168_0 := (HB.out.cell (World.block_lt_of_cell? w _ hx168_0)).trans hx168_0
                                    replace hx168_1 := (HB.out.cell (World.block_lt_of_cell? w _ hx168_1)).trans hx168_1
                                    replace hx168_2 := (HB.out.cell (World.block_lt_of_cell? w _ hx168_2)).trans hx168_2
                                    replace p168 := eq_true p168
                                    replace q168 := eq_true q168
                                    go_wp2
                                    repeat (go_quiet (fail); try go_wp2)
                                    go_roundg k4
                                    case measure => have := HJ1.out; have := HK2.out; have := HJ8.out; have := HK4.out; omega
                                    case rel => exact ⟨(wrap64 (x5_4 + 1)), (by first | rfl | (simp; done) | (simp [*]; done)), H', ⟨by have := HJ1.out; have := HK2.out; have := HJ8.out; have := HK4.out; omega⟩, ⟨by (with_reducible repeat (first | refine blk_drewN ?_ _ | refine blk_drew ?_ | refine blk_alloc ?_ _)); exact BK162.out⟩, ⟨by repeat (first | (with_reducible first | exact HB.out | apply below_alloc | apply pw_below_drewN | apply below_drew1 | refine below_set ?_ GE162.out) | exact HB.out)⟩⟩
                                · rw [if_neg c28] at H
                                  have c28b0 : (((rd_T50 l0 x5_4).f0) == ((rd_T50 l0 x3_2).f0)) = false := beq_eq_false_iff_ne.mpr c28
                                  have c28b1 : (((rd_T50 l0 x5_4).f0) != ((rd_T50 l0 x3_2).f0)) = true := bne_iff_ne.mpr c28
                                  have H' := Aside0.mk H
                                  clear H
                                  have p167 : 0 ≤ (x5_4 : Int) := of_decide_eq_true (by first | (with_reducible assumption) | assumption)
                                  have q167 : x5_4 < (l0.length : Int) := of_decide_eq_true (by first | (with_reducible assumption) | assumption)
                                  obtain ⟨ad167, e167, hx167_0, hx167_1, hx167_2⟩ := at_T50 HR0.out x5_4 p167 q167
                                  obtain rfl : ad161 = ad167 := (by injection e167)
                                  replace hx167_0 := (HB.out.cell (World.block_lt_of_cell? w _ hx167_0)).trans hx167_0
                                  replace hx167_1 := (HB.out.cell (World.block_lt_of_cell? w _ hx167_1)).trans hx167_1
                                  replace hx167_2 := (HB.out.cell (World.block_lt_of_cell? w _ hx167_2)).trans hx167_2
                                  replace p167 := eq_true p167
                                  replace q167 := eq_true q167
                                  have hcz32_0 : wr.cell? ⟨gb162, 0, none⟩ = some (.int .i64 ((rd_T50 l0 x3_2).f0)) := (blk_cell BK162.out 0).trans rfl
                                  have hcz32_1 : wr.cell? ⟨gb162, 1, none⟩ = some (.int .i64 ((rd_T50 l0 x3_2).f1)) := (blk_cell BK162.out 1).trans rfl
                                  have hcz32_2 : wr.cell? ⟨gb162, 2, none⟩ = some (.int .i64 ((rd_T50 l0 x3_2).f2)) := (blk_cell BK162.out 2).trans rfl
                                  have hfz32_0 := blk_frozen BK162.out 0
                                  have hfz32_1 := blk_frozen BK162.out 1
                                  have hfz32_2 := blk_frozen BK162.out 2
                                  go_wp2
                                  repeat (go_quiet (fail); try go_wp2)
                                  go_roundg k4
                                  case measure => have := HJ1.out; have := HK2.out; have := HJ8.out; have := HK4.out; omega
                                  case rel => exact ⟨(wrap64 (x5_4 + 1)), (by first | rfl | (simp; done) | (simp [*]; done)), H', ⟨by have := HJ1.out; have := HK2.out; have := HJ8.out; have := HK4.out; omega⟩, ⟨by (with_reducible repeat (first | refine blk_drewN ?_ _ | refine blk_drew ?_ | refine blk_alloc ?_ _)); exact BK162.out⟩, ⟨by repeat (first | (with_reducible first | exact HB.out | apply below_alloc | apply pw_below_drewN | apply below_drew1 | refine below_set ?_ GE162.out) | exact HB.out)⟩⟩
                              · rw [if_neg c27] at H
                                exact absurd H (by simp)
                            · rw [if_neg c26] at H
                              exact absurd H (by simp)
                          · rw [if_neg c25] at H
                            have c25b0 : decide (x5_4 < x3_2) = false := decide_eq_false c25
                            clear c25
                            have H' := Aside0.mk H
                            clear H
                            go_wp2
                            repeat (go_quiet (fail); try go_wp2)
                            go_roundg k4
                            case measure => have := HJ1.out; have := HK2.out; have := HJ8.out; have := HK4.out; omega
                            case rel => exact ⟨(wrap64 (x3_2 + 1)), (by first | rfl | (simp; done) | (simp [*]; done)), H', ⟨by have := HJ1.out; have := HK2.out; have := HJ8.out; have := HK4.out; omega⟩, ⟨by repeat (first | (with_reducible first | exact HB.out | apply below_alloc | apply pw_below_drewN | apply below_drew1 | refine below_set ?_ GE162.out) | exact HB.out)⟩⟩
              · rw [if_neg c8] at H
                exact absurd H (by simp)
            · rw [if_neg c7] at H
              have c7b0 : decide (x3_2 < (l0.length : Int)) = false := decide_eq_false c7
              clear c7
              obtain rfl := Option.some.inj H
              go_wp2
              repeat (go_quiet (fail); try go_wp2)
              go_ret
              exact ⟨by first | rfl | (simp [errW_none, errW_some] <;> rfl) | (simp [*, errW_none, errW_some] <;> rfl), by repeat (first | (with_reducible first | exact HB.out | apply below_alloc | apply pw_below_drewN | apply below_drew1) | exact HB.out)⟩

/-! ### spec_l19Ok: function 97 -/
def spec_l19Ok.f (k : Nat) (l0 : List (S50)) (a1 : Int) : Option (Bool) := (spec_TreeOk.f k l0).bind fun t169 => (if t169 = true then ((spec_l01In.f a1 0 (wrap64 ((l0.length : Int) - 1))).bind fun t170 => (some t170)) else (some false))
theorem spec_l19Ok.mono : ∀ a0 a1 k, LeO (spec_l19Ok.f k a0 a1) (spec_l19Ok.f (k + 1) a0 a1) := by
  intro a0 a1 k
  unfold spec_l19Ok.f
  repeat' first
      | (with_reducible exact spec_TreeOk.mono _ _)
      | (with_reducible exact LeO.refl _)
      | (with_reducible exact LeO.none _)
      | (with_reducible refine LeO.ite ?_ ?_)
      | (with_reducible refine LeO.bind ?_ (fun _ => ?_))
      | exact spec_TreeOk.mono _ _
      | exact LeO.none _
      | refine LeO.ite ?_ ?_
      | refine LeO.bind ?_ (fun _ => ?_)
set_option maxHeartbeats 8000000 in
set_option maxRecDepth 100000 in
theorem spec_l19Ok.calls (k : Nat) (A0 : Option Addr) (c0 : Nat) (l0 : List (S50)) (a1 : Int) (r : Bool) (w : World) (hr0 : Kd.C k50 w A0 l0.length l0) (hc0 : l0.length ≤ c0) (h : spec_l19Ok.f k l0 a1 = some r) :
    Calls Try.prog 97 #[.slice A0 l0.length c0, .int .i64 a1] w fun e w' => e = .returned (.bool r) ∧ Below w.heap.size w w' := by
  have HR0 := Aside0.mk hr0
  have HC0 := Aside0.mk hc0
  clear hr0 hc0
  have HB := Aside0.mk (Below.refl w.heap.size w)
  have H : ((spec_TreeOk.f k l0).bind fun t169 => (if t169 = true then ((spec_l01In.f a1 0 (wrap64 ((l0.length : Int) - 1))).bind fun t170 => (some t170)) else (some false))) = some r := h
  clear h
  replace H := Option.bind_eq_some_iff.mp H
  obtain ⟨t169, A30, H⟩ := H
  replace H : (if t169 = true then ((spec_l01In.f a1 0 (wrap64 ((l0.length : Int) - 1))).bind fun t170 => (some t170)) else (some false)) = some r := H
  have A3 := Aside0.mk A30
  clear A30
  by_cases c4 : t169 = true
  · subst c4
    have H1 : ((spec_l01In.f a1 0 (wrap64 ((l0.length : Int) - 1))).bind fun t170 => (some t170)) = some r := by rw [if_pos rfl] at H; exact H
    clear H
    have H := H1
    clear H1
    replace H := Option.bind_eq_some_iff.mp H
    obtain ⟨t170, A50, H⟩ := H
    replace H : (some t170) = some r := H
    have A5 := Aside0.mk A50
    clear A50
    obtain rfl := Option.some.inj H
    go_enter Try.func97, Try.ntmps97
    go_wp2_with (first | ((with_reducible refine gate_callee (f := 106) rfl ?_); refine goesL_ (some 6) rfl rfl Try.func106 (by kernel_rfl) rfl #[.slice A0 l0.length c0] rfl (by (try simp only [List.map_toArray, List.map_cons, List.map_nil]); first | done | rfl | (simp only [List.length_drop, List.length_take]; rfl)) ?_; (with_reducible refine (spec_TreeOk.calls k _ _ l0 true _ ?side1 ?side2 A3.out).mono ?_); (case side1 => repeat (first | exact HR0.out | (with_reducible refine Kd.C_alloc ?_ _) | (with_reducible refine Kd.C_drewN ?_ _) | (with_reducible refine Kd.C_drew ?_))); (case side2 => exact HC0.out); rintro e w6 ⟨rfl, hb⟩; refine ⟨_, rfl, ?_⟩; have n0_ := Aside0.mk (below_step (by repeat (first | (with_reducible first | exact HB.out | apply below_alloc | apply pw_below_drewN | apply below_drew1) | exact HB.out)) hb); clear HB; have HB := n0_; clear n0_; (try clear hb); (try clear hb2); (try clear hk); (try clear hi)) | (go_at_call 103; (with_reducible refine (spec_l01In.calls a1 0 (wrap64 ((l0.length : Int) - 1)) t170 _ A5.out).mono ?_); rintro e w' ⟨rfl, ⟨nd, rfl⟩⟩))
    go_ret
    exact ⟨by first | rfl | (simp [errW_none, errW_some] <;> rfl) | (simp [*, errW_none, errW_some] <;> rfl), by repeat (first | (with_reducible first | exact HB.out | apply below_alloc | apply pw_below_drewN | apply below_drew1) | exact HB.out)⟩
  · replace c4 := Bool.eq_false_iff.mpr c4
    subst c4
    have H1 : (some false) = some r := by rw [if_neg (show ¬ (false = true) by decide)] at H; exact H
    clear H
    have H := H1
    clear H1
    obtain rfl := Option.some.inj H
    go_enter Try.func97, Try.ntmps97
    go_wp2_with (first | ((with_reducible refine gate_callee (f := 106) rfl ?_); refine goesL_ (some 6) rfl rfl Try.func106 (by kernel_rfl) rfl #[.slice A0 l0.length c0] rfl (by (try simp only [List.map_toArray, List.map_cons, List.map_nil]); first | done | rfl | (simp only [List.length_drop, List.length_take]; rfl)) ?_; (with_reducible refine (spec_TreeOk.calls k _ _ l0 false _ ?side1 ?side2 A3.out).mono ?_); (case side1 => repeat (first | exact HR0.out | (with_reducible refine Kd.C_alloc ?_ _) | (with_reducible refine Kd.C_drewN ?_ _) | (with_reducible refine Kd.C_drew ?_))); (case side2 => exact HC0.out); rintro e w7 ⟨rfl, hb⟩; refine ⟨_, rfl, ?_⟩; have n0_ := Aside0.mk (below_step (by repeat (first | (with_reducible first | exact HB.out | apply below_alloc | apply pw_below_drewN | apply below_drew1) | exact HB.out)) hb); clear HB; have HB := n0_; clear n0_; (try clear hb); (try clear hb2); (try clear hk); (try clear hi)))
    go_ret
    exact ⟨by first | rfl | (simp [errW_none, errW_some] <;> rfl) | (simp [*, errW_none, errW_some] <;> rfl), by repeat (first | (with_reducible first | exact HB.out | apply below_alloc | apply pw_below_drewN | apply below_drew1) | exact HB.out)⟩

end Go.Proofs.Ytbbppknnkghkjaa.PFnExactChildrenOf
