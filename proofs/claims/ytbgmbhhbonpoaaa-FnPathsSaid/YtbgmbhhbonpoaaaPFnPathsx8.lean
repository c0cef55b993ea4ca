/- Printed by a program of this session out of the translation: each Go function as a Lean function, with the proof that Go comes to just its answer (no condition beyond what each theorem says). -/
import Derived.Test.YtbgmbhhbonpoaaaPFnPathsx0
import Derived.Test.YtbgmbhhbonpoaaaPFnPathsx2
import Derived.Test.YtbgmbhhbonpoaaaPFnPathsx5
import Derived.Test.YtbgmbhhbonpoaaaPFnPathsx6
import Derived.Test.YtbgmbhhbonpoaaaPFnPathsx7
namespace Go.Proofs.Ytbgmbhhbonpoaaa.PFnPaths
open Go.RowKit Go.Proofs.YtbgmbhhbonpoaaaW.PrintWords Go.Proofs.YtbgmbhhbonpoaaaW.PrintLast Go.Proofs.YtbgmbhhbonpoaaaW.PrintMore
attribute [local go_sem] max2_int min2_int max_two min_two max_three min_three max_four min_four   -- for this text's walks alone
set_option linter.unusedVariables false
set_option linter.unusedSimpArgs false

/-! ### laws_FnPaths: function 5 -/
mutual
def laws_FnPaths.j0 : Nat → List (S38) → Int → List Int → List Int → Bool → Option (Bool)
  | 0, _, _, _, _, _ => none
  | k + 1, x3, x5, x7, x8, x63 => if x63 = true then (some false) else (laws_FnPaths.l0 k x3 x5 x7 x8 0)
def laws_FnPaths.l0 : Nat → List (S38) → Int → List Int → List Int → Int → Option (Bool)
  | 0, _, _, _, _, _ => none
  | k + 1, x3, x5, x7, x8, x9 => if x9 < (x7.length : Int) then (if 0 ≤ x9 then (if 0 ≤ (wrap64 ((wrap64 ((x8.length : Int) - 1)) - x9)) then (if (wrap64 ((wrap64 ((x8.length : Int) - 1)) - x9)) < (x8.length : Int) then (if (rd x7 x9) = (rd x8 (wrap64 ((wrap64 ((x8.length : Int) - 1)) - x9))) then (if (rd x7 x9) < 0 then (laws_FnPaths.j2 k x3 x5 x7 x8 x9 true) else (laws_FnPaths.j2 k x3 x5 x7 x8 x9 (decide ((rd x7 x9) ≥ (x3.length : Int))))) else (laws_FnPaths.j2 k x3 x5 x7 x8 x9 true)) else (none)) else (none)) else (none)) else ((impl_PathTo.f k x3 x5).bind fun t279 => (if (t279.length : Int) > 0 then (if 0 < (t279.length : Int) then (if (rd t279 0) = 0 then (if 0 ≤ (wrap64 ((t279.length : Int) - 1)) then (if (wrap64 ((t279.length : Int) - 1)) < (t279.length : Int) then (if (rd t279 (wrap64 ((t279.length : Int) - 1))) = x5 then ((impl_PathBetween.f k x3 0 x5).bind fun t284 => ((laws_sameInts.f k t284 t279).bind fun t287 => (some t287))) else (some false)) else (none)) else (none)) else (some false)) else (none)) else (some false)))
def laws_FnPaths.j2 : Nat → List (S38) → Int → List Int → List Int → Int → Bool → Option (Bool)
  | 0, _, _, _, _, _, _ => none
  | k + 1, x3, x5, x7, x8, x9, x98 => if x98 = true then (some false) else (if x9 > 0 then (if 0 ≤ x9 then (if x9 < (x7.length : Int) then (if 0 ≤ (rd x7 x9) then (if (rd x7 x9) < (x3.length : Int) then (if 0 ≤ (wrap64 (x9 - 1)) then (if (wrap64 (x9 - 1)) < (x7.length : Int) then (if ((rd_T38 x3 (rd x7 x9)).f0) = (rd x7 (wrap64 (x9 - 1))) then (laws_FnPaths.l0 k x3 x5 x7 x8 (wrap64 (x9 + 1))) else (if 0 ≤ (rd x7 (wrap64 (x9 - 1))) then (if (rd x7 (wrap64 (x9 - 1))) < (x3.length : Int) then (if ((rd_T38 x3 (rd x7 (wrap64 (x9 - 1)))).f0) = (rd x7 x9) then (laws_FnPaths.l0 k x3 x5 x7 x8 (wrap64 (x9 + 1))) else (some false)) else (none)) else (none))) else (none)) else (none)) else (none)) else (none)) else (none)) else (none)) else (laws_FnPaths.l0 k x3 x5 x7 x8 (wrap64 (x9 + 1))))
end
def laws_FnPaths.f (k : Nat) (l0 : List Int) : Option (Bool) := (laws_big.f l0).bind fun t262 => (if t262 = true then (some true) else ((spec_DrawTree.f k l0).bind fun t263 => ((spec_DrawPlaces.f k l0).bind fun t266 => (if 0 < (t266.length : Int) then (if (t263.length : Int) = 0 then (none) else (if 1 < (t266.length : Int) then ((impl_PathBetween.f k t263 (Int.tmod (rd t266 0) (t263.length : Int)) (Int.tmod (rd t266 1) (t263.length : Int))).bind fun t271 => ((impl_PathBetween.f k t263 (Int.tmod (rd t266 1) (t263.length : Int)) (Int.tmod (rd t266 0) (t263.length : Int))).bind fun t274 => (if (t271.length : Int) = 0 then (laws_FnPaths.j0 k t263 (Int.tmod (rd t266 0) (t263.length : Int)) t271 t274 true) else (if (t271.length : Int) = (t274.length : Int) then (if 0 < (t271.length : Int) then (if (rd t271 0) = (Int.tmod (rd t266 0) (t263.length : Int)) then (if 0 ≤ (wrap64 ((t271.length : Int) - 1)) then (if (wrap64 ((t271.length : Int) - 1)) < (t271.length : Int) then (laws_FnPaths.j0 k t263 (Int.tmod (rd t266 0) (t263.length : Int)) t271 t274 ((rd t271 (wrap64 ((t271.length : Int) - 1))) != (Int.tmod (rd t266 1) (t263.length : Int)))) else (none)) else (none)) else (laws_FnPaths.j0 k t263 (Int.tmod (rd t266 0) (t263.length : Int)) t271 t274 true)) else (none)) else (laws_FnPaths.j0 k t263 (Int.tmod (rd t266 0) (t263.length : Int)) t271 t274 true))))) else (none))) else (none)))))
theorem laws_FnPaths.mono_l : ∀ k, (∀ y0 y1 y2 y3 y4, LeO (laws_FnPaths.j0 k y0 y1 y2 y3 y4) (laws_FnPaths.j0 (k + 1) y0 y1 y2 y3 y4)) ∧ (∀ y0 y1 y2 y3 y4, LeO (laws_FnPaths.l0 k y0 y1 y2 y3 y4) (laws_FnPaths.l0 (k + 1) y0 y1 y2 y3 y4)) ∧ (∀ y0 y1 y2 y3 y4 y5, LeO (laws_FnPaths.j2 k y0 y1 y2 y3 y4 y5) (laws_FnPaths.j2 (k + 1) y0 y1 y2 y3 y4 y5))
  | 0 => ⟨fun _ _ _ _ _ r h => by simp [laws_FnPaths.j0] at h, fun _ _ _ _ _ r h => by simp [laws_FnPaths.l0] at h, fun _ _ _ _ _ _ r h => by simp [laws_FnPaths.j2] at h⟩
  | k + 1 => by
    obtain ⟨ih0, ih1, ih2⟩ := laws_FnPaths.mono_l k
    refine ⟨?_, ?_, ?_⟩
    · intro y0 y1 y2 y3 y4
      unfold laws_FnPaths.j0
      repeat' first
      | (with_reducible exact ih0 _ _ _ _ _)
      | (with_reducible exact ih1 _ _ _ _ _)
      | (with_reducible exact ih2 _ _ _ _ _ _)
      | (with_reducible exact impl_PathBetween.mono _ _ _ _)
      | (with_reducible exact impl_PathTo.mono _ _ _)
      | (with_reducible exact laws_sameInts.mono _ _ _)
      | (with_reducible exact spec_DrawPlaces.mono _ _)
      | (with_reducible exact spec_DrawTree.mono _ _)
      | (with_reducible exact LeO.refl _)
      | (with_reducible exact LeO.none _)
      | (with_reducible refine LeO.ite ?_ ?_)
      | (with_reducible refine LeO.bind ?_ (fun _ => ?_))
      | exact ih0 _ _ _ _ _
      | exact ih1 _ _ _ _ _
      | exact ih2 _ _ _ _ _ _
      | exact impl_PathBetween.mono _ _ _ _
      | exact impl_PathTo.mono _ _ _
      | exact laws_sameInts.mono _ _ _
      | exact spec_DrawPlaces.mono _ _
      | exact spec_DrawTree.mono _ _
      | exact LeO.none _
      | refine LeO.ite ?_ ?_
      | refine LeO.bind ?_ (fun _ => ?_)
    · intro y0 y1 y2 y3 y4
      unfold laws_FnPaths.l0
      repeat' first
      | (with_reducible exact ih0 _ _ _ _ _)
      | (with_reducible exact ih1 _ _ _ _ _)
      | (with_reducible exact ih2 _ _ _ _ _ _)
      | (with_reducible exact impl_PathBetween.mono _ _ _ _)
      | (with_reducible exact impl_PathTo.mono _ _ _)
      | (with_reducible exact laws_sameInts.mono _ _ _)
      | (with_reducible exact spec_DrawPlaces.mono _ _)
      | (with_reducible exact spec_DrawTree.mono _ _)
      | (with_reducible exact LeO.refl _)
      | (with_reducible exact LeO.none _)
      | (with_reducible refine LeO.ite ?_ ?_)
      | (with_reducible refine LeO.bind ?_ (fun _ => ?_))
      | exact ih0 _ _ _ _ _
      | exact ih1 _ _ _ _ _
      | exact ih2 _ _ _ _ _ _
      | exact impl_PathBetween.mono _ _ _ _
      | exact impl_PathTo.mono _ _ _
      | exact laws_sameInts.mono _ _ _
      | exact spec_DrawPlaces.mono _ _
      | exact spec_DrawTree.mono _ _
      | exact LeO.none _
      | refine LeO.ite ?_ ?_
      | refine LeO.bind ?_ (fun _ => ?_)
    · intro y0 y1 y2 y3 y4 y5
      unfold laws_FnPaths.j2
      repeat' first
      | (with_reducible exact ih0 _ _ _ _ _)
      | (with_reducible exact ih1 _ _ _ _ _)
      | (with_reducible exact ih2 _ _ _ _ _ _)
      | (with_reducible exact impl_PathBetween.mono _ _ _ _)
      | (with_reducible exact impl_PathTo.mono _ _ _)
      | (with_reducible exact laws_sameInts.mono _ _ _)
      | (with_reducible exact spec_DrawPlaces.mono _ _)
      | (with_reducible exact spec_DrawTree.mono _ _)
      | (with_reducible exact LeO.refl _)
      | (with_reducible exact LeO.none _)
      | (with_reducible refine LeO.ite ?_ ?_)
      | (with_reducible refine LeO.bind ?_ (fun _ => ?_))
      | exact ih0 _ _ _ _ _
      | exact ih1 _ _ _ _ _
      | exact ih2 _ _ _ _ _ _
      | exact impl_PathBetween.mono _ _ _ _
      | exact impl_PathTo.mono _ _ _
      | exact laws_sameInts.mono _ _ _
      | exact spec_DrawPlaces.mono _ _
      | exact spec_DrawTree.mono _ _
      | exact LeO.none _
      | refine LeO.ite ?_ ?_
      | refine LeO.bind ?_ (fun _ => ?_)
theorem laws_FnPaths.mono : ∀ a0 k, LeO (laws_FnPaths.f k a0) (laws_FnPaths.f (k + 1) a0) := by
  intro a0 k
  obtain ⟨ih0, ih1, ih2⟩ := laws_FnPaths.mono_l k
  unfold laws_FnPaths.f
  repeat' first
      | (with_reducible exact ih0 _ _ _ _ _)
      | (with_reducible exact ih1 _ _ _ _ _)
      | (with_reducible exact ih2 _ _ _ _ _ _)
      | (with_reducible exact impl_PathBetween.mono _ _ _ _)
      | (with_reducible exact impl_PathTo.mono _ _ _)
      | (with_reducible exact laws_sameInts.mono _ _ _)
      | (with_reducible exact spec_DrawPlaces.mono _ _)
      | (with_reducible exact spec_DrawTree.mono _ _)
      | (with_reducible exact LeO.refl _)
      | (with_reducible exact LeO.none _)
      | (with_reducible refine LeO.ite ?_ ?_)
      | (with_reducible refine LeO.bind ?_ (fun _ => ?_))
      | exact ih0 _ _ _ _ _
      | exact ih1 _ _ _ _ _
      | exact ih2 _ _ _ _ _ _
      | exact impl_PathBetween.mono _ _ _ _
      | exact impl_PathTo.mono _ _ _
      | exact laws_sameInts.mono _ _ _
      | exact spec_DrawPlaces.mono _ _
      | exact spec_DrawTree.mono _ _
      | exact LeO.none _
      | refine LeO.ite ?_ ?_
      | refine LeO.bind ?_ (fun _ => ?_)
set_option maxHeartbeats 8000000 in
set_option maxRecDepth 100000 in
theorem laws_FnPaths.calls (k : Nat) (A0 : Option Addr) (c0 : Nat) (l0 : List Int) (r : Bool) (w : World) (hr0 : Kd.C (Kd.int .u8) w A0 l0.length l0) (hc0 : l0.length ≤ c0) (h : laws_FnPaths.f k l0 = some r) :
    Calls Try.prog 5 #[.slice A0 l0.length c0] w fun e w' => e = .returned (.bool r) ∧ Below w.heap.size w w' := by
  have HR0 := Aside0.mk hr0
  have HC0 := Aside0.mk hc0
  clear hr0 hc0
  have HB := Aside0.mk (Below.refl w.heap.size w)
  have H : ((laws_big.f l0).bind fun t262 => (if t262 = true then (some true) else ((spec_DrawTree.f k l0).bind fun t263 => ((spec_DrawPlaces.f k l0).bind fun t266 => (if 0 < (t266.length : Int) then (if (t263.length : Int) = 0 then (none) else (if 1 < (t266.length : Int) then ((impl_PathBetween.f k t263 (Int.tmod (rd t266 0) (t263.length : Int)) (Int.tmod (rd t266 1) (t263.length : Int))).bind fun t271 => ((impl_PathBetween.f k t263 (Int.tmod (rd t266 1) (t263.length : Int)) (Int.tmod (rd t266 0) (t263.length : Int))).bind fun t274 => (if (t271.length : Int) = 0 then (laws_FnPaths.j0 k t263 (Int.tmod (rd t266 0) (t263.length : Int)) t271 t274 true) else (if (t271.length : Int) = (t274.length : Int) then (if 0 < (t271.length : Int) then (if (rd t271 0) = (Int.tmod (rd t266 0) (t263.length : Int)) then (if 0 ≤ (wrap64 ((t271.length : Int) - 1)) then (if (wrap64 ((t271.length : Int) - 1)) < (t271.length : Int) then (laws_FnPaths.j0 k t263 (Int.tmod (rd t266 0) (t263.length : Int)) t271 t274 ((rd t271 (wrap64 ((t271.length : Int) - 1))) != (Int.tmod (rd t266 1) (t263.length : Int)))) else (none)) else (none)) else (laws_FnPaths.j0 k t263 (Int.tmod (rd t266 0) (t263.length : Int)) t271 t274 true)) else (none)) else (laws_FnPaths.j0 k t263 (Int.tmod (rd t266 0) (t263.length : Int)) t271 t274 true))))) else (none))) else (none)))))) = some r := h
  clear h
  replace H := Option.bind_eq_some_iff.mp H
  obtain ⟨t262, A20, H⟩ := H
  replace H : (if t262 = true then (some true) else ((spec_DrawTree.f k l0).bind fun t263 => ((spec_DrawPlaces.f k l0).bind fun t266 => (if 0 < (t266.length : Int) then (if (t263.length : Int) = 0 then (none) else (if 1 < (t266.length : Int) then ((impl_PathBetween.f k t263 (Int.tmod (rd t266 0) (t263.length : Int)) (Int.tmod (rd t266 1) (t263.length : Int))).bind fun t271 => ((impl_PathBetween.f k t263 (Int.tmod (rd t266 1) (t263.length : Int)) (Int.tmod (rd t266 0) (t263.length : Int))).bind fun t274 => (if (t271.length : Int) = 0 then (laws_FnPaths.j0 k t263 (Int.tmod (rd t266 0) (t263.length : Int)) t271 t274 true) else (if (t271.length : Int) = (t274.length : Int) then (if 0 < (t271.length : Int) then (if (rd t271 0) = (Int.tmod (rd t266 0) (t263.length : Int)) then (if 0 ≤ (wrap64 ((t271.length : Int) - 1)) then (if (wrap64 ((t271.length : Int) - 1)) < (t271.length : Int) then (laws_FnPaths.j0 k t263 (Int.tmod (rd t266 0) (t263.length : Int)) t271 t274 ((rd t271 (wrap64 ((t271.length : Int) - 1))) != (Int.tmod (rd t266 1) (t263.length : Int)))) else (none)) else (none)) else (laws_FnPaths.j0 k t263 (Int.tmod (rd t266 0) (t263.length : Int)) t271 t274 true)) else (none)) else (laws_FnPaths.j0 k t263 (Int.tmod (rd t266 0) (t263.length : Int)) t271 t274 true))))) else (none))) else (none))))) = some r := H
  have A2 := Aside0.mk A20
  clear A20
  by_cases c3 : t262 = true
  · subst c3
    have H1 : (some true) = some r := by rw [if_pos rfl] at H; exact H
    clear H
    have H := H1
    clear H1
    obtain rfl := Option.some.inj H
    go_enter Try.func5, Try.ntmps5
    go_wp2_with (first | (go_at_call 18; (with_reducible refine (laws_big.calls _ _ l0 true _ ?side1 ?side2 A2.out).mono ?_); (case side1 => repeat (first | exact HR0.out | (with_reducible refine Kd.C_alloc ?_ _) | (with_reducible refine Kd.C_drewN ?_ _) | (with_reducible refine Kd.C_drew ?_))); (case side2 => exact HC0.out); rintro e w' ⟨rfl, ⟨nd, rfl⟩⟩; (try first | exact ⟨rfl, _, World.drewN_drewN _ _ _⟩ | exact ⟨rfl, _, Eq.trans (World.drewN_drewN _ _ _) (congrArg (World.drewN _) (Nat.add_assoc _ _ _))⟩)))
    repeat (go_quiet (first | (go_at_call 18; (with_reducible refine (laws_big.calls _ _ l0 true _ ?side1 ?side2 A2.out).mono ?_); (case side1 => repeat (first | exact HR0.out | (with_reducible refine Kd.C_alloc ?_ _) | (with_reducible refine Kd.C_drewN ?_ _) | (with_reducible refine Kd.C_drew ?_))); (case side2 => exact HC0.out); rintro e w' ⟨rfl, ⟨nd, rfl⟩⟩; (try first | exact ⟨rfl, _, World.drewN_drewN _ _ _⟩ | exact ⟨rfl, _, Eq.trans (World.drewN_drewN _ _ _) (congrArg (World.drewN _) (Nat.add_assoc _ _ _))⟩))); try go_wp2_with (first | (go_at_call 18; (with_reducible refine (laws_big.calls _ _ l0 true _ ?side1 ?side2 A2.out).mono ?_); (case side1 => repeat (first | exact HR0.out | (with_reducible refine Kd.C_alloc ?_ _) | (with_reducible refine Kd.C_drewN ?_ _) | (with_reducible refine Kd.C_drew ?_))); (case side2 => exact HC0.out); rintro e w' ⟨rfl, ⟨nd, rfl⟩⟩; (try first | exact ⟨rfl, _, World.drewN_drewN _ _ _⟩ | exact ⟨rfl, _, Eq.trans (World.drewN_drewN _ _ _) (congrArg (World.drewN _) (Nat.add_assoc _ _ _))⟩))))
    go_ret
    exact ⟨by first | rfl | (simp [errW_none, errW_some] <;> rfl) | (simp [*, errW_none, errW_some] <;> rfl), by repeat (first | (with_reducible first | exact HB.out | apply below_alloc | apply pw_below_drewN | apply below_drew1) | exact HB.out)⟩
  · replace c3 := Bool.eq_false_iff.mpr c3
    subst c3
    have H1 : ((spec_DrawTree.f k l0).bind fun t263 => ((spec_DrawPlaces.f k l0).bind fun t266 => (if 0 < (t266.length : Int) then (if (t263.length : Int) = 0 then (none) else (if 1 < (t266.length : Int) then ((impl_PathBetween.f k t263 (Int.tmod (rd t266 0) (t263.length : Int)) (Int.tmod (rd t266 1) (t263.length : Int))).bind fun t271 => ((impl_PathBetween.f k t263 (Int.tmod (rd t266 1) (t263.length : Int)) (Int.tmod (rd t266 0) (t263.length : Int))).bind fun t274 => (if (t271.length : Int) = 0 then (laws_FnPaths.j0 k t263 (Int.tmod (rd t266 0) (t263.length : Int)) t271 t274 true) else (if (t271.length : Int) = (t274.length : Int) then (if 0 < (t271.length : Int) then (if (rd t271 0) = (Int.tmod (rd t266 0) (t263.length : Int)) then (if 0 ≤ (wrap64 ((t271.length : Int) - 1)) then (if (wrap64 ((t271.length : Int) - 1)) < (t271.length : Int) then (laws_FnPaths.j0 k t263 (Int.tmod (rd t266 0) (t263.length : Int)) t271 t274 ((rd t271 (wrap64 ((t271.length : Int) - 1))) != (Int.tmod (rd t266 1) (t263.length : Int)))) else (none)) else (none)) else (laws_FnPaths.j0 k t263 (Int.tmod (rd t266 0) (t263.length : Int)) t271 t274 true)) else (none)) else (laws_FnPaths.j0 k t263 (Int.tmod (rd t266 0) (t263.length : Int)) t271 t274 true))))) else (none))) else (none)))) = some r := by rw [if_neg (show ¬ (false = true) by decide)] at H; exact H
    clear H
    have H := H1
    clear H1
    replace H := Option.bind_eq_some_iff.mp H
    obtain ⟨t263, A40, H⟩ := H
    replace H : ((spec_DrawPlaces.f k l0).bind fun t266 => (if 0 < (t266.length : Int) then (if (t263.length : Int) = 0 then (none) else (if 1 < (t266.length : Int) then ((impl_PathBetween.f k t263 (Int.tmod (rd t266 0) (t263.length : Int)) (Int.tmod (rd t266 1) (t263.length : Int))).bind fun t271 => ((impl_PathBetween.f k t263 (Int.tmod (rd t266 1) (t263.length : Int)) (Int.tmod (rd t266 0) (t263.length : Int))).bind fun t274 => (if (t271.length : Int) = 0 then (laws_FnPaths.j0 k t263 (Int.tmod (rd t266 0) (t263.length : Int)) t271 t274 true) else (if (t271.length : Int) = (t274.length : Int) then (if 0 < (t271.length : Int) then (if (rd t271 0) = (Int.tmod (rd t266 0) (t263.length : Int)) then (if 0 ≤ (wrap64 ((t271.length : Int) - 1)) then (if (wrap64 ((t271.length : Int) - 1)) < (t271.length : Int) then (laws_FnPaths.j0 k t263 (Int.tmod (rd t266 0) (t263.length : Int)) t271 t274 ((rd t271 (wrap64 ((t271.length : Int) - 1))) != (Int.tmod (rd t266 1) (t263.length : Int)))) else (none)) else (none)) else (laws_FnPaths.j0 k t263 (Int.tmod (rd t266 0) (t263.length : Int)) t271 t274 true)) else (none)) else (laws_FnPaths.j0 k t263 (Int.tmod (rd t266 0) (t263.length : Int)) t271 t274 true))))) else (none))) else (none))) = some r := H
    have A4 := Aside0.mk A40
    clear A40
    replace H := Option.bind_eq_some_iff.mp H
    obtain ⟨t266, A50, H⟩ := H
    replace H : (if 0 < (t266.length : Int) then (if (t263.length : Int) = 0 then (none) else (if 1 < (t266.length : Int) then ((impl_PathBetween.f k t263 (Int.tmod (rd t266 0) (t263.length : Int)) (Int.tmod (rd t266 1) (t263.length : Int))).bind fun t271 => ((impl_PathBetween.f k t263 (Int.tmod (rd t266 1) (t263.length : Int)) (Int.tmod (rd t266 0) (t263.length : Int))).bind fun t274 => (if (t271.length : Int) = 0 then (laws_FnPaths.j0 k t263 (Int.tmod (rd t266 0) (t263.length : Int)) t271 t274 true) else (if (t271.length : Int) = (t274.length : Int) then (if 0 < (t271.length : Int) then (if (rd t271 0) = (Int.tmod (rd t266 0) (t263.length : Int)) then (if 0 ≤ (wrap64 ((t271.length : Int) - 1)) then (if (wrap64 ((t271.length : Int) - 1)) < (t271.length : Int) then (laws_FnPaths.j0 k t263 (Int.tmod (rd t266 0) (t263.length : Int)) t271 t274 ((rd t271 (wrap64 ((t271.length : Int) - 1))) != (Int.tmod (rd t266 1) (t263.length : Int)))) else (none)) else (none)) else (laws_FnPaths.j0 k t263 (Int.tmod (rd t266 0) (t263.length : Int)) t271 t274 true)) else (none)) else (laws_FnPaths.j0 k t263 (Int.tmod (rd t266 0) (t263.length : Int)) t271 t274 true))))) else (none))) else (none)) = some r := H
    have A5 := Aside0.mk A50
    clear A50
    by_cases c6 : 0 < (t266.length : Int)
    · rw [if_pos c6] at H
      have c6b0 : decide (0 < (t266.length : Int)) = true := decide_eq_true c6
      have c6b1 : decide (0 < t266.length) = true := decide_eq_true (by omega)
      clear c6
      by_cases c7 : (t263.length : Int) = 0
      · rw [if_pos c7] at H
        exact absurd H (by simp)
      · rw [if_neg c7] at H
        have c7b0 : ((t263.length : Int) == 0) = false := beq_eq_false_iff_ne.mpr c7
        have c7b1 : ((t263.length : Int) != 0) = true := bne_iff_ne.mpr c7
        have c7b2 : ¬ (t263 = []) := fun h_ => c7 (by rw [h_]; rfl)
        by_cases c8 : 1 < (t266.length : Int)
        · rw [if_pos c8] at H
          have c8b0 : decide (1 < (t266.length : Int)) = true := decide_eq_true c8
          have c8b1 : decide (1 < t266.length) = true := decide_eq_true (by omega)
          clear c8
          replace H := Option.bind_eq_some_iff.mp H
          obtain ⟨t271, A90, H⟩ := H
          replace H : ((impl_PathBetween.f k t263 (Int.tmod (rd t266 1) (t263.length : Int)) (Int.tmod (rd t266 0) (t263.length : Int))).bind fun t274 => (if (t271.length : Int) = 0 then (laws_FnPaths.j0 k t263 (Int.tmod (rd t266 0) (t263.length : Int)) t271 t274 true) else (if (t271.length : Int) = (t274.length : Int) then (if 0 < (t271.length : Int) then (if (rd t271 0) = (Int.tmod (rd t266 0) (t263.length : Int)) then (if 0 ≤ (wrap64 ((t271.length : Int) - 1)) then (if (wrap64 ((t271.length : Int) - 1)) < (t271.length : Int) then (laws_FnPaths.j0 k t263 (Int.tmod (rd t266 0) (t263.length : Int)) t271 t274 ((rd t271 (wrap64 ((t271.length : Int) - 1))) != (Int.tmod (rd t266 1) (t263.length : Int)))) else (none)) else (none)) else (laws_FnPaths.j0 k t263 (Int.tmod (rd t266 0) (t263.length : Int)) t271 t274 true)) else (none)) else (laws_FnPaths.j0 k t263 (Int.tmod (rd t266 0) (t263.length : Int)) t271 t274 true)))) = some r := H
          have A9 := Aside0.mk A90
          clear A90
          replace H := Option.bind_eq_some_iff.mp H
          obtain ⟨t274, A100, H⟩ := H
          replace H : (if (t271.length : Int) = 0 then (laws_FnPaths.j0 k t263 (Int.tmod (rd t266 0) (t263.length : Int)) t271 t274 true) else (if (t271.length : Int) = (t274.length : Int) then (if 0 < (t271.length : Int) then (if (rd t271 0) = (Int.tmod (rd t266 0) (t263.length : Int)) then (if 0 ≤ (wrap64 ((t271.length : Int) - 1)) then (if (wrap64 ((t271.length : Int) - 1)) < (t271.length : Int) then (laws_FnPaths.j0 k t263 (Int.tmod (rd t266 0) (t263.length : Int)) t271 t274 ((rd t271 (wrap64 ((t271.length : Int) - 1))) != (Int.tmod (rd t266 1) (t263.length : Int)))) else (none)) else (none)) else (laws_FnPaths.j0 k t263 (Int.tmod (rd t266 0) (t263.length : Int)) t271 t274 true)) else (none)) else (laws_FnPaths.j0 k t263 (Int.tmod (rd t266 0) (t263.length : Int)) t271 t274 true))) = some r := H
          have A10 := Aside0.mk A100
          clear A100
          have HC11 := Aside0.mk H
          clear H
          go_enter Try.func5, Try.ntmps5
          go_upto_region 9 with (first | (go_at_call 18; (with_reducible refine (laws_big.calls _ _ l0 false _ ?side1 ?side2 A2.out).mono ?_); (case side1 => repeat (first | exact HR0.out | (with_reducible refine Kd.C_alloc ?_ _) | (with_reducible refine Kd.C_drewN ?_ _) | (with_reducible refine Kd.C_drew ?_))); (case side2 => exact HC0.out); rintro e w' ⟨rfl, ⟨nd, rfl⟩⟩; (try first | exact ⟨rfl, _, World.drewN_drewN _ _ _⟩ | exact ⟨rfl, _, Eq.trans (World.drewN_drewN _ _ _) (congrArg (World.drewN _) (Nat.add_assoc _ _ _))⟩)) | (go_at_call 19; (with_reducible refine (spec_DrawTree.calls k _ _ l0 t263 _ ?side1 ?side2 A4.out).mono ?_); (case side1 => repeat (first | exact HR0.out | (with_reducible refine Kd.C_alloc ?_ _) | (with_reducible refine Kd.C_drewN ?_ _) | (with_reducible refine Kd.C_drew ?_))); (case side2 => exact HC0.out); rintro e w12 ⟨v264, rfl, ho0, hb⟩; have n0_ := Aside0.mk (Kd.R_lower ho0 (below_size (by repeat (first | (with_reducible first | exact HB.out | apply below_alloc | apply pw_below_drewN | apply below_drew1) | exact HB.out)))); have n1_ := Aside0.mk (below_step (by repeat (first | (with_reducible first | exact HB.out | apply below_alloc | apply pw_below_drewN | apply below_drew1) | exact HB.out)) hb); clear HB; have HO265 := n0_; have HB := n1_; clear n0_ n1_; (try clear hb); (try clear hb2); (try clear hk); (try clear hi); (try clear ho0)) | (go_at_call 20; (with_reducible refine (spec_DrawPlaces.calls k _ _ l0 t266 _ ?side1 ?side2 A5.out).mono ?_); (case side1 => repeat (first | exact (Kd.C_below HR0.out HB.out) | (with_reducible refine Kd.C_alloc ?_ _) | (with_reducible refine Kd.C_drewN ?_ _) | (with_reducible refine Kd.C_drew ?_))); (case side2 => exact HC0.out); rintro e w13 ⟨v267, rfl, ho0, hb⟩; have n0_ := Aside0.mk (Kd.R_below (by (with_reducible repeat (first | apply Kd.R_alloc | apply Kd.R_drewN | apply Kd.R_drew)); exact HO265.out) hb); have n1_ := Aside0.mk (Kd.R_lower ho0 (below_size (by repeat (first | (with_reducible first | exact HB.out | apply below_alloc | apply pw_below_drewN | apply below_drew1) | exact HB.out)))); have n2_ := Aside0.mk (below_step (by repeat (first | (with_reducible first | exact HB.out | apply below_alloc | apply pw_below_drewN | apply below_drew1) | exact HB.out)) hb); clear HO265; clear HB; have HO265 := n0_; have HO268 := n1_; have HB := n2_; clear n0_ n1_ n2_; (try clear hb); (try clear hb2); (try clear hk); (try clear hi); (try clear ho0); obtain ⟨Ao14, co14, eo14⟩ := Kd.R_slice HO268.out; subst eo14; have p269 : 0 ≤ (0 : Int) := (by omega); have q269 : 0 < (t266.length : Int) := of_decide_eq_true (by first | (with_reducible assumption) | assumption); obtain ⟨ad269, e269, hx269_0⟩ := Kd.at_int (Kd.R_reads' HO268.out).2.2 0 p269 q269; cases e269; have qi269 : (0 < t266.length) = True := eq_true (by omega); (try rw [show ((0 : Int)).toNat = 0 from rfl] at hx269_0); (try rw [Addr.add_zero'] at hx269_0); replace p269 := eq_true p269; replace q269 := eq_true q269; obtain ⟨Ao15, co15, eo15⟩ := Kd.R_slice HO265.out; subst eo15; have p270 : 0 ≤ (1 : Int) := (by omega); have q270 : 1 < (t266.length : Int) := of_decide_eq_true (by first | (with_reducible assumption) | assumption); obtain ⟨ad270, e270, hx270_0⟩ := Kd.at_int (Kd.R_reads' HO268.out).2.2 1 p270 q270; obtain rfl : ad269 = ad270 := (by injection e270); (try simp only [show (1 : Int).toNat = 1 from rfl, Nat.reduceMul, Nat.reduceEqDiff, Go.Addr.add, ↓reduceIte] at hx270_0); have qi270 : (1 < t266.length) = True := eq_true (by omega); (try rw [show ((1 : Int)).toNat = 1 from rfl] at hx270_0); replace p270 := eq_true p270; replace q270 := eq_true q270) | (go_at_call 21; (with_reducible refine (impl_PathBetween.calls k _ _ t263 (Int.tmod (rd t266 0) (t263.length : Int)) (Int.tmod (rd t266 1) (t263.length : Int)) t271 _ ?side1 ?side2 A9.out).mono ?_); (case side1 => repeat (first | exact (Kd.R_reads' HO265.out).2.2 | (with_reducible refine Kd.C_alloc ?_ _) | (with_reducible refine Kd.C_drewN ?_ _) | (with_reducible refine Kd.C_drew ?_))); (case side2 => exact (Kd.R_reads' HO265.out).2.1); rintro e w16 ⟨v272, rfl, ho0, hb⟩; have n0_ := Aside0.mk (Kd.R_below (by (with_reducible repeat (first | apply Kd.R_alloc | apply Kd.R_drewN | apply Kd.R_drew)); exact HO265.out) hb); have n1_ := Aside0.mk (Kd.R_elder' (by (with_reducible repeat (first | apply Kd.R_alloc | apply Kd.R_drewN | apply Kd.R_drew)); exact HO268.out) (Kd.R_base ho0) hb); have n2_ := Aside0.mk (Kd.R_lower (Kd.R_new' ho0 (Kd.R_lt (by (with_reducible repeat (first | apply Kd.R_alloc | apply Kd.R_drewN | apply Kd.R_drew)); exact HO268.out))) (below_size (by repeat (first | (with_reducible first | exact HB.out | apply below_alloc | apply pw_below_drewN | apply below_drew1) | exact HB.out)))); have n3_ := Aside0.mk (below_step (by repeat (first | (with_reducible first | exact HB.out | apply below_alloc | apply pw_below_drewN | apply below_drew1) | exact HB.out)) hb); clear HO265; clear HO268; clear HB; have HO265 := n0_; have HO268 := n1_; have HO273 := n2_; have HB := n3_; clear n0_ n1_ n2_ n3_; (try clear hb); (try clear hb2); (try clear hk); (try clear hi); (try clear ho0)) | (go_at_call 21; (with_reducible refine (impl_PathBetween.calls k _ _ t263 (Int.tmod (rd t266 1) (t263.length : Int)) (Int.tmod (rd t266 0) (t263.length : Int)) t274 _ ?side1 ?side2 A10.out).mono ?_); (case side1 => repeat (first | exact (Kd.R_reads' HO265.out).2.2 | (with_reducible refine Kd.C_alloc ?_ _) | (with_reducible refine Kd.C_drewN ?_ _) | (with_reducible refine Kd.C_drew ?_))); (case side2 => exact (Kd.R_reads' HO265.out).2.1); rintro e w17 ⟨v275, rfl, ho0, hb⟩; have n0_ := Aside0.mk (Kd.R_below (by (with_reducible repeat (first | apply Kd.R_alloc | apply Kd.R_drewN | apply Kd.R_drew)); exact HO265.out) hb); have n1_ := Aside0.mk (Kd.R_elder' (by (with_reducible repeat (first | apply Kd.R_alloc | apply Kd.R_drewN | apply Kd.R_drew)); exact HO268.out) (Kd.R_base ho0) hb); have n2_ := Aside0.mk (Kd.R_elder' (by (with_reducible repeat (first | apply Kd.R_alloc | apply Kd.R_drewN | apply Kd.R_drew)); exact HO273.out) (Kd.R_base ho0) hb); have n3_ := Aside0.mk (Kd.R_lower (Kd.R_new' (Kd.R_new' ho0 (Kd.R_lt (by (with_reducible repeat (first | apply Kd.R_alloc | apply Kd.R_drewN | apply Kd.R_drew)); exact HO268.out))) (Kd.R_lt (by (with_reducible repeat (first | apply Kd.R_alloc | apply Kd.R_drewN | apply Kd.R_drew)); exact HO273.out))) (below_size (by repeat (first | (with_reducible first | exact HB.out | apply below_alloc | apply pw_below_drewN | apply below_drew1) | exact HB.out)))); have n4_ := Aside0.mk (below_step (by repeat (first | (with_reducible first | exact HB.out | apply below_alloc | apply pw_below_drewN | apply below_drew1) | exact HB.out)) hb); clear HO265; clear HO268; clear HO273; clear HB; have HO265 := n0_; have HO268 := n1_; have HO273 := n2_; have HO276 := n3_; have HB := n4_; clear n0_ n1_ n2_ n3_ n4_; (try clear hb); (try clear hb2); (try clear hk); (try clear hi); (try clear ho0)))
          repeat (go_quiet (first | (go_at_call 18; (with_reducible refine (laws_big.calls _ _ l0 false _ ?side1 ?side2 A2.out).mono ?_); (case side1 => repeat (first | exact HR0.out | (with_reducible refine Kd.C_alloc ?_ _) | (with_reducible refine Kd.C_drewN ?_ _) | (with_reducible refine Kd.C_drew ?_))); (case side2 => exact HC0.out); rintro e w' ⟨rfl, ⟨nd, rfl⟩⟩; (try first | exact ⟨rfl, _, World.drewN_drewN _ _ _⟩ | exact ⟨rfl, _, Eq.trans (World.drewN_drewN _ _ _) (congrArg (World.drewN _) (Nat.add_assoc _ _ _))⟩)) | (go_at_call 19; (with_reducible refine (spec_DrawTree.calls k _ _ l0 t263 _ ?side1 ?side2 A4.out).mono ?_); (case side1 => repeat (first | exact HR0.out | (with_reducible refine Kd.C_alloc ?_ _) | (with_reducible refine Kd.C_drewN ?_ _) | (with_reducible refine Kd.C_drew ?_))); (case side2 => exact HC0.out); rintro e w12 ⟨v264, rfl, ho0, hb⟩; have n0_ := Aside0.mk (Kd.R_lower ho0 (below_size (by repeat (first | (with_reducible first | exact HB.out | apply below_alloc | apply pw_below_drewN | apply below_drew1) | exact HB.out)))); have n1_ := Aside0.mk (below_step (by repeat (first | (with_reducible first | exact HB.out | apply below_alloc | apply pw_below_drewN | apply below_drew1) | exact HB.out)) hb); clear HB; have HO265 := n0_; have HB := n1_; clear n0_ n1_; (try clear hb); (try clear hb2); (try clear hk); (try clear hi); (try clear ho0)) | (go_at_call 20; (with_reducible refine (spec_DrawPlaces.calls k _ _ l0 t266 _ ?side1 ?side2 A5.out).mono ?_); (case side1 => repeat (first | exact (Kd.C_below HR0.out HB.out) | (with_reducible refine Kd.C_alloc ?_ _) | (with_reducible refine Kd.C_drewN ?_ _) | (with_reducible refine Kd.C_drew ?_))); (case side2 => exact HC0.out); rintro e w13 ⟨v267, rfl, ho0, hb⟩; have n0_ := Aside0.mk (Kd.R_below (by (with_reducible repeat (first | apply Kd.R_alloc | apply Kd.R_drewN | apply Kd.R_drew)); exact HO265.out) hb); have n1_ := Aside0.mk (Kd.R_lower ho0 (below_size (by repeat (first | (with_reducible first | exact HB.out | apply below_alloc | apply pw_below_drewN | apply below_drew1) | exact HB.out)))); have n2_ := Aside0.mk (below_step (by repeat (first | (with_reducible first | exact HB.out | apply below_alloc | apply pw_below_drewN | apply below_drew1) | exact HB.out)) hb); clear HO265; clear HB; have HO265 := n0_; have HO268 := n1_; have HB := n2_; clear n0_ n1_ n2_; (try clear hb); (try clear hb2); (try clear hk); (try clear hi); (try clear ho0); obtain ⟨Ao14, co14, eo14⟩ := Kd.R_slice HO268.out; subst eo14; have p269 : 0 ≤ (0 : Int) := (by omega); have q269 : 0 < (t266.length : Int) := of_decide_eq_true (by first | (with_reducible assumption) | assumption); obtain ⟨ad269, e269, hx269_0⟩ := Kd.at_int (Kd.R_reads' HO268.out).2.2 0 p269 q269; cases e269; have qi269 : (0 < t266.length) = True := eq_true (by omega); (try rw [show ((0 : Int)).toNat = 0 from rfl] at hx269_0); (try rw [Addr.add_zero'] at hx269_0); replace p269 := eq_true p269; replace q269 := eq_true q269; obtain ⟨Ao15, co15, eo15⟩ := Kd.R_slice HO265.out; subst eo15; have p270 : 0 ≤ (1 : Int) := (by omega); have q270 : 1 < (t266.length : Int) := of_decide_eq_true (by first | (with_reducible assumption) | assumption); obtain ⟨ad270, e270, hx270_0⟩ := Kd.at_int (Kd.R_reads' HO268.out).2.2 1 p270 q270; obtain rfl : ad269 = ad270 := (by injection e270); (try simp only [show (1 : Int).toNat = 1 from rfl, Nat.reduceMul, Nat.reduceEqDiff, Go.Addr.add, ↓reduceIte] at hx270_0); have qi270 : (1 < t266.length) = True := eq_true (by omega); (try rw [show ((1 : Int)).toNat = 1 from rfl] at hx270_0); replace p270 := eq_true p270; replace q270 := eq_true q270) | (go_at_call 21; (with_reducible refine (impl_PathBetween.calls k _ _ t263 (Int.tmod (rd t266 0) (t263.length : Int)) (Int.tmod (rd t266 1) (t263.length : Int)) t271 _ ?side1 ?side2 A9.out).mono ?_); (case side1 => repeat (first | exact (Kd.R_reads' HO265.out).2.2 | (with_reducible refine Kd.C_alloc ?_ _) | (with_reducible refine Kd.C_drewN ?_ _) | (with_reducible refine Kd.C_drew ?_))); (case side2 => exact (Kd.R_reads' HO265.out).2.1); rintro e w16 ⟨v272, rfl, ho0, hb⟩; have n0_ := Aside0.mk (Kd.R_below (by (with_reducible repeat (first | apply Kd.R_alloc | apply Kd.R_drewN | apply Kd.R_drew)); exact HO265.out) hb); have n1_ := Aside0.mk (Kd.R_elder' (by (with_reducible repeat (first | apply Kd.R_alloc | apply Kd.R_drewN | apply Kd.R_drew)); exact HO268.out) (Kd.R_base ho0) hb); have n2_ := Aside0.mk (Kd.R_lower (Kd.R_new' ho0 (Kd.R_lt (by (with_reducible repeat (first | apply Kd.R_alloc | apply Kd.R_drewN | apply Kd.R_drew)); exact HO268.out))) (below_size (by repeat (first | (with_reducible first | exact HB.out | apply below_alloc | apply pw_below_drewN | apply below_drew1) | exact HB.out)))); have n3_ := Aside0.mk (below_step (by repeat (first | (with_reducible first | exact HB.out | apply below_alloc | apply pw_below_drewN | apply below_drew1) | exact HB.out)) hb); clear HO265; clear HO268; clear HB; have HO265 := n0_; have HO268 := n1_; have HO273 := n2_; have HB := n3_; clear n0_ n1_ n2_ n3_; (try clear hb); (try clear hb2); (try clear hk); (try clear hi); (try clear ho0)) | (go_at_call 21; (with_reducible refine (impl_PathBetween.calls k _ _ t263 (Int.tmod (rd t266 1) (t263.length : Int)) (Int.tmod (rd t266 0) (t263.length : Int)) t274 _ ?side1 ?side2 A10.out).mono ?_); (case side1 => repeat (first | exact (Kd.R_reads' HO265.out).2.2 | (with_reducible refine Kd.C_alloc ?_ _) | (with_reducible refine Kd.C_drewN ?_ _) | (with_reducible refine Kd.C_drew ?_))); (case side2 => exact (Kd.R_reads' HO265.out).2.1); rintro e w17 ⟨v275, rfl, ho0, hb⟩; have n0_ := Aside0.mk (Kd.R_below (by (with_reducible repeat (first | apply Kd.R_alloc | apply Kd.R_drewN | apply Kd.R_drew)); exact HO265.out) hb); have n1_ := Aside0.mk (Kd.R_elder' (by (with_reducible repeat (first | apply Kd.R_alloc | apply Kd.R_drewN | apply Kd.R_drew)); exact HO268.out) (Kd.R_base ho0) hb); have n2_ := Aside0.mk (Kd.R_elder' (by (with_reducible repeat (first | apply Kd.R_alloc | apply Kd.R_drewN | apply Kd.R_drew)); exact HO273.out) (Kd.R_base ho0) hb); have n3_ := Aside0.mk (Kd.R_lower (Kd.R_new' (Kd.R_new' ho0 (Kd.R_lt (by (with_reducible repeat (first | apply Kd.R_alloc | apply Kd.R_drewN | apply Kd.R_drew)); exact HO268.out))) (Kd.R_lt (by (with_reducible repeat (first | apply Kd.R_alloc | apply Kd.R_drewN | apply Kd.R_drew)); exact HO273.out))) (below_size (by repeat (first | (with_reducible first | exact HB.out | apply below_alloc | apply pw_below_drewN | apply below_drew1) | exact HB.out)))); have n4_ := Aside0.mk (below_step (by repeat (first | (with_reducible first | exact HB.out | apply below_alloc | apply pw_below_drewN | apply below_drew1) | exact HB.out)) hb); clear HO265; clear HO268; clear HO273; clear HB; have HO265 := n0_; have HO268 := n1_; have HO273 := n2_; have HO276 := n3_; have HB := n4_; clear n0_ n1_ n2_ n3_ n4_; (try clear hb); (try clear hb2); (try clear hk); (try clear hi); (try clear ho0))); go_upto_region 9 with (first | (go_at_call 18; (with_reducible refine (laws_big.calls _ _ l0 false _ ?side1 ?side2 A2.out).mono ?_); (case side1 => repeat (first | exact HR0.out | (with_reducible refine Kd.C_alloc ?_ _) | (with_reducible refine Kd.C_drewN ?_ _) | (with_reducible refine Kd.C_drew ?_))); (case side2 => exact HC0.out); rintro e w' ⟨rfl, ⟨nd, rfl⟩⟩; (try first | exact ⟨rfl, _, World.drewN_drewN _ _ _⟩ | exact ⟨rfl, _, Eq.trans (World.drewN_drewN _ _ _) (congrArg (World.drewN _) (Nat.add_assoc _ _ _))⟩)) | (go_at_call 19; (with_reducible refine (spec_DrawTree.calls k _ _ l0 t263 _ ?side1 ?side2 A4.out).mono ?_); (case side1 => repeat (first | exact HR0.out | (with_reducible refine Kd.C_alloc ?_ _) | (with_reducible refine Kd.C_drewN ?_ _) | (with_reducible refine Kd.C_drew ?_))); (case side2 => exact HC0.out); rintro e w12 ⟨v264, rfl, ho0, hb⟩; have n0_ := Aside0.mk (Kd.R_lower ho0 (below_size (by repeat (first | (with_reducible first | exact HB.out | apply below_alloc | apply pw_below_drewN | apply below_drew1) | exact HB.out)))); have n1_ := Aside0.mk (below_step (by repeat (first | (with_reducible first | exact HB.out | apply below_alloc | apply pw_below_drewN | apply below_drew1) | exact HB.out)) hb); clear HB; have HO265 := n0_; have HB := n1_; clear n0_ n1_; (try clear hb); (try clear hb2); (try clear hk); (try clear hi); (try clear ho0)) | (go_at_call 20; (with_reducible refine (spec_DrawPlaces.calls k _ _ l0 t266 _ ?side1 ?side2 A5.out).mono ?_); (case side1 => repeat (first | exact (Kd.C_below HR0.out HB.out) | (with_reducible refine Kd.C_alloc ?_ _) | (with_reducible refine Kd.C_drewN ?_ _) | (with_reducible refine Kd.C_drew ?_))); (case side2 => exact HC0.out); rintro e w13 ⟨v267, rfl, ho0, hb⟩; have n0_ := Aside0.mk (Kd.R_below (by (with_reducible repeat (first | apply Kd.R_alloc | apply Kd.R_drewN | apply Kd.R_drew)); exact HO265.out) hb); have n1_ := Aside0.mk (Kd.R_lower ho0 (below_size (by repeat (first | (with_reducible first | exact HB.out | apply below_alloc | apply pw_below_drewN | apply below_drew1) | exact HB.out)))); have n2_ := Aside0.mk (below_step (by repeat (first | (with_reducible first | exact HB.out | apply below_alloc | apply pw_below_drewN | apply below_drew1) | exact HB.out)) hb); clear HO265; clear HB; have HO265 := n0_; have HO268 := n1_; have HB := n2_; clear n0_ n1_ n2_; (try clear hb); (try clear hb2); (try clear hk); (try clear hi); (try clear ho0); obtain ⟨Ao14, co14, eo14⟩ := Kd.R_slice HO268.out; subst eo14; have p269 : 0 ≤ (0 : Int) := (by omega); have q269 : 0 < (t266.length : Int) := of_decide_eq_true (by first | (with_reducible assumption) | assumption); obtain ⟨ad269, e269, hx269_0⟩ := Kd.at_int (Kd.R_reads' HO268.out).2.2 0 p269 q269; cases e269; have qi269 : (0 < t266.length) = True := eq_true (by omega); (try rw [show ((0 : Int)).toNat = 0 from rfl] at hx269_0); (try rw [Addr.add_zero'] at hx269_0); replace p269 := eq_true p269; replace q269 := eq_true q269; obtain ⟨Ao15, co15, eo15⟩ := Kd.R_slice HO265.out; subst eo15; have p270 : 0 ≤ (1 : Int) := (by omega); have q270 : 1 < (t266.length : Int) := of_decide_eq_true (by first | (with_reducible assumption) | assumption); obtain ⟨ad270, e270, hx270_0⟩ := Kd.at_int (Kd.R_reads' HO268.out).2.2 1 p270 q270; obtain rfl : ad269 = ad270 := (by injection e270); (try simp only [show (1 : Int).toNat = 1 from rfl, Nat.reduceMul, Nat.reduceEqDiff, Go.Addr.add, ↓reduceIte] at hx270_0); have qi270 : (1 < t266.length) = True := eq_true (by omega); (try rw [show ((1 : Int)).toNat = 1 from rfl] at hx270_0); replace p270 := eq_true p270; replace q270 := eq_true q270) | (go_at_call 21; (with_reducible refine (impl_PathBetween.calls k _ _ t263 (Int.tmod (rd t266 0) (t263.length : Int)) (Int.tmod (rd t266 1) (t263.length : Int)) t271 _ ?side1 ?side2 A9.out).mono ?_); (case side1 => repeat (first | exact (Kd.R_reads' HO265.out).2.2 | (with_reducible refine Kd.C_alloc ?_ _) | (with_reducible refine Kd.C_drewN ?_ _) | (with_reducible refine Kd.C_drew ?_))); (case side2 => exact (Kd.R_reads' HO265.out).2.1); rintro e w16 ⟨v272, rfl, ho0, hb⟩; have n0_ := Aside0.mk (Kd.R_below (by (with_reducible repeat (first | apply Kd.R_alloc | apply Kd.R_drewN | apply Kd.R_drew)); exact HO265.out) hb); have n1_ := Aside0.mk (Kd.R_elder' (by (with_reducible repeat (first | apply Kd.R_alloc | apply Kd.R_drewN | apply Kd.R_drew)); exact HO268.out) (Kd.R_base ho0) hb); have n2_ := Aside0.mk (Kd.R_lower (Kd.R_new' ho0 (Kd.R_lt (by (with_reducible repeat (first | apply Kd.R_alloc | apply Kd.R_drewN | apply Kd.R_drew)); exact HO268.out))) (below_size (by repeat (first | (with_reducible first | exact HB.out | apply below_alloc | apply pw_below_drewN | apply below_drew1) | exact HB.out)))); have n3_ := Aside0.mk (below_step (by repeat (first | (with_reducible first | exact HB.out | apply below_alloc | apply pw_below_drewN | apply below_drew1) | exact HB.out)) hb); clear HO265; clear HO268; clear HB; have HO265 := n0_; have HO268 := n1_; have HO273 := n2_; have HB := n3_; clear n0_ n1_ n2_ n3_; (try clear hb); (try clear hb2); (try clear hk); (try clear hi); (try clear ho0)) | (go_at_call 21; (with_reducible refine (impl_PathBetween.calls k _ _ t263 (Int.tmod (rd t266 1) (t263.length : Int)) (Int.tmod (rd t266 0) (t263.length : Int)) t274 _ ?side1 ?side2 A10.out).mono ?_); (case side1 => repeat (first | exact (Kd.R_reads' HO265.out).2.2 | (with_reducible refine Kd.C_alloc ?_ _) | (with_reducible refine Kd.C_drewN ?_ _) | (with_reducible refine Kd.C_drew ?_))); (case side2 => exact (Kd.R_reads' HO265.out).2.1); rintro e w17 ⟨v275, rfl, ho0, hb⟩; have n0_ := Aside0.mk (Kd.R_below (by (with_reducible repeat (first | apply Kd.R_alloc | apply Kd.R_drewN | apply Kd.R_drew)); exact HO265.out) hb); have n1_ := Aside0.mk (Kd.R_elder' (by (with_reducible repeat (first | apply Kd.R_alloc | apply Kd.R_drewN | apply Kd.R_drew)); exact HO268.out) (Kd.R_base ho0) hb); have n2_ := Aside0.mk (Kd.R_elder' (by (with_reducible repeat (first | apply Kd.R_alloc | apply Kd.R_drewN | apply Kd.R_drew)); exact HO273.out) (Kd.R_base ho0) hb); have n3_ := Aside0.mk (Kd.R_lower (Kd.R_new' (Kd.R_new' ho0 (Kd.R_lt (by (with_reducible repeat (first | apply Kd.R_alloc | apply Kd.R_drewN | apply Kd.R_drew)); exact HO268.out))) (Kd.R_lt (by (with_reducible repeat (first | apply Kd.R_alloc | apply Kd.R_drewN | apply Kd.R_drew)); exact HO273.out))) (below_size (by repeat (first | (with_reducible first | exact HB.out | apply below_alloc | apply pw_below_drewN | apply below_drew1) | exact HB.out)))); have n4_ := Aside0.mk (below_step (by repeat (first | (with_reducible first | exact HB.out | apply below_alloc | apply pw_below_drewN | apply below_drew1) | exact HB.out)) hb); clear HO265; clear HO268; clear HO273; clear HB; have HO265 := n0_; have HO268 := n1_; have HO273 := n2_; have HO276 := n3_; have HB := n4_; clear n0_ n1_ n2_ n3_ n4_; (try clear hb); (try clear hb2); (try clear hk); (try clear hi); (try clear ho0))))
          (try simp only [Act.put, List.setIfInBounds_toArray, List.set_cons_zero, List.set_cons_succ])
          go_cut [63] (fun v63 wc => ∃ (kq : Nat) (x63_10 : Bool), v63 = .bool x63_10 ∧ Aside0 (laws_FnPaths.j0 kq t263 (Int.tmod (rd t266 0) (t263.length : Int)) t271 t274 x63_10 = some r) ∧ Aside0 (kq ≤ k) ∧ Aside0 (Kd.R k38 38 wc w.heap.size (fun _ => True) (.slice Ao15 t263.length co15) t263) ∧ Aside0 (Kd.R (Kd.int .i64) 3 wc w.heap.size (fun k_ => some k_ ≠ (v275 : Value).ownBlock) v272 t271) ∧ Aside0 (Kd.R (Kd.int .i64) 3 wc w.heap.size (fun k_ => some k_ ≠ (v272 : Value).ownBlock) v275 t274) ∧ Aside0 (Below w.heap.size w wc))
          case first =>
            have H := HC11.out
            clear HC11
            by_cases c18 : (t271.length : Int) = 0
            · rw [if_pos c18] at H
              have c18b0 : ((t271.length : Int) == 0) = true := beq_iff_eq.mpr c18
              have c18b1 : ((t271.length : Int) != 0) = false := bne_eq_false_iff_eq.mpr c18
              clear c18
              (first | rw [c18b0] | (simp only [i64_w, i32_w]; rw [c18b0]) | skip)
              have H' := Aside0.mk H
              clear H
              obtain ⟨Ao19, co19, eo19⟩ := Kd.R_slice HO273.out
              subst eo19
              go_wp2
              repeat (go_quiet (fail); try go_wp2)
              go_meet
              case rel => exact ⟨_, (true), (by first | rfl | (simp; done) | (simp [*]; done)), H', ⟨by first | omega | exact Nat.le_refl _⟩, ⟨by (with_reducible repeat (first | apply Kd.R_alloc | apply Kd.R_drewN | apply Kd.R_drew)); exact HO265.out⟩, ⟨by (with_reducible repeat (first | apply Kd.R_alloc | apply Kd.R_drewN | apply Kd.R_drew)); exact Kd.R_mono HO273.out (fun _ hk => by first | exact hk.2 | exact hk)⟩, ⟨by (with_reducible repeat (first | apply Kd.R_alloc | apply Kd.R_drewN | apply Kd.R_drew)); exact Kd.R_mono HO276.out (fun _ hk => by first | exact hk.2 | exact hk)⟩, ⟨by repeat (first | (with_reducible first | exact HB.out | apply below_alloc | apply pw_below_drewN | apply below_drew1) | exact HB.out)⟩⟩
            · rw [if_neg c18] at H
              have c18b0 : ((t271.length : Int) == 0) = false := beq_eq_false_iff_ne.mpr c18
              have c18b1 : ((t271.length : Int) != 0) = true := bne_iff_ne.mpr c18
              have c18b2 : ¬ (t271 = []) := fun h_ => c18 (by rw [h_]; rfl)
              (first | rw [c18b0] | (simp only [i64_w, i32_w]; rw [c18b0]) | skip)
              by_cases c20 : (t271.length : Int) = (t274.length : Int)
              · rw [if_pos c20] at H
                have c20b0 : ((t271.length : Int) == (t274.length : Int)) = true := beq_iff_eq.mpr c20
                have c20b1 : ((t271.length : Int) != (t274.length : Int)) = false := bne_eq_false_iff_eq.mpr c20
                have c20b2 : (t271.length == t274.length) = true := by first | simpa using c20 | (simp at c20 ⊢; omega)
                clear c20
                by_cases c21 : 0 < (t271.length : Int)
                · rw [if_pos c21] at H
                  have c21b0 : decide (0 < (t271.length : Int)) = true := decide_eq_true c21
                  have c21b1 : decide (0 < t271.length) = true := decide_eq_true (by omega)
                  clear c21
                  by_cases c22 : (rd t271 0) = (Int.tmod (rd t266 0) (t263.length : Int))
                  · rw [if_pos c22] at H
                    have c22b0 : ((rd t271 0) == (Int.tmod (rd t266 0) (t263.length : Int))) = true := beq_iff_eq.mpr c22
                    have c22b1 : ((rd t271 0) != (Int.tmod (rd t266 0) (t263.length : Int))) = false := bne_eq_false_iff_eq.mpr c22
                    clear c22
                    obtain ⟨ji23, hji23⟩ : ∃ j_ : Int, (wrap64 ((t271.length : Int) - 1)) = j_ := ⟨_, rfl⟩
                    replace H : (if 0 ≤ (ji23) then (if (ji23) < (t271.length : Int) then (laws_FnPaths.j0 k t263 (Int.tmod (rd t266 0) (t263.length : Int)) t271 t274 ((rd t271 (ji23)) != (Int.tmod (rd t266 1) (t263.length : Int)))) else (none)) else (none)) = some r := by first | (rw [hji23] at H; exact H) | (simp only [hji23] at H ⊢; exact H)
                    have hji23w : (IntKind.i64.wrap ((t271.length : Int) - 1)) = ji23 := (i64_w _).trans hji23
                    by_cases c24 : 0 ≤ (ji23)
                    · rw [if_pos c24] at H
                      have c24b0 : decide (0 ≤ (ji23)) = true := decide_eq_true c24
                      clear c24
                      by_cases c25 : (ji23) < (t271.length : Int)
                      · rw [if_pos c25] at H
                        have c25b0 : decide ((ji23) < (t271.length : Int)) = true := decide_eq_true c25
                        clear c25
                        have H' := Aside0.mk H
                        clear H
                        obtain ⟨Ao26, co26, eo26⟩ := Kd.R_slice HO273.out
                        subst eo26
                        obtain ⟨Ao27, co27, eo27⟩ := Kd.R_slice HO276.out
                        subst eo27
                        have p277 : 0 ≤ (0 : Int) := (by omega)
                        have q277 : 0 < (t271.length : Int) := of_decide_eq_true (by first | (with_reducible assumption) | assumption)
                        obtain ⟨ad277, e277, hx277_0⟩ := Kd.at_int (Kd.R_reads' HO273.out).2.2 0 p277 q277
                        cases e277
                        have qi277 : (0 < t271.length) = True := eq_true (by omega)
                        (try rw [show ((0 : Int)).toNat = 0 from rfl] at hx277_0)
                        (try rw [Addr.add_zero'] at hx277_0)
                        replace p277 := eq_true p277
                        replace q277 := eq_true q277
                        have p278 : 0 ≤ ((ji23) : Int) := of_decide_eq_true (by first | (with_reducible assumption) | assumption)
                        have q278 : (ji23) < (t271.length : Int) := of_decide_eq_true (by first | (with_reducible assumption) | assumption)
                        obtain ⟨ad278, e278, hx278_0⟩ := Kd.at_int (Kd.R_reads' HO273.out).2.2 (ji23) p278 q278
                        obtain rfl : ad277 = ad278 := (by injection e278)
                        replace p278 := eq_true p278
                        replace q278 := eq_true q278
                        go_wp2
                        repeat (go_quiet (fail); try go_wp2)
                        go_meet
                        case rel => exact ⟨_, (((rd t271 (ji23)) != (Int.tmod (rd t266 1) (t263.length : Int)))), (by first | rfl | (simp; done) | (simp only [← hji23] <;> (first | rfl | simp)) | (simp [*]; done)), H', ⟨by first | omega | exact Nat.le_refl _⟩, ⟨by (with_reducible repeat (first | apply Kd.R_alloc | apply Kd.R_drewN | apply Kd.R_drew)); exact HO265.out⟩, ⟨by (with_reducible repeat (first | apply Kd.R_alloc | apply Kd.R_drewN | apply Kd.R_drew)); exact Kd.R_mono HO273.out (fun _ hk => by first | exact hk.2 | exact hk)⟩, ⟨by (with_reducible repeat (first | apply Kd.R_alloc | apply Kd.R_drewN | apply Kd.R_drew)); exact Kd.R_mono HO276.out (fun _ hk => by first | exact hk.2 | exact hk)⟩, ⟨by repeat (first | (with_reducible first | exact HB.out | apply below_alloc | apply pw_below_drewN | apply below_drew1) | exact HB.out)⟩⟩
                      · rw [if_neg c25] at H
                        exact absurd H (by simp)
                    · rw [if_neg c24] at H
                      exact absurd H (by simp)
                  · rw [if_neg c22] at H
                    have c22b0 : ((rd t271 0) == (Int.tmod (rd t266 0) (t263.length : Int))) = false := beq_eq_false_iff_ne.mpr c22
                    have c22b1 : ((rd t271 0) != (Int.tmod (rd t266 0) (t263.length : Int))) = true := bne_iff_ne.mpr c22
                    have H' := Aside0.mk H
                    clear H
                    obtain ⟨Ao28, co28, eo28⟩ := Kd.R_slice HO273.out
                    subst eo28
                    obtain ⟨Ao29, co29, eo29⟩ := Kd.R_slice HO276.out
                    subst eo29
                    have p277 : 0 ≤ (0 : Int) := (by omega)
                    have q277 : 0 < (t271.length : Int) := of_decide_eq_true (by first | (with_reducible assumption) | assumption)
                    obtain ⟨ad277, e277, hx277_0⟩ := Kd.at_int (Kd.R_reads' HO273.out).2.2 0 p277 q277
                    cases e277
                    have qi277 : (0 < t271.length) = True := eq_true (by omega)
                    (try rw [show ((0 : Int)).toNat = 0 from rfl] at hx277_0)
                    (try rw [Addr.add_zero'] at hx277_0)
                    replace p277 := eq_true p277
                    replace q277 := eq_true q277
                    go_wp2
                    repeat (go_quiet (fail); try go_wp2)
                    go_meet
                    case rel => exact ⟨_, (true), (by first | rfl | (simp; done) | (simp [*]; done)), H', ⟨by first | omega | exact Nat.le_refl _⟩, ⟨by (with_reducible repeat (first | apply Kd.R_alloc | apply Kd.R_drewN | apply Kd.R_drew)); exact HO265.out⟩, ⟨by (with_reducible repeat (first | apply Kd.R_alloc | apply Kd.R_drewN | apply Kd.R_drew)); exact Kd.R_mono HO273.out (fun _ hk => by first | exact hk.2 | exact hk)⟩, ⟨by (with_reducible repeat (first | apply Kd.R_alloc | apply Kd.R_drewN | apply Kd.R_drew)); exact Kd.R_mono HO276.out (fun _ hk => by first | exact hk.2 | exact hk)⟩, ⟨by repeat (first | (with_reducible first | exact HB.out | apply below_alloc | apply pw_below_drewN | apply below_drew1) | exact HB.out)⟩⟩
                · rw [if_neg c21] at H
                  exact absurd H (by simp)
              · rw [if_neg c20] at H
                have c20b0 : ((t271.length : Int) == (t274.length : Int)) = false := beq_eq_false_iff_ne.mpr c20
                have c20b1 : ((t271.length : Int) != (t274.length : Int)) = true := bne_iff_ne.mpr c20
                have c20b2 : (t271.length == t274.length) = false := by first | simpa using c20 | (simp at c20 ⊢; omega)
                have H' := Aside0.mk H
                clear H
                obtain ⟨Ao30, co30, eo30⟩ := Kd.R_slice HO273.out
                subst eo30
                obtain ⟨Ao31, co31, eo31⟩ := Kd.R_slice HO276.out
                subst eo31
                go_wp2
                repeat (go_quiet (fail); try go_wp2)
                go_meet
                case rel => exact ⟨_, (true), (by first | rfl | (simp; done) | (simp [*]; done)), H', ⟨by first | omega | exact Nat.le_refl _⟩, ⟨by (with_reducible repeat (first | apply Kd.R_alloc | apply Kd.R_drewN | apply Kd.R_drew)); exact HO265.out⟩, ⟨by (with_reducible repeat (first | apply Kd.R_alloc | apply Kd.R_drewN | apply Kd.R_drew)); exact Kd.R_mono HO273.out (fun _ hk => by first | exact hk.2 | exact hk)⟩, ⟨by (with_reducible repeat (first | apply Kd.R_alloc | apply Kd.R_drewN | apply Kd.R_drew)); exact Kd.R_mono HO276.out (fun _ hk => by first | exact hk.2 | exact hk)⟩, ⟨by repeat (first | (with_reducible first | exact HB.out | apply below_alloc | apply pw_below_drewN | apply below_drew1) | exact HB.out)⟩⟩
          case rest =>
            clear HC11
            try clear c1
            try clear c2
            try clear p2
            try clear q2
            try clear hx2
            try clear qi2
            try clear c3
            try clear c5
            try clear c6
            try clear c6b0
            try clear c6b1
            try clear p6
            try clear c7
            try clear c7b0
            try clear c7b1
            try clear c7b2
            try clear c8
            try clear c8b0
            try clear c8b1
            try clear c18
            try clear c18b0
            try clear c18b1
            try clear c18b2
            try clear c20
            try clear c20b0
            try clear c20b1
            try clear c20b2
            try clear c21
            try clear c21b0
            try clear c21b1
            try clear c22
            try clear c22b0
            try clear c22b1
            try clear c24
            try clear c24b0
            try clear c25
            try clear c25b0
            try clear p26
            try clear q26
            try clear hx26
            try clear qi26
            try clear p27
            try clear q27
            try clear hx27
            try clear qi27
            try clear hx269_0
            try clear hx270_0
            try clear hx277_0
            try clear hx278_0
            try clear p269
            try clear p270
            try clear p277
            try clear p278
            try clear q269
            try clear q270
            try clear q277
            try clear q278
            obtain ⟨kq, x63_10, rfl, HA, HJ10, HO_3, HO_7, HO_8, HB⟩ := hcut
            cases kq with
            | zero => exact absurd HA.out (by simp [laws_FnPaths.j0])
            | succ kj10 =>
              have H := HA.out
              clear HA
              simp only [laws_FnPaths.j0] at H
              by_cases c32 : x63_10 = true
              · subst c32
                have H1 : (some false) = some r := by rw [if_pos rfl] at H; exact H
                clear H
                have H := H1
                clear H1
                obtain rfl := Option.some.inj H
                go_wp2
                repeat (go_quiet (fail); try go_wp2)
                go_ret
                exact ⟨by first | rfl | (simp [errW_none, errW_some] <;> rfl) | (simp [*, errW_none, errW_some] <;> rfl), by repeat (first | (with_reducible first | exact HB.out | apply below_alloc | apply pw_below_drewN | apply below_drew1) | exact HB.out)⟩
              · replace c32 := Bool.eq_false_iff.mpr c32
                subst c32
                have H1 : (laws_FnPaths.l0 kj10 t263 (Int.tmod (rd t266 0) (t263.length : Int)) t271 t274 0) = some r := by rw [if_neg (show ¬ (false = true) by decide)] at H; exact H
                clear H
                have H := H1
                clear H1
                have H' := Aside0.mk H
                clear H
                go_wp2
                repeat (go_quiet (fail); try go_wp2)
                go_loopg [9] kj10 (fun kq v9 w' => ∃ (x9_2 : Int), v9 = .int .i64 x9_2 ∧ Aside0 (laws_FnPaths.l0 kq t263 (Int.tmod (rd t266 0) (t263.length : Int)) t271 t274 x9_2 = some r) ∧ Aside0 (kq ≤ kj10) ∧ Aside0 (Kd.R k38 38 w' w.heap.size (fun _ => True) (.slice Ao15 t263.length co15) t263) ∧ Aside0 (Kd.R (Kd.int .i64) 3 w' w.heap.size (fun k_ => some k_ ≠ (v275 : Value).ownBlock) v272 t271) ∧ Aside0 (Kd.R (Kd.int .i64) 3 w' w.heap.size (fun k_ => some k_ ≠ (v272 : Value).ownBlock) v275 t274) ∧ Aside0 (Below w.heap.size w w'))
                case atStart => exact ⟨(0), (by first | rfl | (simp; done) | (simp [*]; done)), H', ⟨Nat.le_refl _⟩, ⟨by (with_reducible repeat (first | apply Kd.R_alloc | apply Kd.R_drewN | apply Kd.R_drew)); exact HO_3.out⟩, ⟨by (with_reducible repeat (first | apply Kd.R_alloc | apply Kd.R_drewN | apply Kd.R_drew)); exact HO_7.out⟩, ⟨by (with_reducible repeat (first | apply Kd.R_alloc | apply Kd.R_drewN | apply Kd.R_drew)); exact HO_8.out⟩, ⟨by repeat (first | (with_reducible first | exact HB.out | apply below_alloc | apply pw_below_drewN | apply below_drew1) | exact HB.out)⟩⟩
                case round =>
                  clear H'
                  try clear c1
                  try clear c2
                  try clear p2
                  try clear q2
                  try clear hx2
                  try clear qi2
                  try clear c3
                  try clear c5
                  try clear c6
                  try clear c6b0
                  try clear c6b1
                  try clear p6
                  try clear c7
                  try clear c7b0
                  try clear c7b1
                  try clear c7b2
                  try clear c8
                  try clear c8b0
                  try clear c8b1
                  try clear c18
                  try clear c18b0
                  try clear c18b1
                  try clear c18b2
                  try clear c20
                  try clear c20b0
                  try clear c20b1
                  try clear c20b2
                  try clear c21
                  try clear c21b0
                  try clear c21b1
                  try clear c22
                  try clear c22b0
                  try clear c22b1
                  try clear c24
                  try clear c24b0
                  try clear c25
                  try clear c25b0
                  try clear p26
                  try clear q26
                  try clear hx26
                  try clear qi26
                  try clear p27
                  try clear q27
                  try clear hx27
                  try clear qi27
                  try clear c32
                  try clear hx269_0
                  try clear hx270_0
                  try clear hx277_0
                  try clear hx278_0
                  try clear p2
                  try clear p26
                  try clear p269
                  try clear p27
                  try clear p270
                  try clear p277
                  try clear p278
                  try clear p6
                  try clear q2
                  try clear q26
                  try clear q269
                  try clear q27
                  try clear q270
                  try clear q277
                  try clear q278
                  obtain ⟨x9_2, rfl, HA, HK2, HO_3, HO_7, HO_8, HB⟩ := hrel
                  cases gk with
                  | zero => exact absurd HA.out (by simp [laws_FnPaths.l0])
                  | succ k2 =>
                    have H := HA.out
                    clear HA
                    simp only [laws_FnPaths.l0] at H
                    by_cases c33 : x9_2 < (t271.length : Int)
                    · rw [if_pos c33] at H
                      have c33b0 : decide (x9_2 < (t271.length : Int)) = true := decide_eq_true c33
                      clear c33
                      have HC34 := Aside0.mk H
                      clear H
                      obtain ⟨Ao35, co35, eo35⟩ := Kd.R_slice HO_7.out
                      subst eo35
                      go_upto_region 14 with (fail)
                      repeat (go_quiet (fail); go_upto_region 14 with (fail))
                      go_cut [98] (fun v98 wc => ∃ (kq : Nat) (x98_33 : Bool), v98 = .bool x98_33 ∧ Aside0 (laws_FnPaths.j2 kq t263 (Int.tmod (rd t266 0) (t263.length : Int)) t271 t274 x9_2 x98_33 = some r) ∧ Aside0 (kq ≤ k2) ∧ Aside0 (Kd.R k38 38 wc w.heap.size (fun _ => True) (.slice Ao15 t263.length co15) t263) ∧ Aside0 (Kd.R (Kd.int .i64) 3 wc w.heap.size (fun k_ => some k_ ≠ (v275 : Value).ownBlock) (.slice Ao35 t271.length co35) t271) ∧ Aside0 (Kd.R (Kd.int .i64) 3 wc w.heap.size (fun k_ => some k_ ≠ ((.slice Ao35 t271.length co35) : Value).ownBlock) v275 t274) ∧ Aside0 (Below w.heap.size w wc))
                      case first =>
                        have H := HC34.out
                        clear HC34
                        by_cases c36 : 0 ≤ x9_2
                        · rw [if_pos c36] at H
                          have c36b0 : decide (0 ≤ x9_2) = true := decide_eq_true c36
                          clear c36
                          (first | rw [c36b0] | (simp only [i64_w, i32_w]; rw [c36b0]) | skip)
                          obtain ⟨ji37, hji37⟩ : ∃ j_ : Int, (wrap64 ((wrap64 ((t274.length : Int) - 1)) - x9_2)) = j_ := ⟨_, rfl⟩
                          replace H : (if 0 ≤ (ji37) then (if (ji37) < (t274.length : Int) then (if (rd t271 x9_2) = (rd t274 (ji37)) then (if (rd t271 x9_2) < 0 then (laws_FnPaths.j2 k2 t263 (Int.tmod (rd t266 0) (t263.length : Int)) t271 t274 x9_2 true) else (laws_FnPaths.j2 k2 t263 (Int.tmod (rd t266 0) (t263.length : Int)) t271 t274 x9_2 (decide ((rd t271 x9_2) ≥ (t263.length : Int))))) else (laws_FnPaths.j2 k2 t263 (Int.tmod (rd t266 0) (t263.length : Int)) t271 t274 x9_2 true)) else (none)) else (none)) = some r := by first | (rw [hji37] at H; exact H) | (simp only [hji37] at H ⊢; exact H)
                          have hji37w : (IntKind.i64.wrap ((wrap64 ((t274.length : Int) - 1)) - x9_2)) = ji37 := (i64_w _).trans hji37
                          by_cases c38 : 0 ≤ (ji37)
                          · rw [if_pos c38] at H
                            have c38b0 : decide (0 ≤ (ji37)) = true := decide_eq_true c38
                            clear c38
                            by_cases c39 : (ji37) < (t274.length : Int)
                            · rw [if_pos c39] at H
                              have c39b0 : decide ((ji37) < (t274.length : Int)) = true := decide_eq_true c39
                              clear c39
                              by_cases c40 : (rd t271 x9_2) = (rd t274 (ji37))
                              · rw [if_pos c40] at H
                                have c40b0 : ((rd t271 x9_2) == (rd t274 (ji37))) = true := beq_iff_eq.mpr c40
                                have c40b1 : ((rd t271 x9_2) != (rd t274 (ji37))) = false := bne_eq_false_iff_eq.mpr c40
                                clear c40
                                by_cases c41 : (rd t271 x9_2) < 0
                                · rw [if_pos c41] at H
                                  have c41b0 : decide ((rd t271 x9_2) < 0) = true := decide_eq_true c41
                                  clear c41
                                  have H' := Aside0.mk H
                                  clear H
                                  have p288 : 0 ≤ (x9_2 : Int) := of_decide_eq_true (by first | (with_reducible assumption) | assumption)
                                  have q288 : x9_2 < (t271.length : Int) := of_decide_eq_true (by first | (with_reducible assumption) | assumption)
                                  obtain ⟨ad288, e288, hx288_0⟩ := Kd.at_int (Kd.R_reads' HO_7.out).2.2 x9_2 p288 q288
                                  cases e288
                                  replace p288 := eq_true p288
                                  replace q288 := eq_true q288
                                  obtain ⟨Ao42, co42, eo42⟩ := Kd.R_slice HO_8.out
                                  subst eo42
                                  have p289 : 0 ≤ ((ji37) : Int) := of_decide_eq_true (by first | (with_reducible assumption) | assumption)
                                  have q289 : (ji37) < (t274.length : Int) := of_decide_eq_true (by first | (with_reducible assumption) | assumption)
                                  obtain ⟨ad289, e289, hx289_0⟩ := Kd.at_int (Kd.R_reads' HO_8.out).2.2 (ji37) p289 q289
                                  cases e289
                                  replace p289 := eq_true p289
                                  replace q289 := eq_true q289
                                  have p290 : 0 ≤ (x9_2 : Int) := of_decide_eq_true (by first | (with_reducible assumption) | assumption)
                                  have q290 : x9_2 < (t271.length : Int) := of_decide_eq_true (by first | (with_reducible assumption) | assumption)
                                  obtain ⟨ad290, e290, hx290_0⟩ := Kd.at_int (Kd.R_reads' HO_7.out).2.2 x9_2 p290 q290
                                  obtain rfl : ad288 = ad290 := (by injection e290)
                                  replace p290 := eq_true p290
                                  replace q290 := eq_true q290
                                  go_wp2
                                  repeat (go_quiet (fail); try go_wp2)
                                  go_meet
                                  case rel => exact ⟨_, (true), (by first | rfl | (simp; done) | (simp [*]; done)), H', ⟨by have := HJ10.out; have := HK2.out; first | omega | exact Nat.le_refl _⟩, ⟨by (with_reducible repeat (first | apply Kd.R_alloc | apply Kd.R_drewN | apply Kd.R_drew)); exact HO_3.out⟩, ⟨by (with_reducible repeat (first | apply Kd.R_alloc | apply Kd.R_drewN | apply Kd.R_drew)); exact HO_7.out⟩, ⟨by (with_reducible repeat (first | apply Kd.R_alloc | apply Kd.R_drewN | apply Kd.R_drew)); exact HO_8.out⟩, ⟨by repeat (first | (with_reducible first | exact HB.out | apply below_alloc | apply pw_below_drewN | apply below_drew1) | exact HB.out)⟩⟩
                                · rw [if_neg c41] at H
                                  have c41b0 : decide ((rd t271 x9_2) < 0) = false := decide_eq_false c41
                                  clear c41
                                  have H' := Aside0.mk H
                                  clear H
                                  have p288 : 0 ≤ (x9_2 : Int) := of_decide_eq_true (by first | (with_reducible assumption) | assumption)
                                  have q288 : x9_2 < (t271.length : Int) := of_decide_eq_true (by first | (with_reducible assumption) | assumption)
                                  obtain ⟨ad288, e288, hx288_0⟩ := Kd.at_int (Kd.R_reads' HO_7.out).2.2 x9_2 p288 q288
                                  cases e288
                                  replace p288 := eq_true p288
                                  replace q288 := eq_true q288
                                  obtain ⟨Ao43, co43, eo43⟩ := Kd.R_slice HO_8.out
                                  subst eo43
                                  have p289 : 0 ≤ ((ji37) : Int) := of_decide_eq_true (by first | (with_reducible assumption) | assumption)
                                  have q289 : (ji37) < (t274.length : Int) := of_decide_eq_true (by first | (with_reducible assumption) | assumption)
                                  obtain ⟨ad289, e289, hx289_0⟩ := Kd.at_int (Kd.R_reads' HO_8.out).2.2 (ji37) p289 q289
                                  cases e289
                                  replace p289 := eq_true p289
                                  replace q289 := eq_true q289
                                  have p290 : 0 ≤ (x9_2 : Int) := of_decide_eq_true (by first | (with_reducible assumption) | assumption)
                                  have q290 : x9_2 < (t271.length : Int) := of_decide_eq_true (by first | (with_reducible assumption) | assumption)
                                  obtain ⟨ad290, e290, hx290_0⟩ := Kd.at_int (Kd.R_reads' HO_7.out).2.2 x9_2 p290 q290
                                  obtain rfl : ad288 = ad290 := (by injection e290)
                                  replace p290 := eq_true p290
                                  replace q290 := eq_true q290
                                  have p291 : 0 ≤ (x9_2 : Int) := of_decide_eq_true (by first | (with_reducible assumption) | assumption)
                                  have q291 : x9_2 < (t271.length : Int) := of_decide_eq_true (by first | (with_reducible assumption) | assumption)
                                  obtain ⟨ad291, e291, hx291_0⟩ := Kd.at_int (Kd.R_reads' HO_7.out).2.2 x9_2 p291 q291
                                  obtain rfl : ad288 = ad291 := (by injection e291)
                                  replace p291 := eq_true p291
                                  replace q291 := eq_true q291
                                  go_wp2
                                  repeat (go_quiet (fail); try go_wp2)
                                  go_meet
                                  case rel => exact ⟨_, (decide ((rd t271 x9_2) ≥ (t263.length : Int))), (by first | rfl | (simp; done) | (simp [*]; done)), H', ⟨by have := HJ10.out; have := HK2.out; first | omega | exact Nat.le_refl _⟩, ⟨by (with_reducible repeat (first | apply Kd.R_alloc | apply Kd.R_drewN | apply Kd.R_drew)); exact HO_3.out⟩, ⟨by (with_reducible repeat (first | apply Kd.R_alloc | apply Kd.R_drewN | apply Kd.R_drew)); exact HO_7.out⟩, ⟨by (with_reducible repeat (first | apply Kd.R_alloc | apply Kd.R_drewN | apply Kd.R_drew)); exact HO_8.out⟩, ⟨by repeat (first | (with_reducible first | exact HB.out | apply below_alloc | apply pw_below_drewN | apply below_drew1) | exact HB.out)⟩⟩
                              · rw [if_neg c40] at H
                                have c40b0 : ((rd t271 x9_2) == (rd t274 (ji37))) = false := beq_eq_false_iff_ne.mpr c40
                                have c40b1 : ((rd t271 x9_2) != (rd t274 (ji37))) = true := bne_iff_ne.mpr c40
                                have H' := Aside0.mk H
                                clear H
                                have p288 : 0 ≤ (x9_2 : Int) := of_decide_eq_true (by first | (with_reducible assumption) | assumption)
                                have q288 : x9_2 < (t271.length : Int) := of_decide_eq_true (by first | (with_reducible assumption) | assumption)
                                obtain ⟨ad288, e288, hx288_0⟩ := Kd.at_int (Kd.R_reads' HO_7.out).2.2 x9_2 p288 q288
                                cases e288
                                replace p288 := eq_true p288
                                replace q288 := eq_true q288
                                obtain ⟨Ao44, co44, eo44⟩ := Kd.R_slice HO_8.out
                                subst eo44
                                have p289 : 0 ≤ ((ji37) : Int) := of_decide_eq_true (by first | (with_reducible assumption) | assumption)
                                have q289 : (ji37) < (t274.length : Int) := of_decide_eq_true (by first | (with_reducible assumption) | assumption)
                                obtain ⟨ad289, e289, hx289_0⟩ := Kd.at_int (Kd.R_reads' HO_8.out).2.2 (ji37) p289 q289
                                cases e289
                                replace p289 := eq_true p289
                                replace q289 := eq_true q289
                                go_wp2
                                repeat (go_quiet (fail); try go_wp2)
                                go_meet
                                case rel => exact ⟨_, (true), (by first | rfl | (simp; done) | (simp [*]; done)), H', ⟨by have := HJ10.out; have := HK2.out; first | omega | exact Nat.le_refl _⟩, ⟨by (with_reducible repeat (first | apply Kd.R_alloc | apply Kd.R_drewN | apply Kd.R_drew)); exact HO_3.out⟩, ⟨by (with_reducible repeat (first | apply Kd.R_alloc | apply Kd.R_drewN | apply Kd.R_drew)); exact HO_7.out⟩, ⟨by (with_reducible repeat (first | apply Kd.R_alloc | apply Kd.R_drewN | apply Kd.R_drew)); exact HO_8.out⟩, ⟨by repeat (first | (with_reducible first | exact HB.out | apply below_alloc | apply pw_below_drewN | apply below_drew1) | exact HB.out)⟩⟩
                            · rw [if_neg c39] at H
                              exact absurd H (by simp)
                          · rw [if_neg c38] at H
                            exact absurd H (by simp)
                        · rw [if_neg c36] at H
                          exact absurd H (by simp)
                      case rest =>
                        clear HC34
                        try clear c1
                        try clear c2
                        try clear p2
                        try clear q2
                        try clear hx2
                        try clear qi2
                        try clear c3
                        try clear c4
                        try clear c5
                        try clear c6
                        try clear c6b0
                        try clear c6b1
                        try clear p6
                        try clear c7
                        try clear c7b0
                        try clear c7b1
                        try clear c7b2
                        try clear c8
                        try clear c8b0
                        try clear c8b1
                        try clear c18
                        try clear c18b0
                        try clear c18b1
                        try clear c18b2
                        try clear c20
                        try clear c20b0
                        try clear c20b1
                        try clear c20b2
                        try clear c21
                        try clear c21b0
                        try clear c21b1
                        try clear c22
                        try clear c22b0
                        try clear c22b1
                        try clear c24
                        try clear c24b0
                        try clear c25
                        try clear c25b0
                        try clear p26
                        try clear q26
                        try clear hx26
                        try clear qi26
                        try clear p27
                        try clear q27
                        try clear hx27
                        try clear qi27
                        try clear p28
                        try clear q28
                        try clear hx28
                        try clear p29
                        try clear q29
                        try clear hx29
                        try clear c32
                        try clear c33
                        try clear c33b0
                        try clear c36
                        try clear c36b0
                        try clear c38
                        try clear c38b0
                        try clear c39
                        try clear c39b0
                        try clear c40
                        try clear c40b0
                        try clear c40b1
                        try clear c41
                        try clear c41b0
                        try clear hx269_0
                        try clear hx270_0
                        try clear hx277_0
                        try clear hx278_0
                        try clear hx288_0
                        try clear hx289_0
                        try clear hx290_0
                        try clear hx291_0
                        try clear p2
                        try clear p26
                        try clear p269
                        try clear p27
                        try clear p270
                        try clear p277
                        try clear p278
                        try clear p288
                        try clear p289
                        try clear p290
                        try clear p291
                        try clear p6
                        try clear q2
                        try clear q26
                        try clear q269
                        try clear q27
                        try clear q270
                        try clear q277
                        try clear q278
                        try clear q288
                        try clear q289
                        try clear q290
                        try clear q291
                        obtain ⟨kq, x98_33, rfl, HA, HJ33, HO_3, HO_7, HO_8, HB⟩ := hcut
                        cases kq with
                        | zero => exact absurd HA.out (by simp [laws_FnPaths.j2])
                        | succ kj33 =>
                          have H := HA.out
                          clear HA
                          simp only [laws_FnPaths.j2] at H
                          by_cases c45 : x98_33 = true
                          · subst c45
                            have H1 : (some false) = some r := by rw [if_pos rfl] at H; exact H
                            clear H
                            have H := H1
                            clear H1
                            obtain rfl := Option.some.inj H
                            go_wp2
                            repeat (go_quiet (fail); try go_wp2)
                            go_ret
                            exact ⟨by first | rfl | (simp [errW_none, errW_some] <;> rfl) | (simp [*, errW_none, errW_some] <;> rfl), by repeat (first | (with_reducible first | exact HB.out | apply below_alloc | apply pw_below_drewN | apply below_drew1) | exact HB.out)⟩
                          · replace c45 := Bool.eq_false_iff.mpr c45
                            subst c45
                            have H1 : (if x9_2 > 0 then (if 0 ≤ x9_2 then (if x9_2 < (t271.length : Int) then (if 0 ≤ (rd t271 x9_2) then (if (rd t271 x9_2) < (t263.length : Int) then (if 0 ≤ (wrap64 (x9_2 - 1)) then (if (wrap64 (x9_2 - 1)) < (t271.length : Int) then (if ((rd_T38 t263 (rd t271 x9_2)).f0) = (rd t271 (wrap64 (x9_2 - 1))) then (laws_FnPaths.l0 kj33 t263 (Int.tmod (rd t266 0) (t263.length : Int)) t271 t274 (wrap64 (x9_2 + 1))) else (if 0 ≤ (rd t271 (wrap64 (x9_2 - 1))) then (if (rd t271 (wrap64 (x9_2 - 1))) < (t263.length : Int) then (if ((rd_T38 t263 (rd t271 (wrap64 (x9_2 - 1)))).f0) = (rd t271 x9_2) then (laws_FnPaths.l0 kj33 t263 (Int.tmod (rd t266 0) (t263.length : Int)) t271 t274 (wrap64 (x9_2 + 1))) else (some false)) else (none)) else (none))) else (none)) else (none)) else (none)) else (none)) else (none)) else (none)) else (laws_FnPaths.l0 kj33 t263 (Int.tmod (rd t266 0) (t263.length : Int)) t271 t274 (wrap64 (x9_2 + 1)))) = some r := by rw [if_neg (show ¬ (false = true) by decide)] at H; exact H
                            clear H
                            have H := H1
                            clear H1
                            by_cases c46 : x9_2 > 0
                            · rw [if_pos c46] at H
                              have c46b0 : decide (0 < x9_2) = true := decide_eq_true c46
                              clear c46
                              by_cases c47 : 0 ≤ x9_2
                              · rw [if_pos c47] at H
                                have c47b0 : decide (0 ≤ x9_2) = true := decide_eq_true c47
                                clear c47
                                by_cases c48 : x9_2 < (t271.length : Int)
                                · rw [if_pos c48] at H
                                  have c48b0 : decide (x9_2 < (t271.length : Int)) = true := decide_eq_true c48
                                  clear c48
                                  by_cases c49 : 0 ≤ (rd t271 x9_2)
                                  · rw [if_pos c49] at H
                                    have c49b0 : decide (0 ≤ (rd t271 x9_2)) = true := decide_eq_true c49
                                    clear c49
                                    by_cases c50 : (rd t271 x9_2) < (t263.length : Int)
                                    · rw [if_pos c50] at H
                                      have c50b0 : decide ((rd t271 x9_2) < (t263.length : Int)) = true := decide_eq_true c50
                                      clear c50
                                      obtain ⟨ji51, hji51⟩ : ∃ j_ : Int, (wrap64 (x9_2 - 1)) = j_ := ⟨_, rfl⟩
                                      replace H : (if 0 ≤ (ji51) then (if (ji51) < (t271.length : Int) then (if ((rd_T38 t263 (rd t271 x9_2)).f0) = (rd t271 (ji51)) then (laws_FnPaths.l0 kj33 t263 (Int.tmod (rd t266 0) (t263.length : Int)) t271 t274 (wrap64 (x9_2 + 1))) else (if 0 ≤ (rd t271 (ji51)) then (if (rd t271 (ji51)) < (t263.length : Int) then (if ((rd_T38 t263 (rd t271 (ji51))).f0) = (rd t271 x9_2) then (laws_FnPaths.l0 kj33 t263 (Int.tmod (rd t266 0) (t263.length : Int)) t271 t274 (wrap64 (x9_2 + 1))) else (some false)) else (none)) else (none))) else (none)) else (none)) = some r := by first | (rw [hji51] at H; exact H) | (simp only [hji51] at H ⊢; exact H)
                                      have hji51w : (IntKind.i64.wrap (x9_2 - 1)) = ji51 := (i64_w _).trans hji51
                                      by_cases c52 : 0 ≤ (ji51)
                                      · rw [if_pos c52] at H
                                        have c52b0 : decide (0 ≤ (ji51)) = true := decide_eq_true c52
                                        clear c52
                                        by_cases c53 : (ji51) < (t271.length : Int)
                                        · rw [if_pos c53] at H
                                          have c53b0 : decide ((ji51) < (t271.length : Int)) = true := decide_eq_true c53
                                          clear c53
                                          by_cases c54 : ((rd_T38 t263 (rd t271 x9_2)).f0) = (rd t271 (ji51))
                                          · rw [if_pos c54] at H
                                            have c54b0 : (((rd_T38 t263 (rd t271 x9_2)).f0) == (rd t271 (ji51))) = true := beq_iff_eq.mpr c54
                                            have c54b1 : (((rd_T38 t263 (rd t271 x9_2)).f0) != (rd t271 (ji51))) = false := bne_eq_false_iff_eq.mpr c54
                                            clear c54
                                            have H' := Aside0.mk H
                                            clear H
                                            have p292 : 0 ≤ (x9_2 : Int) := of_decide_eq_true (by first | (with_reducible assumption) | assumption)
                                            have q292 : x9_2 < (t271.length : Int) := of_decide_eq_true (by first | (with_reducible assumption) | assumption)
                                            obtain ⟨ad292, e292, hx292_0⟩ := Kd.at_int (Kd.R_reads' HO_7.out).2.2 x9_2 p292 q292
                                            cases e292
                                            replace p292 := eq_true p292
                                            replace q292 := eq_true q292
                                            have p293 : 0 ≤ ((rd t271 x9_2) : Int) := of_decide_eq_true (by first | (with_reducible assumption) | assumption)
                                            have q293 : (rd t271 x9_2) < (t263.length : Int) := of_decide_eq_true (by first | (with_reducible assumption) | assumption)
                                            obtain ⟨ad293, e293, hx293_0, hx293_1, hx293_2⟩ := at_T38 (Kd.R_reads' HO_3.out).2.2 (rd t271 x9_2) p293 q293
                                            cases e293
                                            replace p293 := eq_true p293
                                            replace q293 := eq_true q293
                                            have p294 : 0 ≤ ((ji51) : Int) := of_decide_eq_true (by first | (with_reducible assumption) | assumption)
                                            have q294 : (ji51) < (t271.length : Int) := of_decide_eq_true (by first | (with_reducible assumption) | assumption)
                                            obtain ⟨ad294, e294, hx294_0⟩ := Kd.at_int (Kd.R_reads' HO_7.out).2.2 (ji51) p294 q294
                                            obtain rfl : ad292 = ad294 := (by injection e294)
                                            replace p294 := eq_true p294
                                            replace q294 := eq_true q294
                                            go_wp2
                                            repeat (go_quiet (fail); try go_wp2)
                                            go_roundg kj33
                                            case measure => have := HJ10.out; have := HK2.out; have := HJ33.out; omega
                                            case rel => exact ⟨(wrap64 (x9_2 + 1)), (by first | rfl | (simp; done) | (simp [*]; done)), H', ⟨by have := HJ10.out; have := HK2.out; have := HJ33.out; omega⟩, ⟨by (with_reducible repeat (first | apply Kd.R_alloc | apply Kd.R_drewN | apply Kd.R_drew)); exact HO_3.out⟩, ⟨by (with_reducible repeat (first | apply Kd.R_alloc | apply Kd.R_drewN | apply Kd.R_drew)); exact HO_7.out⟩, ⟨by (with_reducible repeat (first | apply Kd.R_alloc | apply Kd.R_drewN | apply Kd.R_drew)); exact HO_8.out⟩, ⟨by repeat (first | (with_reducible first | exact HB.out | apply below_alloc | apply pw_below_drewN | apply below_drew1) | exact HB.out)⟩⟩
                                          · rw [if_neg c54] at H
                                            have c54b0 : (((rd_T38 t263 (rd t271 x9_2)).f0) == (rd t271 (ji51))) = false := beq_eq_false_iff_ne.mpr c54
                                            have c54b1 : (((rd_T38 t263 (rd t271 x9_2)).f0) != (rd t271 (ji51))) = true := bne_iff_ne.mpr c54
                                            by_cases c55 : 0 ≤ (rd t271 (ji51))
                                            · rw [if_pos c55] at H
                                              have c55b0 : decide (0 ≤ (rd t271 (ji51))) = true := decide_eq_true c55
                                              clear c55
                                              by_cases c56 : (rd t271 (ji51)) < (t263.length : Int)
                                              · rw [if_pos c56] at H
                                                have c56b0 : decide ((rd t271 (ji51)) < (t263.length : Int)) = true := decide_eq_true c56
                                                clear c56
                                                by_cases c57 : ((rd_T38 t263 (rd t271 (ji51))).f0) = (rd t271 x9_2)
                                                · rw [if_pos c57] at H
                                                  have c57b0 : (((rd_T38 t263 (rd t271 (ji51))).f0) == (rd t271 x9_2)) = true := beq_iff_eq.mpr c57
                                                  have c57b1 : (((rd_T38 t263 (rd t271 (ji51))).f0) != (rd t271 x9_2)) = false := bne_eq_false_iff_eq.mpr c57
                                                  clear c57
                                                  have H' := Aside0.mk H
                                                  clear H
                                                  have p292 : 0 ≤ (x9_2 : Int) := of_decide_eq_true (by first | (with_reducible assumption) | assumption)
                                                  have q292 : x9_2 < (t271.length : Int) := of_decide_eq_true (by first | (with_reducible assumption) | assumption)
                                                  obtain ⟨ad292, e292, hx292_0⟩ := Kd.at_int (Kd.R_reads' HO_7.out).2.2 x9_2 p292 q292
                                                  cases e292
                                                  replace p292 := eq_true p292
                                                  replace q292 := eq_true q292
                                                  have p293 : 0 ≤ ((rd t271 x9_2) : Int) := of_decide_eq_true (by first | (with_reducible assumption) | assumption)
                                                  have q293 : (rd t271 x9_2) < (t263.length : Int) := of_decide_eq_true (by first | (with_reducible assumption) | assumption)
                                                  obtain ⟨ad293, e293, hx293_0, hx293_1, hx293_2⟩ := at_T38 (Kd.R_reads' HO_3.out).2.2 (rd t271 x9_2) p293 q293
                                                  cases e293
                                                  replace p293 := eq_true p293
                                                  replace q293 := eq_true q293
                                                  have p294 : 0 ≤ ((ji51) : Int) := of_decide_eq_true (by first | (with_reducible assumption) | assumption)
                                                  have q294 : (ji51) < (t271.length : Int) := of_decide_eq_true (by first | (with_reducible assumption) | assumption)
                                                  obtain ⟨ad294, e294, hx294_0⟩ := Kd.at_int (Kd.R_reads' HO_7.out).2.2 (ji51) p294 q294
                                                  obtain rfl : ad292 = ad294 := (by injection e294)
                                                  replace p294 := eq_true p294
                                                  replace q294 := eq_true q294
                                                  have p295 : 0 ≤ ((ji51) : Int) := of_decide_eq_true (by first | (with_reducible assumption) | assumption)
                                                  have q295 : (ji51) < (t271.length : Int) := of_decide_eq_true (by first | (with_reducible assumption) | assumption)
                                                  obtain ⟨ad295, e295, hx295_0⟩ := Kd.at_int (Kd.R_reads' HO_7.out).2.2 (ji51) p295 q295
                                                  obtain rfl : ad292 = ad295 := (by injection e295)
                                                  replace p295 := eq_true p295
                                                  replace q295 := eq_true q295
                                                  have p296 : 0 ≤ ((rd t271 (ji51)) : Int) := of_decide_eq_true (by first | (with_reducible assumption) | assumption)
                                                  have q296 : (rd t271 (ji51)) < (t263.length : Int) := of_decide_eq_true (by first | (with_reducible assumption) | assumption)
                                                  obtain ⟨ad296, e296, hx296_0, hx296_1, hx296_2⟩ := at_T38 (Kd.R_reads' HO_3.out).2.2 (rd t271 (ji51)) p296 q296
                                                  obtain rfl : ad293 = ad296 := (by injection e296)
                                                  replace p296 := eq_true p296
                                                  replace q296 := eq_true q296
                                                  have p297 : 0 ≤ (x9_2 : Int) := of_decide_eq_true (by first | (with_reducible assumption) | assumption)
                                                  have q297 : x9_2 < (t271.length : Int) := of_decide_eq_true (by first | (with_reducible assumption) | assumption)
                                                  obtain ⟨ad297, e297, hx297_0⟩ := Kd.at_int (Kd.R_reads' HO_7.out).2.2 x9_2 p297 q297
                                                  obtain rfl : ad292 = ad297 := (by injection e297)
                                                  replace p297 := eq_true p297
                                                  replace q297 := eq_true q297
                                                  go_wp2
                                                  repeat (go_quiet (fail); try go_wp2)
                                                  go_roundg kj33
                                                  case measure => have := HJ10.out; have := HK2.out; have := HJ33.out; omega
                                                  case rel => exact ⟨(wrap64 (x9_2 + 1)), (by first | rfl | (simp; done) | (simp [*]; done)), H', ⟨by have := HJ10.out; have := HK2.out; have := HJ33.out; omega⟩, ⟨by (with_reducible repeat (first | apply Kd.R_alloc | apply Kd.R_drewN | apply Kd.R_drew)); exact HO_3.out⟩, ⟨by (with_reducible repeat (first | apply Kd.R_alloc | apply Kd.R_drewN | apply Kd.R_drew)); exact HO_7.out⟩, ⟨by (with_reducible repeat (first | apply Kd.R_alloc | apply Kd.R_drewN | apply Kd.R_drew)); exact HO_8.out⟩, ⟨by repeat (first | (with_reducible first | exact HB.out | apply below_alloc | apply pw_below_drewN | apply below_drew1) | exact HB.out)⟩⟩
                                                · rw [if_neg c57] at H
                                                  have c57b0 : (((rd_T38 t263 (rd t271 (ji51))).f0) == (rd t271 x9_2)) = false := beq_eq_false_iff_ne.mpr c57
                                                  have c57b1 : (((rd_T38 t263 (rd t271 (ji51))).f0) != (rd t271 x9_2)) = true := bne_iff_ne.mpr c57
                                                  obtain rfl := Option.some.inj H
                                                  have p292 : 0 ≤ (x9_2 : Int) := of_decide_eq_true (by first | (with_reducible assumption) | assumption)
                                                  have q292 : x9_2 < (t271.length : Int) := of_decide_eq_true (by first | (with_reducible assumption) | assumption)
                                                  obtain ⟨ad292, e292, hx292_0⟩ := Kd.at_int (Kd.R_reads' HO_7.out).2.2 x9_2 p292 q292
                                                  cases e292
                                                  replace p292 := eq_true p292
                                                  replace q292 := eq_true q292
                                                  have p293 : 0 ≤ ((rd t271 x9_2) : Int) := of_decide_eq_true (by first | (with_reducible assumption) | assumption)
                                                  have q293 : (rd t271 x9_2) < (t263.length : Int) := of_decide_eq_true (by first | (with_reducible assumption) | assumption)
                                                  obtain ⟨ad293, e293, hx293_0, hx293_1, hx293_2⟩ := at_T38 (Kd.R_reads' HO_3.out).2.2 (rd t271 x9_2) p293 q293
                                                  cases e293
                                                  replace p293 := eq_true p293
                                                  replace q293 := eq_true q293
                                                  have p294 : 0 ≤ ((ji51) : Int) := of_decide_eq_true (by first | (with_reducible assumption) | assumption)
                                                  have q294 : (ji51) < (t271.length : Int) := of_decide_eq_true (by first | (with_reducible assumption) | assumption)
                                                  obtain ⟨ad294, e294, hx294_0⟩ := Kd.at_int (Kd.R_reads' HO_7.out).2.2 (ji51) p294 q294
                                                  obtain rfl : ad292 = ad294 := (by injection e294)
                                                  replace p294 := eq_true p294
                                                  replace q294 := eq_true q294
                                                  have p295 : 0 ≤ ((ji51) : Int) := of_decide_eq_true (by first | (with_reducible assumption) | assumption)
                                                  have q295 : (ji51) < (t271.length : Int) := of_decide_eq_true (by first | (with_reducible assumption) | assumption)
                                                  obtain ⟨ad295, e295, hx295_0⟩ := Kd.at_int (Kd.R_reads' HO_7.out).2.2 (ji51) p295 q295
                                                  obtain rfl : ad292 = ad295 := (by injection e295)
                                                  replace p295 := eq_true p295
                                                  replace q295 := eq_true q295
                                                  have p296 : 0 ≤ ((rd t271 (ji51)) : Int) := of_decide_eq_true (by first | (with_reducible assumption) | assumption)
                                                  have q296 : (rd t271 (ji51)) < (t263.length : Int) := of_decide_eq_true (by first | (with_reducible assumption) | assumption)
                                                  obtain ⟨ad296, e296, hx296_0, hx296_1, hx296_2⟩ := at_T38 (Kd.R_reads' HO_3.out).2.2 (rd t271 (ji51)) p296 q296
                                                  obtain rfl : ad293 = ad296 := (by injection e296)
                                                  replace p296 := eq_true p296
                                                  replace q296 := eq_true q296
                                                  have p297 : 0 ≤ (x9_2 : Int) := of_decide_eq_true (by first | (with_reducible assumption) | assumption)
                                                  have q297 : x9_2 < (t271.length : Int) := of_decide_eq_true (by first | (with_reducible assumption) | assumption)
                                                  obtain ⟨ad297, e297, hx297_0⟩ := Kd.at_int (Kd.R_reads' HO_7.out).2.2 x9_2 p297 q297
                                                  obtain rfl : ad292 = ad297 := (by injection e297)
                                                  replace p297 := eq_true p297
                                                  replace q297 := eq_true q297
                                                  go_wp2
                                                  repeat (go_quiet (fail); try go_wp2)
                                                  go_ret
                                                  exact ⟨by first | rfl | (simp [errW_none, errW_some] <;> rfl) | (simp only [← hji51]; first | rfl | (simp [errW_none, errW_some] <;> rfl)) | (simp [*, errW_none, errW_some] <;> rfl), by repeat (first | (with_reducible first | exact HB.out | apply below_alloc | apply pw_below_drewN | apply below_drew1) | exact HB.out)⟩
                                              · rw [if_neg c56] at H
                                                exact absurd H (by simp)
                                            · rw [if_neg c55] at H
                                              exact absurd H (by simp)
                                        · rw [if_neg c53] at H
                                          exact absurd H (by simp)
                                      · rw [if_neg c52] at H
                                        exact absurd H (by simp)
                                    · rw [if_neg c50] at H
                                      exact absurd H (by simp)
                                  · rw [if_neg c49] at H
                                    exact absurd H (by simp)
                                · rw [if_neg c48] at H
                                  exact absurd H (by simp)
                              · rw [if_neg c47] at H
                                exact absurd H (by simp)
                            · rw [if_neg c46] at H
                              have c46b0 : decide (0 < x9_2) = false := decide_eq_false c46
                              clear c46
                              have H' := Aside0.mk H
                              clear H
                              go_wp2
                              repeat (go_quiet (fail); try go_wp2)
                              go_roundg kj33
                              case measure => have := HJ10.out; have := HK2.out; have := HJ33.out; omega
                              case rel => exact ⟨(wrap64 (x9_2 + 1)), (by first | rfl | (simp; done) | (simp [*]; done)), H', ⟨by have := HJ10.out; have := HK2.out; have := HJ33.out; omega⟩, ⟨by (with_reducible repeat (first | apply Kd.R_alloc | apply Kd.R_drewN | apply Kd.R_drew)); exact HO_3.out⟩, ⟨by (with_reducible repeat (first | apply Kd.R_alloc | apply Kd.R_drewN | apply Kd.R_drew)); exact HO_7.out⟩, ⟨by (with_reducible repeat (first | apply Kd.R_alloc | apply Kd.R_drewN | apply Kd.R_drew)); exact HO_8.out⟩, ⟨by repeat (first | (with_reducible first | exact HB.out | apply below_alloc | apply pw_below_drewN | apply below_drew1) | exact HB.out)⟩⟩
                    · rw [if_neg c33] at H
                      have c33b0 : decide (x9_2 < (t271.length : Int)) = false := decide_eq_false c33
                      clear c33
                      replace H := Option.bind_eq_some_iff.mp H
                      obtain ⟨t279, A580, H⟩ := H
                      replace H : (if (t279.length : Int) > 0 then (if 0 < (t279.length : Int) then (if (rd t279 0) = 0 then (if 0 ≤ (wrap64 ((t279.length : Int) - 1)) then (if (wrap64 ((t279.length : Int) - 1)) < (t279.length : Int) then (if (rd t279 (wrap64 ((t279.length : Int) - 1))) = (Int.tmod (rd t266 0) (t263.length : Int)) then ((impl_PathBetween.f k2 t263 0 (Int.tmod (rd t266 0) (t263.length : Int))).bind fun t284 => ((laws_sameInts.f k2 t284 t279).bind fun t287 => (some t287))) else (some false)) else (none)) else (none)) else (some false)) else (none)) else (some false)) = some r := H
                      have A58 := Aside0.mk A580
                      clear A580
                      by_cases c59 : (t279.length : Int) > 0
                      · rw [if_pos c59] at H
                        have c59b0 : decide (0 < (t279.length : Int)) = true := decide_eq_true c59
                        have c59b1 : decide (0 < t279.length) = true := decide_eq_true (by omega)
                        clear c59
                        by_cases c60 : 0 < (t279.length : Int)
                        · rw [if_pos c60] at H
                          have c60b0 : decide (0 < (t279.length : Int)) = true := decide_eq_true c60
                          have c60b1 : decide (0 < t279.length) = true := decide_eq_true (by omega)
                          clear c60
                          by_cases c61 : (rd t279 0) = 0
                          · rw [if_pos c61] at H
                            have c61b0 : ((rd t279 0) == 0) = true := beq_iff_eq.mpr c61
                            have c61b1 : ((rd t279 0) != 0) = false := bne_eq_false_iff_eq.mpr c61
                            clear c61
                            obtain ⟨ji62, hji62⟩ : ∃ j_ : Int, (wrap64 ((t279.length : Int) - 1)) = j_ := ⟨_, rfl⟩
                            replace H : (if 0 ≤ (ji62) then (if (ji62) < (t279.length : Int) then (if (rd t279 (ji62)) = (Int.tmod (rd t266 0) (t263.length : Int)) then ((impl_PathBetween.f k2 t263 0 (Int.tmod (rd t266 0) (t263.length : Int))).bind fun t284 => ((laws_sameInts.f k2 t284 t279).bind fun t287 => (some t287))) else (some false)) else (none)) else (none)) = some r := by first | (rw [hji62] at H; exact H) | (simp only [hji62] at H ⊢; exact H)
                            (try rw [hji62] at A58)
                            have hji62w : (IntKind.i64.wrap ((t279.length : Int) - 1)) = ji62 := (i64_w _).trans hji62
                            by_cases c63 : 0 ≤ (ji62)
                            · rw [if_pos c63] at H
                              have c63b0 : decide (0 ≤ (ji62)) = true := decide_eq_true c63
                              clear c63
                              by_cases c64 : (ji62) < (t279.length : Int)
                              · rw [if_pos c64] at H
                                have c64b0 : decide ((ji62) < (t279.length : Int)) = true := decide_eq_true c64
                                clear c64
                                by_cases c65 : (rd t279 (ji62)) = (Int.tmod (rd t266 0) (t263.length : Int))
                                · rw [if_pos c65] at H
                                  have c65b0 : ((rd t279 (ji62)) == (Int.tmod (rd t266 0) (t263.length : Int))) = true := beq_iff_eq.mpr c65
                                  have c65b1 : ((rd t279 (ji62)) != (Int.tmod (rd t266 0) (t263.length : Int))) = false := bne_eq_false_iff_eq.mpr c65
                                  clear c65
                                  replace H := Option.bind_eq_some_iff.mp H
                                  obtain ⟨t284, A660, H⟩ := H
                                  replace H : ((laws_sameInts.f k2 t284 t279).bind fun t287 => (some t287)) = some r := H
                                  have A66 := Aside0.mk A660
                                  clear A660
                                  replace H := Option.bind_eq_some_iff.mp H
                                  obtain ⟨t287, A670, H⟩ := H
                                  replace H : (some t287) = some r := H
                                  have A67 := Aside0.mk A670
                                  clear A670
                                  obtain rfl := Option.some.inj H
                                  obtain ⟨Ao68, co68, eo68⟩ := Kd.R_slice HO_7.out
                                  subst eo68
                                  go_wp2_with (first | (go_at_call 22; (with_reducible refine (impl_PathTo.calls k2 _ _ t263 (Int.tmod (rd t266 0) (t263.length : Int)) t279 _ ?side1 ?side2 A58.out).mono ?_); (case side1 => repeat (first | exact (Kd.R_reads' HO_3.out).2.2 | (with_reducible refine Kd.C_alloc ?_ _) | (with_reducible refine Kd.C_drewN ?_ _) | (with_reducible refine Kd.C_drew ?_))); (case side2 => exact (Kd.R_reads' HO_3.out).2.1); rintro e w69 ⟨v280, rfl, ho0, hb⟩; have n0_ := Aside0.mk (Kd.R_below (by (with_reducible repeat (first | apply Kd.R_alloc | apply Kd.R_drewN | apply Kd.R_drew)); exact HO_3.out) hb); have n1_ := Aside0.mk (Kd.R_elder' (by (with_reducible repeat (first | apply Kd.R_alloc | apply Kd.R_drewN | apply Kd.R_drew)); exact HO_7.out) (Kd.R_base ho0) hb); have n2_ := Aside0.mk (Kd.R_elder' (by (with_reducible repeat (first | apply Kd.R_alloc | apply Kd.R_drewN | apply Kd.R_drew)); exact HO_8.out) (Kd.R_base ho0) hb); have n3_ := Aside0.mk (Kd.R_lower (Kd.R_new' (Kd.R_new' ho0 (Kd.R_lt (by (with_reducible repeat (first | apply Kd.R_alloc | apply Kd.R_drewN | apply Kd.R_drew)); exact HO_7.out))) (Kd.R_lt (by (with_reducible repeat (first | apply Kd.R_alloc | apply Kd.R_drewN | apply Kd.R_drew)); exact HO_8.out))) (below_size (by repeat (first | (with_reducible first | exact HB.out | apply below_alloc | apply pw_below_drewN | apply below_drew1) | exact HB.out)))); have n4_ := Aside0.mk (below_step (by repeat (first | (with_reducible first | exact HB.out | apply below_alloc | apply pw_below_drewN | apply below_drew1) | exact HB.out)) hb); clear HO_3; clear HO_7; clear HO_8; clear HB; have HO_3 := n0_; have HO_7 := n1_; have HO_8 := n2_; have HO281 := n3_; have HB := n4_; clear n0_ n1_ n2_ n3_ n4_; (try clear hb); (try clear hb2); (try clear hk); (try clear hi); (try clear ho0); obtain ⟨Ao70, co70, eo70⟩ := Kd.R_slice HO281.out; subst eo70; have p282 : 0 ≤ (0 : Int) := (by omega); have q282 : 0 < (t279.length : Int) := of_decide_eq_true (by first | (with_reducible assumption) | assumption); obtain ⟨ad282, e282, hx282_0⟩ := Kd.at_int (Kd.R_reads' HO281.out).2.2 0 p282 q282; cases e282; have qi282 : (0 < t279.length) = True := eq_true (by omega); (try rw [show ((0 : Int)).toNat = 0 from rfl] at hx282_0); (try rw [Addr.add_zero'] at hx282_0); replace p282 := eq_true p282; replace q282 := eq_true q282; have p283 : 0 ≤ ((ji62) : Int) := of_decide_eq_true (by first | (with_reducible assumption) | assumption); have q283 : (ji62) < (t279.length : Int) := of_decide_eq_true (by first | (with_reducible assumption) | assumption); obtain ⟨ad283, e283, hx283_0⟩ := Kd.at_int (Kd.R_reads' HO281.out).2.2 (ji62) p283 q283; obtain rfl : ad282 = ad283 := (by injection e283); replace p283 := eq_true p283; replace q283 := eq_true q283) | (go_at_call 21; (with_reducible refine (impl_PathBetween.calls k2 _ _ t263 0 (Int.tmod (rd t266 0) (t263.length : Int)) t284 _ ?side1 ?side2 A66.out).mono ?_); (case side1 => repeat (first | exact (Kd.R_reads' HO_3.out).2.2 | (with_reducible refine Kd.C_alloc ?_ _) | (with_reducible refine Kd.C_drewN ?_ _) | (with_reducible refine Kd.C_drew ?_))); (case side2 => exact (Kd.R_reads' HO_3.out).2.1); rintro e w71 ⟨v285, rfl, ho0, hb⟩; have n0_ := Aside0.mk (Kd.R_below (by (with_reducible repeat (first | apply Kd.R_alloc | apply Kd.R_drewN | apply Kd.R_drew)); exact HO_3.out) hb); have n1_ := Aside0.mk (Kd.R_elder' (by (with_reducible repeat (first | apply Kd.R_alloc | apply Kd.R_drewN | apply Kd.R_drew)); exact HO_7.out) (Kd.R_base ho0) hb); have n2_ := Aside0.mk (Kd.R_elder' (by (with_reducible repeat (first | apply Kd.R_alloc | apply Kd.R_drewN | apply Kd.R_drew)); exact HO_8.out) (Kd.R_base ho0) hb); have n3_ := Aside0.mk (Kd.R_elder' (by (with_reducible repeat (first | apply Kd.R_alloc | apply Kd.R_drewN | apply Kd.R_drew)); exact HO281.out) (Kd.R_base ho0) hb); have n4_ := Aside0.mk (Kd.R_lower (Kd.R_new' (Kd.R_new' (Kd.R_new' ho0 (Kd.R_lt (by (with_reducible repeat (first | apply Kd.R_alloc | apply Kd.R_drewN | apply Kd.R_drew)); exact HO_7.out))) (Kd.R_lt (by (with_reducible repeat (first | apply Kd.R_alloc | apply Kd.R_drewN | apply Kd.R_drew)); exact HO_8.out))) (Kd.R_lt (by (with_reducible repeat (first | apply Kd.R_alloc | apply Kd.R_drewN | apply Kd.R_drew)); exact HO281.out))) (below_size (by repeat (first | (with_reducible first | exact HB.out | apply below_alloc | apply pw_below_drewN | apply below_drew1) | exact HB.out)))); have n5_ := Aside0.mk (below_step (by repeat (first | (with_reducible first | exact HB.out | apply below_alloc | apply pw_below_drewN | apply below_drew1) | exact HB.out)) hb); clear HO_3; clear HO_7; clear HO_8; clear HO281; clear HB; have HO_3 := n0_; have HO_7 := n1_; have HO_8 := n2_; have HO281 := n3_; have HO286 := n4_; have HB := n5_; clear n0_ n1_ n2_ n3_ n4_ n5_; (try clear hb); (try clear hb2); (try clear hk); (try clear hi); (try clear ho0); obtain ⟨Ao72, co72, eo72⟩ := Kd.R_slice HO286.out; subst eo72) | (go_at_call 23; (with_reducible refine (laws_sameInts.calls k2 _ _ t284 _ _ t279 t287 _ ?side1 ?side2 ?side3 ?side4 A67.out).mono ?_); (case side1 => repeat (first | exact (Kd.R_reads' HO286.out).2.2 | (with_reducible refine Kd.C_alloc ?_ _) | (with_reducible refine Kd.C_drewN ?_ _) | (with_reducible refine Kd.C_drew ?_))); (case side2 => exact (Kd.R_reads' HO286.out).2.1); (case side3 => repeat (first | exact (Kd.R_reads' HO281.out).2.2 | (with_reducible refine Kd.C_alloc ?_ _) | (with_reducible refine Kd.C_drewN ?_ _) | (with_reducible refine Kd.C_drew ?_))); (case side4 => exact (Kd.R_reads' HO281.out).2.1); rintro e w' ⟨rfl, ⟨nd, rfl⟩⟩; (try first | exact ⟨rfl, _, World.drewN_drewN _ _ _⟩ | exact ⟨rfl, _, Eq.trans (World.drewN_drewN _ _ _) (congrArg (World.drewN _) (Nat.add_assoc _ _ _))⟩)))
                                  repeat (go_quiet (first | (go_at_call 22; (with_reducible refine (impl_PathTo.calls k2 _ _ t263 (Int.tmod (rd t266 0) (t263.length : Int)) t279 _ ?side1 ?side2 A58.out).mono ?_); (case side1 => repeat (first | exact (Kd.R_reads' HO_3.out).2.2 | (with_reducible refine Kd.C_alloc ?_ _) | (with_reducible refine Kd.C_drewN ?_ _) | (with_reducible refine Kd.C_drew ?_))); (case side2 => exact (Kd.R_reads' HO_3.out).2.1); rintro e w69 ⟨v280, rfl, ho0, hb⟩; have n0_ := Aside0.mk (Kd.R_below (by (with_reducible repeat (first | apply Kd.R_alloc | apply Kd.R_drewN | apply Kd.R_drew)); exact HO_3.out) hb); have n1_ := Aside0.mk (Kd.R_elder' (by (with_reducible repeat (first | apply Kd.R_alloc | apply Kd.R_drewN | apply Kd.R_drew)); exact HO_7.out) (Kd.R_base ho0) hb); have n2_ := Aside0.mk (Kd.R_elder' (by (with_reducible repeat (first | apply Kd.R_alloc | apply Kd.R_drewN | apply Kd.R_drew)); exact HO_8.out) (Kd.R_base ho0) hb); have n3_ := Aside0.mk (Kd.R_lower (Kd.R_new' (Kd.R_new' ho0 (Kd.R_lt (by (with_reducible repeat (first | apply Kd.R_alloc | apply Kd.R_drewN | apply Kd.R_drew)); exact HO_7.out))) (Kd.R_lt (by (with_reducible repeat (first | apply Kd.R_alloc | apply Kd.R_drewN | apply Kd.R_drew)); exact HO_8.out))) (below_size (by repeat (first | (with_reducible first | exact HB.out | apply below_alloc | apply pw_below_drewN | apply below_drew1) | exact HB.out)))); have n4_ := Aside0.mk (below_step (by repeat (first | (with_reducible first | exact HB.out | apply below_alloc | apply pw_below_drewN | apply below_drew1) | exact HB.out)) hb); clear HO_3; clear HO_7; clear HO_8; clear HB; have HO_3 := n0_; have HO_7 := n1_; have HO_8 := n2_; have HO281 := n3_; have HB := n4_; clear n0_ n1_ n2_ n3_ n4_; (try clear hb); (try clear hb2); (try clear hk); (try clear hi); (try clear ho0); obtain ⟨Ao70, co70, eo70⟩ := Kd.R_slice HO281.out; subst eo70; have p282 : 0 ≤ (0 : Int) := (by omega); have q282 : 0 < (t279.length : Int) := of_decide_eq_true (by first | (with_reducible assumption) | assumption); obtain ⟨ad282, e282, hx282_0⟩ := Kd.at_int (Kd.R_reads' HO281.out).2.2 0 p282 q282; cases e282; have qi282 : (0 < t279.length) = True := eq_true (by omega); (try rw [show ((0 : Int)).toNat = 0 from rfl] at hx282_0); (try rw [Addr.add_zero'] at hx282_0); replace p282 := eq_true p282; replace q282 := eq_true q282; have p283 : 0 ≤ ((ji62) : Int) := of_decide_eq_true (by first | (with_reducible assumption) | assumption); have q283 : (ji62) < (t279.length : Int) := of_decide_eq_true (by first | (with_reducible assumption) | assumption); obtain ⟨ad283, e283, hx283_0⟩ := Kd.at_int (Kd.R_reads' HO281.out).2.2 (ji62) p283 q283; obtain rfl : ad282 = ad283 := (by injection e283); replace p283 := eq_true p283; replace q283 := eq_true q283) | (go_at_call 21; (with_reducible refine (impl_PathBetween.calls k2 _ _ t263 0 (Int.tmod (rd t266 0) (t263.length : Int)) t284 _ ?side1 ?side2 A66.out).mono ?_); (case side1 => repeat (first | exact (Kd.R_reads' HO_3.out).2.2 | (with_reducible refine Kd.C_alloc ?_ _) | (with_reducible refine Kd.C_drewN ?_ _) | (with_reducible refine Kd.C_drew ?_))); (case side2 => exact (Kd.R_reads' HO_3.out).2.1); rintro e w71 ⟨v285, rfl, ho0, hb⟩; have n0_ := Aside0.mk (Kd.R_below (by (with_reducible repeat (first | apply Kd.R_alloc | apply Kd.R_drewN | apply Kd.R_drew)); exact HO_3.out) hb); have n1_ := Aside0.mk (Kd.R_elder' (by (with_reducible repeat (first | apply Kd.R_alloc | apply Kd.R_drewN | apply Kd.R_drew)); exact HO_7.out) (Kd.R_base ho0) hb); have n2_ := Aside0.mk (Kd.R_elder' (by (with_reducible repeat (first | apply Kd.R_alloc | apply Kd.R_drewN | apply Kd.R_drew)); exact HO_8.out) (Kd.R_base ho0) hb); have n3_ := Aside0.mk (Kd.R_elder' (by (with_reducible repeat (first | apply Kd.R_alloc | apply Kd.R_drewN | apply Kd.R_drew)); exact HO281.out) (Kd.R_base ho0) hb); have n4_ := Aside0.mk (Kd.R_lower (Kd.R_new' (Kd.R_new' (Kd.R_new' ho0 (Kd.R_lt (by (with_reducible repeat (first | apply Kd.R_alloc | apply Kd.R_drewN | apply Kd.R_drew)); exact HO_7.out))) (Kd.R_lt (by (with_reducible repeat (first | apply Kd.R_alloc | apply Kd.R_drewN | apply Kd.R_drew)); exact HO_8.out))) (Kd.R_lt (by (with_reducible repeat (first | apply Kd.R_alloc | apply Kd.R_drewN | apply Kd.R_drew)); exact HO281.out))) (below_size (by repeat (first | (with_reducible first | exact HB.out | apply below_alloc | apply pw_below_drewN | apply below_drew1) | exact HB.out)))); have n5_ := Aside0.mk (below_step (by repeat (first | (with_reducible first | exact HB.out | apply below_alloc | apply pw_below_drewN | apply below_drew1) | exact HB.out)) hb); clear HO_3; clear HO_7; clear HO_8; clear HO281; clear HB; have HO_3 := n0_; have HO_7 := n1_; have HO_8 := n2_; have HO281 := n3_; have HO286 := n4_; have HB := n5_; clear n0_ n1_ n2_ n3_ n4_ n5_; (try clear hb); (try clear hb2); (try clear hk); (try clear hi); (try clear ho0); obtain ⟨Ao72, co72, eo72⟩ := Kd.R_slice HO286.out; subst eo72) | (go_at_call 23; (with_reducible refine (laws_sameInts.calls k2 _ _ t284 _ _ t279 t287 _ ?side1 ?side2 ?side3 ?side4 A67.out).mono ?_); (case side1 => repeat (first | exact (Kd.R_reads' HO286.out).2.2 | (with_reducible refine Kd.C_alloc ?_ _) | (with_reducible refine Kd.C_drewN ?_ _) | (with_reducible refine Kd.C_drew ?_))); (case side2 => exact (Kd.R_reads' HO286.out).2.1); (case side3 => repeat (first | exact (Kd.R_reads' HO281.out).2.2 | (with_reducible refine Kd.C_alloc ?_ _) | (with_reducible refine Kd.C_drewN ?_ _) | (with_reducible refine Kd.C_drew ?_))); (case side4 => exact (Kd.R_reads' HO281.out).2.1); rintro e w' ⟨rfl, ⟨nd, rfl⟩⟩; (try first | exact ⟨rfl, _, World.drewN_drewN _ _ _⟩ | exact ⟨rfl, _, Eq.trans (World.drewN_drewN _ _ _) (congrArg (World.drewN _) (Nat.add_assoc _ _ _))⟩))); try go_wp2_with (first | (go_at_call 22; (with_reducible refine (impl_PathTo.calls k2 _ _ t263 (Int.tmod (rd t266 0) (t263.length : Int)) t279 _ ?side1 ?side2 A58.out).mono ?_); (case side1 => repeat (first | exact (Kd.R_reads' HO_3.out).2.2 | (with_reducible refine Kd.C_alloc ?_ _) | (with_reducible refine Kd.C_drewN ?_ _) | (with_reducible refine Kd.C_drew ?_))); (case side2 => exact (Kd.R_reads' HO_3.out).2.1); rintro e w69 ⟨v280, rfl, ho0, hb⟩; have n0_ := Aside0.mk (Kd.R_below (by (with_reducible repeat (first | apply Kd.R_alloc | apply Kd.R_drewN | apply Kd.R_drew)); exact HO_3.out) hb); have n1_ := Aside0.mk (Kd.R_elder' (by (with_reducible repeat (first | apply Kd.R_alloc | apply Kd.R_drewN | apply Kd.R_drew)); exact HO_7.out) (Kd.R_base ho0) hb); have n2_ := Aside0.mk (Kd.R_elder' (by (with_reducible repeat (first | apply Kd.R_alloc | apply Kd.R_drewN | apply Kd.R_drew)); exact HO_8.out) (Kd.R_base ho0) hb); have n3_ := Aside0.mk (Kd.R_lower (Kd.R_new' (Kd.R_new' ho0 (Kd.R_lt (by (with_reducible repeat (first | apply Kd.R_alloc | apply Kd.R_drewN | apply Kd.R_drew)); exact HO_7.out))) (Kd.R_lt (by (with_reducible repeat (first | apply Kd.R_alloc | apply Kd.R_drewN | apply Kd.R_drew)); exact HO_8.out))) (below_size (by repeat (first | (with_reducible first | exact HB.out | apply below_alloc | apply pw_below_drewN | apply below_drew1) | exact HB.out)))); have n4_ := Aside0.mk (below_step (by repeat (first | (with_reducible first | exact HB.out | apply below_alloc | apply pw_below_drewN | apply below_drew1) | exact HB.out)) hb); clear HO_3; clear HO_7; clear HO_8; clear HB; have HO_3 := n0_; have HO_7 := n1_; have HO_8 := n2_; have HO281 := n3_; have HB := n4_; clear n0_ n1_ n2_ n3_ n4_; (try clear hb); (try clear hb2); (try clear hk); (try clear hi); (try clear ho0); obtain ⟨Ao70, co70, eo70⟩ := Kd.R_slice HO281.out; subst eo70; have p282 : 0 ≤ (0 : Int) := (by omega); have q282 : 0 < (t279.length : Int) := of_decide_eq_true (by first | (with_reducible assumption) | assumption); obtain ⟨ad282, e282, hx282_0⟩ := Kd.at_int (Kd.R_reads' HO281.out).2.2 0 p282 q282; cases e282; have qi282 : (0 < t279.length) = True := eq_true (by omega); (try rw [show ((0 : Int)).toNat = 0 from rfl] at hx282_0); (try rw [Addr.add_zero'] at hx282_0); replace p282 := eq_true p282; replace q282 := eq_true q282; have p283 : 0 ≤ ((ji62) : Int) := of_decide_eq_true (by first | (with_reducible assumption) | assumption); have q283 : (ji62) < (t279.length : Int) := of_decide_eq_true (by first | (with_reducible assumption) | assumption); obtain ⟨ad283, e283, hx283_0⟩ := Kd.at_int (Kd.R_reads' HO281.out).2.2 (ji62) p283 q283; obtain rfl : ad282 = ad283 := (by injection e283); replace p283 := eq_true p283; replace q283 := eq_true q283) | (go_at_call 21; (with_reducible refine (impl_PathBetween.calls k2 _ _ t263 0 (Int.tmod (rd t266 0) (t263.length : Int)) t284 _ ?side1 ?side2 A66.out).mono ?_); (case side1 => repeat (first | exact (Kd.R_reads' HO_3.out).2.2 | (with_reducible refine Kd.C_alloc ?_ _) | (with_reducible refine Kd.C_drewN ?_ _) | (with_reducible refine Kd.C_drew ?_))); (case side2 => exact (Kd.R_reads' HO_3.out).2.1); rintro e w71 ⟨v285, rfl, ho0, hb⟩; have n0_ := Aside0.mk (Kd.R_below (by (with_reducible repeat (first | apply Kd.R_alloc | apply Kd.R_drewN | apply Kd.R_drew)); exact HO_3.out) hb); have n1_ := Aside0.mk (Kd.R_elder' (by (with_reducible repeat (first | apply Kd.R_alloc | apply Kd.R_drewN | apply Kd.R_drew)); exact HO_7.out) (Kd.R_base ho0) hb); have n2_ := Aside0.mk (Kd.R_elder' (by (with_reducible repeat (first | apply Kd.R_alloc | apply Kd.R_drewN | apply Kd.R_drew)); exact HO_8.out) (Kd.R_base ho0) hb); have n3_ := Aside0.mk (Kd.R_elder' (by (with_reducible repeat (first | apply Kd.R_alloc | apply Kd.R_drewN | apply Kd.R_drew)); exact HO281.out) (Kd.R_base ho0) hb); have n4_ := Aside0.mk (Kd.R_lower (Kd.R_new' (Kd.R_new' (Kd.R_new' ho0 (Kd.R_lt (by (with_reducible repeat (first | apply Kd.R_alloc | apply Kd.R_drewN | apply Kd.R_drew)); exact HO_7.out))) (Kd.R_lt (by (with_reducible repeat (first | apply Kd.R_alloc | apply Kd.R_drewN | apply Kd.R_drew)); exact HO_8.out))) (Kd.R_lt (by (with_reducible repeat (first | apply Kd.R_alloc | apply Kd.R_drewN | apply Kd.R_drew)); exact HO281.out))) (below_size (by repeat (first | (with_reducible first | exact HB.out | apply below_alloc | apply pw_below_drewN | apply below_drew1) | exact HB.out)))); have n5_ := Aside0.mk (below_step (by repeat (first | (with_reducible first | exact HB.out | apply below_alloc | apply pw_below_drewN | apply below_drew1) | exact HB.out)) hb); clear HO_3; clear HO_7; clear HO_8; clear HO281; clear HB; have HO_3 := n0_; have HO_7 := n1_; have HO_8 := n2_; have HO281 := n3_; have HO286 := n4_; have HB := n5_; clear n0_ n1_ n2_ n3_ n4_ n5_; (try clear hb); (try clear hb2); (try clear hk); (try clear hi); (try clear ho0); obtain ⟨Ao72, co72, eo72⟩ := Kd.R_slice HO286.out; subst eo72) | (go_at_call 23; (with_reducible refine (laws_sameInts.calls k2 _ _ t284 _ _ t279 t287 _ ?side1 ?side2 ?side3 ?side4 A67.out).mono ?_); (case side1 => repeat (first | exact (Kd.R_reads' HO286.out).2.2 | (with_reducible refine Kd.C_alloc ?_ _) | (with_reducible refine Kd.C_drewN ?_ _) | (with_reducible refine Kd.C_drew ?_))); (case side2 => exact (Kd.R_reads' HO286.out).2.1); (case side3 => repeat (first | exact (Kd.R_reads' HO281.out).2.2 | (with_reducible refine Kd.C_alloc ?_ _) | (with_reducible refine Kd.C_drewN ?_ _) | (with_reducible refine Kd.C_drew ?_))); (case side4 => exact (Kd.R_reads' HO281.out).2.1); rintro e w' ⟨rfl, ⟨nd, rfl⟩⟩; (try first | exact ⟨rfl, _, World.drewN_drewN _ _ _⟩ | exact ⟨rfl, _, Eq.trans (World.drewN_drewN _ _ _) (congrArg (World.drewN _) (Nat.add_assoc _ _ _))⟩))))
                                  go_ret
                                  exact ⟨by first | rfl | (simp [errW_none, errW_some] <;> rfl) | (simp only [← hji62]; first | rfl | (simp [errW_none, errW_some] <;> rfl)) | (simp [*, errW_none, errW_some] <;> rfl), by repeat (first | (with_reducible first | exact HB.out | apply below_alloc | apply pw_below_drewN | apply below_drew1) | exact HB.out)⟩
                                · rw [if_neg c65] at H
                                  have c65b0 : ((rd t279 (ji62)) == (Int.tmod (rd t266 0) (t263.length : Int))) = false := beq_eq_false_iff_ne.mpr c65
                                  have c65b1 : ((rd t279 (ji62)) != (Int.tmod (rd t266 0) (t263.length : Int))) = true := bne_iff_ne.mpr c65
                                  obtain rfl := Option.some.inj H
                                  obtain ⟨Ao73, co73, eo73⟩ := Kd.R_slice HO_7.out
                                  subst eo73
                                  go_wp2_with (first | (go_at_call 22; (with_reducible refine (impl_PathTo.calls k2 _ _ t263 (Int.tmod (rd t266 0) (t263.length : Int)) t279 _ ?side1 ?side2 A58.out).mono ?_); (case side1 => repeat (first | exact (Kd.R_reads' HO_3.out).2.2 | (with_reducible refine Kd.C_alloc ?_ _) | (with_reducible refine Kd.C_drewN ?_ _) | (with_reducible refine Kd.C_drew ?_))); (case side2 => exact (Kd.R_reads' HO_3.out).2.1); rintro e w74 ⟨v280, rfl, ho0, hb⟩; have n0_ := Aside0.mk (Kd.R_below (by (with_reducible repeat (first | apply Kd.R_alloc | apply Kd.R_drewN | apply Kd.R_drew)); exact HO_3.out) hb); have n1_ := Aside0.mk (Kd.R_elder' (by (with_reducible repeat (first | apply Kd.R_alloc | apply Kd.R_drewN | apply Kd.R_drew)); exact HO_7.out) (Kd.R_base ho0) hb); have n2_ := Aside0.mk (Kd.R_elder' (by (with_reducible repeat (first | apply Kd.R_alloc | apply Kd.R_drewN | apply Kd.R_drew)); exact HO_8.out) (Kd.R_base ho0) hb); have n3_ := Aside0.mk (Kd.R_lower (Kd.R_new' (Kd.R_new' ho0 (Kd.R_lt (by (with_reducible repeat (first | apply Kd.R_alloc | apply Kd.R_drewN | apply Kd.R_drew)); exact HO_7.out))) (Kd.R_lt (by (with_reducible repeat (first | apply Kd.R_alloc | apply Kd.R_drewN | apply Kd.R_drew)); exact HO_8.out))) (below_size (by repeat (first | (with_reducible first | exact HB.out | apply below_alloc | apply pw_below_drewN | apply below_drew1) | exact HB.out)))); have n4_ := Aside0.mk (below_step (by repeat (first | (with_reducible first | exact HB.out | apply below_alloc | apply pw_below_drewN | apply below_drew1) | exact HB.out)) hb); clear HO_3; clear HO_7; clear HO_8; clear HB; have HO_3 := n0_; have HO_7 := n1_; have HO_8 := n2_; have HO281 := n3_; have HB := n4_; clear n0_ n1_ n2_ n3_ n4_; (try clear hb); (try clear hb2); (try clear hk); (try clear hi); (try clear ho0); obtain ⟨Ao75, co75, eo75⟩ := Kd.R_slice HO281.out; subst eo75; have p282 : 0 ≤ (0 : Int) := (by omega); have q282 : 0 < (t279.length : Int) := of_decide_eq_true (by first | (with_reducible assumption) | assumption); obtain ⟨ad282, e282, hx282_0⟩ := Kd.at_int (Kd.R_reads' HO281.out).2.2 0 p282 q282; cases e282; have qi282 : (0 < t279.length) = True := eq_true (by omega); (try rw [show ((0 : Int)).toNat = 0 from rfl] at hx282_0); (try rw [Addr.add_zero'] at hx282_0); replace p282 := eq_true p282; replace q282 := eq_true q282; have p283 : 0 ≤ ((ji62) : Int) := of_decide_eq_true (by first | (with_reducible assumption) | assumption); have q283 : (ji62) < (t279.length : Int) := of_decide_eq_true (by first | (with_reducible assumption) | assumption); obtain ⟨ad283, e283, hx283_0⟩ := Kd.at_int (Kd.R_reads' HO281.out).2.2 (ji62) p283 q283; obtain rfl : ad282 = ad283 := (by injection e283); replace p283 := eq_true p283; replace q283 := eq_true q283))
                                  repeat (go_quiet (first | (go_at_call 22; (with_reducible refine (impl_PathTo.calls k2 _ _ t263 (Int.tmod (rd t266 0) (t263.length : Int)) t279 _ ?side1 ?side2 A58.out).mono ?_); (case side1 => repeat (first | exact (Kd.R_reads' HO_3.out).2.2 | (with_reducible refine Kd.C_alloc ?_ _) | (with_reducible refine Kd.C_drewN ?_ _) | (with_reducible refine Kd.C_drew ?_))); (case side2 => exact (Kd.R_reads' HO_3.out).2.1); rintro e w74 ⟨v280, rfl, ho0, hb⟩; have n0_ := Aside0.mk (Kd.R_below (by (with_reducible repeat (first | apply Kd.R_alloc | apply Kd.R_drewN | apply Kd.R_drew)); exact HO_3.out) hb); have n1_ := Aside0.mk (Kd.R_elder' (by (with_reducible repeat (first | apply Kd.R_alloc | apply Kd.R_drewN | apply Kd.R_drew)); exact HO_7.out) (Kd.R_base ho0) hb); have n2_ := Aside0.mk (Kd.R_elder' (by (with_reducible repeat (first | apply Kd.R_alloc | apply Kd.R_drewN | apply Kd.R_drew)); exact HO_8.out) (Kd.R_base ho0) hb); have n3_ := Aside0.mk (Kd.R_lower (Kd.R_new' (Kd.R_new' ho0 (Kd.R_lt (by (with_reducible repeat (first | apply Kd.R_alloc | apply Kd.R_drewN | apply Kd.R_drew)); exact HO_7.out))) (Kd.R_lt (by (with_reducible repeat (first | apply Kd.R_alloc | apply Kd.R_drewN | apply Kd.R_drew)); exact HO_8.out))) (below_size (by repeat (first | (with_reducible first | exact HB.out | apply below_alloc | apply pw_below_drewN | apply below_drew1) | exact HB.out)))); have n4_ := Aside0.mk (below_step (by repeat (first | (with_reducible first | exact HB.out | apply below_alloc | apply pw_below_drewN | apply below_drew1) | exact HB.out)) hb); clear HO_3; clear HO_7; clear HO_8; clear HB; have HO_3 := n0_; have HO_7 := n1_; have HO_8 := n2_; have HO281 := n3_; have HB := n4_; clear n0_ n1_ n2_ n3_ n4_; (try clear hb); (try clear hb2); (try clear hk); (try clear hi); (try clear ho0); obtain ⟨Ao75, co75, eo75⟩ := Kd.R_slice HO281.out; subst eo75; have p282 : 0 ≤ (0 : Int) := (by omega); have q282 : 0 < (t279.length : Int) := of_decide_eq_true (by first | (with_reducible assumption) | assumption); obtain ⟨ad282, e282, hx282_0⟩ := Kd.at_int (Kd.R_reads' HO281.out).2.2 0 p282 q282; cases e282; have qi282 : (0 < t279.length) = True := eq_true (by omega); (try rw [show ((0 : Int)).toNat = 0 from rfl] at hx282_0); (try rw [Addr.add_zero'] at hx282_0); replace p282 := eq_true p282; replace q282 := eq_true q282; have p283 : 0 ≤ ((ji62) : Int) := of_decide_eq_true (by first | (with_reducible assumption) | assumption); have q283 : (ji62) < (t279.length : Int) := of_decide_eq_true (by first | (with_reducible assumption) | assumption); obtain ⟨ad283, e283, hx283_0⟩ := Kd.at_int (Kd.R_reads' HO281.out).2.2 (ji62) p283 q283; obtain rfl : ad282 = ad283 := (by injection e283); replace p283 := eq_true p283; replace q283 := eq_true q283)); try go_wp2_with (first | (go_at_call 22; (with_reducible refine (impl_PathTo.calls k2 _ _ t263 (Int.tmod (rd t266 0) (t263.length : Int)) t279 _ ?side1 ?side2 A58.out).mono ?_); (case side1 => repeat (first | exact (Kd.R_reads' HO_3.out).2.2 | (with_reducible refine Kd.C_alloc ?_ _) | (with_reducible refine Kd.C_drewN ?_ _) | (with_reducible refine Kd.C_drew ?_))); (case side2 => exact (Kd.R_reads' HO_3.out).2.1); rintro e w74 ⟨v280, rfl, ho0, hb⟩; have n0_ := Aside0.mk (Kd.R_below (by (with_reducible repeat (first | apply Kd.R_alloc | apply Kd.R_drewN | apply Kd.R_drew)); exact HO_3.out) hb); have n1_ := Aside0.mk (Kd.R_elder' (by (with_reducible repeat (first | apply Kd.R_alloc | apply Kd.R_drewN | apply Kd.R_drew)); exact HO_7.out) (Kd.R_base ho0) hb); have n2_ := Aside0.mk (Kd.R_elder' (by (with_reducible repeat (first | apply Kd.R_alloc | apply Kd.R_drewN | apply Kd.R_drew)); exact HO_8.out) (Kd.R_base ho0) hb); have n3_ := Aside0.mk (Kd.R_lower (Kd.R_new' (Kd.R_new' ho0 (Kd.R_lt (by (with_reducible repeat (first | apply Kd.R_alloc | apply Kd.R_drewN | apply Kd.R_drew)); exact HO_7.out))) (Kd.R_lt (by (with_reducible repeat (first | apply Kd.R_alloc | apply Kd.R_drewN | apply Kd.R_drew)); exact HO_8.out))) (below_size (by repeat (first | (with_reducible first | exact HB.out | apply below_alloc | apply pw_below_drewN | apply below_drew1) | exact HB.out)))); have n4_ := Aside0.mk (below_step (by repeat (first | (with_reducible first | exact HB.out | apply below_alloc | apply pw_below_drewN | apply below_drew1) | exact HB.out)) hb); clear HO_3; clear HO_7; clear HO_8; clear HB; have HO_3 := n0_; have HO_7 := n1_; have HO_8 := n2_; have HO281 := n3_; have HB := n4_; clear n0_ n1_ n2_ n3_ n4_; (try clear hb); (try clear hb2); (try clear hk); (try clear hi); (try clear ho0); obtain ⟨Ao75, co75, eo75⟩ := Kd.R_slice HO281.out; subst eo75; have p282 : 0 ≤ (0 : Int) := (by omega); have q282 : 0 < (t279.length : Int) := of_decide_eq_true (by first | (with_reducible assumption) | assumption); obtain ⟨ad282, e282, hx282_0⟩ := Kd.at_int (Kd.R_reads' HO281.out).2.2 0 p282 q282; cases e282; have qi282 : (0 < t279.length) = True := eq_true (by omega); (try rw [show ((0 : Int)).toNat = 0 from rfl] at hx282_0); (try rw [Addr.add_zero'] at hx282_0); replace p282 := eq_true p282; replace q282 := eq_true q282; have p283 : 0 ≤ ((ji62) : Int) := of_decide_eq_true (by first | (with_reducible assumption) | assumption); have q283 : (ji62) < (t279.length : Int) := of_decide_eq_true (by first | (with_reducible assumption) | assumption); obtain ⟨ad283, e283, hx283_0⟩ := Kd.at_int (Kd.R_reads' HO281.out).2.2 (ji62) p283 q283; obtain rfl : ad282 = ad283 := (by injection e283); replace p283 := eq_true p283; replace q283 := eq_true q283)))
                                  go_ret
                                  exact ⟨by first | rfl | (simp [errW_none, errW_some] <;> rfl) | (simp only [← hji62]; first | rfl | (simp [errW_none, errW_some] <;> rfl)) | (simp [*, errW_none, errW_some] <;> rfl), by repeat (first | (with_reducible first | exact HB.out | apply below_alloc | apply pw_below_drewN | apply below_drew1) | exact HB.out)⟩
                              · rw [if_neg c64] at H
                                exact absurd H (by simp)
                            · rw [if_neg c63] at H
                              exact absurd H (by simp)
                          · rw [if_neg c61] at H
                            have c61b0 : ((rd t279 0) == 0) = false := beq_eq_false_iff_ne.mpr c61
                            have c61b1 : ((rd t279 0) != 0) = true := bne_iff_ne.mpr c61
                            obtain rfl := Option.some.inj H
                            obtain ⟨Ao76, co76, eo76⟩ := Kd.R_slice HO_7.out
                            subst eo76
                            go_wp2_with (first | (go_at_call 22; (with_reducible refine (impl_PathTo.calls k2 _ _ t263 (Int.tmod (rd t266 0) (t263.length : Int)) t279 _ ?side1 ?side2 A58.out).mono ?_); (case side1 => repeat (first | exact (Kd.R_reads' HO_3.out).2.2 | (with_reducible refine Kd.C_alloc ?_ _) | (with_reducible refine Kd.C_drewN ?_ _) | (with_reducible refine Kd.C_drew ?_))); (case side2 => exact (Kd.R_reads' HO_3.out).2.1); rintro e w77 ⟨v280, rfl, ho0, hb⟩; have n0_ := Aside0.mk (Kd.R_below (by (with_reducible repeat (first | apply Kd.R_alloc | apply Kd.R_drewN | apply Kd.R_drew)); exact HO_3.out) hb); have n1_ := Aside0.mk (Kd.R_elder' (by (with_reducible repeat (first | apply Kd.R_alloc | apply Kd.R_drewN | apply Kd.R_drew)); exact HO_7.out) (Kd.R_base ho0) hb); have n2_ := Aside0.mk (Kd.R_elder' (by (with_reducible repeat (first | apply Kd.R_alloc | apply Kd.R_drewN | apply Kd.R_drew)); exact HO_8.out) (Kd.R_base ho0) hb); have n3_ := Aside0.mk (Kd.R_lower (Kd.R_new' (Kd.R_new' ho0 (Kd.R_lt (by (with_reducible repeat (first | apply Kd.R_alloc | apply Kd.R_drewN | apply Kd.R_drew)); exact HO_7.out))) (Kd.R_lt (by (with_reducible repeat (first | apply Kd.R_alloc | apply Kd.R_drewN | apply Kd.R_drew)); exact HO_8.out))) (below_size (by repeat (first | (with_reducible first | exact HB.out | apply below_alloc | apply pw_below_drewN | apply below_drew1) | exact HB.out)))); have n4_ := Aside0.mk (below_step (by repeat (first | (with_reducible first | exact HB.out | apply below_alloc | apply pw_below_drewN | apply below_drew1) | exact HB.out)) hb); clear HO_3; clear HO_7; clear HO_8; clear HB; have HO_3 := n0_; have HO_7 := n1_; have HO_8 := n2_; have HO281 := n3_; have HB := n4_; clear n0_ n1_ n2_ n3_ n4_; (try clear hb); (try clear hb2); (try clear hk); (try clear hi); (try clear ho0); obtain ⟨Ao78, co78, eo78⟩ := Kd.R_slice HO281.out; subst eo78; have p282 : 0 ≤ (0 : Int) := (by omega); have q282 : 0 < (t279.length : Int) := of_decide_eq_true (by first | (with_reducible assumption) | assumption); obtain ⟨ad282, e282, hx282_0⟩ := Kd.at_int (Kd.R_reads' HO281.out).2.2 0 p282 q282; cases e282; have qi282 : (0 < t279.length) = True := eq_true (by omega); (try rw [show ((0 : Int)).toNat = 0 from rfl] at hx282_0); (try rw [Addr.add_zero'] at hx282_0); replace p282 := eq_true p282; replace q282 := eq_true q282))
                            repeat (go_quiet (first | (go_at_call 22; (with_reducible refine (impl_PathTo.calls k2 _ _ t263 (Int.tmod (rd t266 0) (t263.length : Int)) t279 _ ?side1 ?side2 A58.out).mono ?_); (case side1 => repeat (first | exact (Kd.R_reads' HO_3.out).2.2 | (with_reducible refine Kd.C_alloc ?_ _) | (with_reducible refine Kd.C_drewN ?_ _) | (with_reducible refine Kd.C_drew ?_))); (case side2 => exact (Kd.R_reads' HO_3.out).2.1); rintro e w77 ⟨v280, rfl, ho0, hb⟩; have n0_ := Aside0.mk (Kd.R_below (by (with_reducible repeat (first | apply Kd.R_alloc | apply Kd.R_drewN | apply Kd.R_drew)); exact HO_3.out) hb); have n1_ := Aside0.mk (Kd.R_elder' (by (with_reducible repeat (first | apply Kd.R_alloc | apply Kd.R_drewN | apply Kd.R_drew)); exact HO_7.out) (Kd.R_base ho0) hb); have n2_ := Aside0.mk (Kd.R_elder' (by (with_reducible repeat (first | apply Kd.R_alloc | apply Kd.R_drewN | apply Kd.R_drew)); exact HO_8.out) (Kd.R_base ho0) hb); have n3_ := Aside0.mk (Kd.R_lower (Kd.R_new' (Kd.R_new' ho0 (Kd.R_lt (by (with_reducible repeat (first | apply Kd.R_alloc | apply Kd.R_drewN | apply Kd.R_drew)); exact HO_7.out))) (Kd.R_lt (by (with_reducible repeat (first | apply Kd.R_alloc | apply Kd.R_drewN | apply Kd.R_drew)); exact HO_8.out))) (below_size (by repeat (first | (with_reducible first | exact HB.out | apply below_alloc | apply pw_below_drewN | apply below_drew1) | exact HB.out)))); have n4_ := Aside0.mk (below_step (by repeat (first | (with_reducible first | exact HB.out | apply below_alloc | apply pw_below_drewN | apply below_drew1) | exact HB.out)) hb); clear HO_3; clear HO_7; clear HO_8; clear HB; have HO_3 := n0_; have HO_7 := n1_; have HO_8 := n2_; have HO281 := n3_; have HB := n4_; clear n0_ n1_ n2_ n3_ n4_; (try clear hb); (try clear hb2); (try clear hk); (try clear hi); (try clear ho0); obtain ⟨Ao78, co78, eo78⟩ := Kd.R_slice HO281.out; subst eo78; have p282 : 0 ≤ (0 : Int) := (by omega); have q282 : 0 < (t279.length : Int) := of_decide_eq_true (by first | (with_reducible assumption) | assumption); obtain ⟨ad282, e282, hx282_0⟩ := Kd.at_int (Kd.R_reads' HO281.out).2.2 0 p282 q282; cases e282; have qi282 : (0 < t279.length) = True := eq_true (by omega); (try rw [show ((0 : Int)).toNat = 0 from rfl] at hx282_0); (try rw [Addr.add_zero'] at hx282_0); replace p282 := eq_true p282; replace q282 := eq_true q282)); try go_wp2_with (first | (go_at_call 22; (with_reducible refine (impl_PathTo.calls k2 _ _ t263 (Int.tmod (rd t266 0) (t263.length : Int)) t279 _ ?side1 ?side2 A58.out).mono ?_); (case side1 => repeat (first | exact (Kd.R_reads' HO_3.out).2.2 | (with_reducible refine Kd.C_alloc ?_ _) | (with_reducible refine Kd.C_drewN ?_ _) | (with_reducible refine Kd.C_drew ?_))); (case side2 => exact (Kd.R_reads' HO_3.out).2.1); rintro e w77 ⟨v280, rfl, ho0, hb⟩; have n0_ := Aside0.mk (Kd.R_below (by (with_reducible repeat (first | apply Kd.R_alloc | apply Kd.R_drewN | apply Kd.R_drew)); exact HO_3.out) hb); have n1_ := Aside0.mk (Kd.R_elder' (by (with_reducible repeat (first | apply Kd.R_alloc | apply Kd.R_drewN | apply Kd.R_drew)); exact HO_7.out) (Kd.R_base ho0) hb); have n2_ := Aside0.mk (Kd.R_elder' (by (with_reducible repeat (first | apply Kd.R_alloc | apply Kd.R_drewN | apply Kd.R_drew)); exact HO_8.out) (Kd.R_base ho0) hb); have n3_ := Aside0.mk (Kd.R_lower (Kd.R_new' (Kd.R_new' ho0 (Kd.R_lt (by (with_reducible repeat (first | apply Kd.R_alloc | apply Kd.R_drewN | apply Kd.R_drew)); exact HO_7.out))) (Kd.R_lt (by (with_reducible repeat (first | apply Kd.R_alloc | apply Kd.R_drewN | apply Kd.R_drew)); exact HO_8.out))) (below_size (by repeat (first | (with_reducible first | exact HB.out | apply below_alloc | apply pw_below_drewN | apply below_drew1) | exact HB.out)))); have n4_ := Aside0.mk (below_step (by repeat (first | (with_reducible first | exact HB.out | apply below_alloc | apply pw_below_drewN | apply below_drew1) | exact HB.out)) hb); clear HO_3; clear HO_7; clear HO_8; clear HB; have HO_3 := n0_; have HO_7 := n1_; have HO_8 := n2_; have HO281 := n3_; have HB := n4_; clear n0_ n1_ n2_ n3_ n4_; (try clear hb); (try clear hb2); (try clear hk); (try clear hi); (try clear ho0); obtain ⟨Ao78, co78, eo78⟩ := Kd.R_slice HO281.out; subst eo78; have p282 : 0 ≤ (0 : Int) := (by omega); have q282 : 0 < (t279.length : Int) := of_decide_eq_true (by first | (with_reducible assumption) | assumption); obtain ⟨ad282, e282, hx282_0⟩ := Kd.at_int (Kd.R_reads' HO281.out).2.2 0 p282 q282; cases e282; have qi282 : (0 < t279.length) = True := eq_true (by omega); (try rw [show ((0 : Int)).toNat = 0 from rfl] at hx282_0); (try rw [Addr.add_zero'] at hx282_0); replace p282 := eq_true p282; replace q282 := eq_true q282)))
                            go_ret
                            exact ⟨by first | rfl | (simp [errW_none, errW_some] <;> rfl) | (simp [*, errW_none, errW_some] <;> rfl), by repeat (first | (with_reducible first | exact HB.out | apply below_alloc | apply pw_below_drewN | apply below_drew1) | exact HB.out)⟩
                        · rw [if_neg c60] at H
                          exact absurd H (by simp)
                      · rw [if_neg c59] at H
                        have c59b0 : decide (0 < (t279.length : Int)) = false := decide_eq_false c59
                        have c59b1 : decide (0 < t279.length) = false := decide_eq_false (by omega)
                        clear c59
                        obtain rfl := Option.some.inj H
                        obtain ⟨Ao79, co79, eo79⟩ := Kd.R_slice HO_7.out
                        subst eo79
                        go_wp2_with (first | (go_at_call 22; (with_reducible refine (impl_PathTo.calls k2 _ _ t263 (Int.tmod (rd t266 0) (t263.length : Int)) t279 _ ?side1 ?side2 A58.out).mono ?_); (case side1 => repeat (first | exact (Kd.R_reads' HO_3.out).2.2 | (with_reducible refine Kd.C_alloc ?_ _) | (with_reducible refine Kd.C_drewN ?_ _) | (with_reducible refine Kd.C_drew ?_))); (case side2 => exact (Kd.R_reads' HO_3.out).2.1); rintro e w80 ⟨v280, rfl, ho0, hb⟩; have n0_ := Aside0.mk (Kd.R_below (by (with_reducible repeat (first | apply Kd.R_alloc | apply Kd.R_drewN | apply Kd.R_drew)); exact HO_3.out) hb); have n1_ := Aside0.mk (Kd.R_elder' (by (with_reducible repeat (first | apply Kd.R_alloc | apply Kd.R_drewN | apply Kd.R_drew)); exact HO_7.out) (Kd.R_base ho0) hb); have n2_ := Aside0.mk (Kd.R_elder' (by (with_reducible repeat (first | apply Kd.R_alloc | apply Kd.R_drewN | apply Kd.R_drew)); exact HO_8.out) (Kd.R_base ho0) hb); have n3_ := Aside0.mk (Kd.R_lower (Kd.R_new' (Kd.R_new' ho0 (Kd.R_lt (by (with_reducible repeat (first | apply Kd.R_alloc | apply Kd.R_drewN | apply Kd.R_drew)); exact HO_7.out))) (Kd.R_lt (by (with_reducible repeat (first | apply Kd.R_alloc | apply Kd.R_drewN | apply Kd.R_drew)); exact HO_8.out))) (below_size (by repeat (first | (with_reducible first | exact HB.out | apply below_alloc | apply pw_below_drewN | apply below_drew1) | exact HB.out)))); have n4_ := Aside0.mk (below_step (by repeat (first | (with_reducible first | exact HB.out | apply below_alloc | apply pw_below_drewN | apply below_drew1) | exact HB.out)) hb); clear HO_3; clear HO_7; clear HO_8; clear HB; have HO_3 := n0_; have HO_7 := n1_; have HO_8 := n2_; have HO281 := n3_; have HB := n4_; clear n0_ n1_ n2_ n3_ n4_; (try clear hb); (try clear hb2); (try clear hk); (try clear hi); (try clear ho0); obtain ⟨Ao81, co81, eo81⟩ := Kd.R_slice HO281.out; subst eo81))
                        repeat (go_quiet (first | (go_at_call 22; (with_reducible refine (impl_PathTo.calls k2 _ _ t263 (Int.tmod (rd t266 0) (t263.length : Int)) t279 _ ?side1 ?side2 A58.out).mono ?_); (case side1 => repeat (first | exact (Kd.R_reads' HO_3.out).2.2 | (with_reducible refine Kd.C_alloc ?_ _) | (with_reducible refine Kd.C_drewN ?_ _) | (with_reducible refine Kd.C_drew ?_))); (case side2 => exact (Kd.R_reads' HO_3.out).2.1); rintro e w80 ⟨v280, rfl, ho0, hb⟩; have n0_ := Aside0.mk (Kd.R_below (by (with_reducible repeat (first | apply Kd.R_alloc | apply Kd.R_drewN | apply Kd.R_drew)); exact HO_3.out) hb); have n1_ := Aside0.mk (Kd.R_elder' (by (with_reducible repeat (first | apply Kd.R_alloc | apply Kd.R_drewN | apply Kd.R_drew)); exact HO_7.out) (Kd.R_base ho0) hb); have n2_ := Aside0.mk (Kd.R_elder' (by (with_reducible repeat (first | apply Kd.R_alloc | apply Kd.R_drewN | apply Kd.R_drew)); exact HO_8.out) (Kd.R_base ho0) hb); have n3_ := Aside0.mk (Kd.R_lower (Kd.R_new' (Kd.R_new' ho0 (Kd.R_lt (by (with_reducible repeat (first | apply Kd.R_alloc | apply Kd.R_drewN | apply Kd.R_drew)); exact HO_7.out))) (Kd.R_lt (by (with_reducible repeat (first | apply Kd.R_alloc | apply Kd.R_drewN | apply Kd.R_drew)); exact HO_8.out))) (below_size (by repeat (first | (with_reducible first | exact HB.out | apply below_alloc | apply pw_below_drewN | apply below_drew1) | exact HB.out)))); have n4_ := Aside0.mk (below_step (by repeat (first | (with_reducible first | exact HB.out | apply below_alloc | apply pw_below_drewN | apply below_drew1) | exact HB.out)) hb); clear HO_3; clear HO_7; clear HO_8; clear HB; have HO_3 := n0_; have HO_7 := n1_; have HO_8 := n2_; have HO281 := n3_; have HB := n4_; clear n0_ n1_ n2_ n3_ n4_; (try clear hb); (try clear hb2); (try clear hk); (try clear hi); (try clear ho0); obtain ⟨Ao81, co81, eo81⟩ := Kd.R_slice HO281.out; subst eo81)); try go_wp2_with (first | (go_at_call 22; (with_reducible refine (impl_PathTo.calls k2 _ _ t263 (Int.tmod (rd t266 0) (t263.length : Int)) t279 _ ?side1 ?side2 A58.out).mono ?_); (case side1 => repeat (first | exact (Kd.R_reads' HO_3.out).2.2 | (with_reducible refine Kd.C_alloc ?_ _) | (with_reducible refine Kd.C_drewN ?_ _) | (with_reducible refine Kd.C_drew ?_))); (case side2 => exact (Kd.R_reads' HO_3.out).2.1); rintro e w80 ⟨v280, rfl, ho0, hb⟩; have n0_ := Aside0.mk (Kd.R_below (by (with_reducible repeat (first | apply Kd.R_alloc | apply Kd.R_drewN | apply Kd.R_drew)); exact HO_3.out) hb); have n1_ := Aside0.mk (Kd.R_elder' (by (with_reducible repeat (first | apply Kd.R_alloc | apply Kd.R_drewN | apply Kd.R_drew)); exact HO_7.out) (Kd.R_base ho0) hb); have n2_ := Aside0.mk (Kd.R_elder' (by (with_reducible repeat (first | apply Kd.R_alloc | apply Kd.R_drewN | apply Kd.R_drew)); exact HO_8.out) (Kd.R_base ho0) hb); have n3_ := Aside0.mk (Kd.R_lower (Kd.R_new' (Kd.R_new' ho0 (Kd.R_lt (by (with_reducible repeat (first | apply Kd.R_alloc | apply Kd.R_drewN | apply Kd.R_drew)); exact HO_7.out))) (Kd.R_lt (by (with_reducible repeat (first | apply Kd.R_alloc | apply Kd.R_drewN | apply Kd.R_drew)); exact HO_8.out))) (below_size (by repeat (first | (with_reducible first | exact HB.out | apply below_alloc | apply pw_below_drewN | apply below_drew1) | exact HB.out)))); have n4_ := Aside0.mk (below_step (by repeat (first | (with_reducible first | exact HB.out | apply below_alloc | apply pw_below_drewN | apply below_drew1) | exact HB.out)) hb); clear HO_3; clear HO_7; clear HO_8; clear HB; have HO_3 := n0_; have HO_7 := n1_; have HO_8 := n2_; have HO281 := n3_; have HB := n4_; clear n0_ n1_ n2_ n3_ n4_; (try clear hb); (try clear hb2); (try clear hk); (try clear hi); (try clear ho0); obtain ⟨Ao81, co81, eo81⟩ := Kd.R_slice HO281.out; subst eo81)))
                        go_ret
                        exact ⟨by first | rfl | (simp [errW_none, errW_some] <;> rfl) | (simp [*, errW_none, errW_some] <;> rfl), by repeat (first | (with_reducible first | exact HB.out | apply below_alloc | apply pw_below_drewN | apply below_drew1) | exact HB.out)⟩
        · rw [if_neg c8] at H
          exact absurd H (by simp)
    · rw [if_neg c6] at H
      exact absurd H (by simp)

/-- THE ONE PURE STATEMENT of laws_FnPaths: yours. -/
def laws_FnPaths.Pure : Prop := ∀ (l0 : List Int), l0.length ≤ maxLen → l0.length * 1 ≤ 140737488351232 → (∀ x ∈ l0, (Lit.int .u8 x).wf = true) → ∃ k, laws_FnPaths.f k l0 = some true
theorem laws_FnPaths.walk (P : laws_FnPaths.Pure) (a0 : Option Addr) (len0 cap0 : Nat) (z0 : List Int) (w : World) (w0 : (a0 = none ∧ len0 = 0 ∧ cap0 = 0 ∧ z0 = []) ∨ ∃ x, a0 = some x ∧ len0 ≤ cap0 ∧ cap0 ≤ maxLen ∧ z0.length = cap0 ∧ (∀ i, i < z0.length → w.cell? (x.add i) = some (.int .u8 (z0.getD i 0))) ∧ ∀ n ∈ z0, (Lit.int .u8 n).wf = true) (y0 : len0 * 1 ≤ 140737488351232) :
    Calls Try.prog 5 #[.slice a0 len0 cap0] w fun e w' => e = .returned (.bool true) ∧ Below w.heap.size w w' := by
  obtain ⟨l0, rfl, hr0, hm0, hw0, hc0⟩ := ReadsInt.ofRowC w0
  obtain ⟨k, h⟩ := P l0 hm0 y0 hw0
  refine (laws_FnPaths.calls k _ _ l0 true w (Kd.C_of_reads (d := (0 : Int)) (h1 := fun _ => rfl) hr0) hc0 h).mono ?_
  rintro e w' ⟨rfl, hd⟩
  exact ⟨rfl, hd⟩

end Go.Proofs.Ytbgmbhhbonpoaaa.PFnPaths
