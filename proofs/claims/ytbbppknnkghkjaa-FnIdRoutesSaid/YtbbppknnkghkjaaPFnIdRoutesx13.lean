/- Printed by a program of this session out of the translation: each Go function as a Lean function, with the proof that Go comes to just its answer (no condition beyond what each theorem says). (squeezed) -/
import Derived.Test.YtbbppknnkghkjaaPFnIdRoutesx0
import Derived.Test.YtbbppknnkghkjaaPFnIdRoutesx11
import Derived.Test.YtbbppknnkghkjaaPFnIdRoutesx12
namespace Go.Proofs.Ytbbppknnkghkjaa.PFnIdRoutes
open Go.RowKit Go.Proofs.YtbbppknnkghkjaaW.PrintWords Go.Proofs.YtbbppknnkghkjaaW.PrintLast Go.Proofs.YtbbppknnkghkjaaW.PrintMore Go.Proofs.Ytbbppknnkghkjaa.Kit Go.Proofs.Ytbbppknnkghkjaa.Kit2
attribute [local go_sem] max2_int min2_int max_two min_two max_three min_three max_four min_four   -- for this text's walks alone
set_option linter.unusedVariables false
set_option linter.unusedSimpArgs false

/-! ### spec_l19Tree: function 88 -/
def spec_l19Tree.l0 : Nat → List (S50) → Int → List Int → Int → Int → Option ((List (S50)) × Int × Int)
 | 0, _, _, _, _, _ => none
 | k + 1, x3, x4, x1000, x1001, x1002 => (spec_l01Below.f x1000 x1001 x1002 8).bind fun bt344 => (if x4 < (wrap64 (3 + bt344.1)) then ((spec_l01Below.f x1000 bt344.2.1 bt344.2.2 (x3.length : Int)).bind fun bt347 => ((spec_l01Below.f x1000 bt347.2.1 bt347.2.2 4).bind fun bt350 => ((spec_l01PickInt.f x1000 bt350.2.1 bt350.2.2 (([0, 0, 1, 1, 2, 4] : List Int))).bind fun bt356 => ((some (([] : List (S50)) : List (S50))).bind fun y360 => (if y360.length + x3.length < 5864062014805 then ((some (y360 ++ x3 : List (S50))).bind fun y363 => ((some (([(⟨bt347.1, bt350.1, bt356.1⟩ : S50)] : List (S50)) : List (S50))).bind fun y366 => (if y363.length + y366.length < 5864062014805 then ((some (y363 ++ y366 : List (S50))).bind fun y369 => ((spec_TreeOk.f k y369).bind fun t372 => (if t372 = true then (spec_l19Tree.l0 k y369 (wrap64 (x4 + 1)) x1000 bt356.2.1 bt356.2.2) else (spec_l19Tree.l0 k x3 (wrap64 (x4 + 1)) x1000 bt356.2.1 bt356.2.2)))) else (none)))) else (none)))))) else (some (x3, bt344.2.1, bt344.2.2)))
def spec_l19Tree.f (k : Nat) (s0_0 : List Int) (s0_1 : Int) (s0_2 : Int) : Option ((List (S50)) × Int × Int) := spec_l19Tree.l0 k (([(⟨(-1), 0, 0⟩ : S50)] : List (S50))) 0 s0_0 s0_1 s0_2
set_option maxHeartbeats 8000000 in
set_option maxRecDepth 100000 in
theorem spec_l19Tree.calls (k : Nat) (g : Nat) (s0_0 : List Int) (s0_1 : Int) (s0_2 : Int) (r1 : List (S50)) (r2 : Int) (r3 : Int) (w0 w : World) (hI : IsS109 w0 w g s0_0 s0_1 s0_2) (hB : Below w0.heap.size w0 w) (h : spec_l19Tree.f k s0_0 s0_1 s0_2 = some (r1, r2, r3)) :
  Calls Try.prog 88 #[.pointer (some ⟨g, 0, none⟩)] w fun e w' => ∃ v0_ : Value, e = .returned (v0_) ∧ Kd.R k50 50 w' w.heap.size (fun _ => True) v0_ r1 ∧ IsS109 w0 w' g s0_0 r2 r3 ∧ Below w0.heap.size w0 w' ∧ KeepBut w w' g none := by
 have hu50 := Try.underlying50
 have HI0 := Aside0.mk hI
 have HK := Aside0.mk (KeepBut.refl w g none)
 have HL := Aside0.mk hB.size
 clear hI
 have HW0 := Aside0.mk hB.size
 have HB := Aside0.mk hB
 clear hB
 have H : (spec_l19Tree.l0 k (([(⟨(-1), 0, 0⟩ : S50)] : List (S50))) 0 s0_0 s0_1 s0_2) = some (r1, r2, r3) := h
 clear h
 obtain ⟨y341, hy341⟩ : ∃ y_ : List (S50), y_ = (([(⟨(-1), 0, 0⟩ : S50)] : List (S50))) := ⟨_, rfl⟩
 replace H : (spec_l19Tree.l0 k y341 0 s0_0 s0_1 s0_2) = some (r1, r2, r3) := by first | (rw [hy341]; with_reducible exact H) | (have H2_ := (Option.bind_some _ _).symm.trans H; rw [hy341]; with_reducible exact H2_) | (have H2_ := (Option.bind_some _ _).symm.trans H; with_reducible exact H2_) | with_reducible exact H | (rw [hy341]; exact H) | exact H
 have Ny341 := Aside0.mk hy341
 clear hy341
 have H' := Aside0.mk H
 clear H
 go_enter Try.func88, Try.ntmps88
 go_wp2_with (first | ((with_reducible refine gate_dst (N := 8) rfl ?_); refine Kd.R_lit k50 _ 50 ?hg (N := 8) ?hd (xs := ([(⟨(-1), 0, 0⟩ : S50)] : List (S50))) (inner := [.int .i64 (-1), .int .i64 0, .int .i64 0]) (ok := fun _ => True) (okp := fun _ => True) ?hr ?hp (fun _ hk => hk) trivial (Below.refl _ _) (Nat.le_refl _) (by simp) ?_; (case hd => rfl); (case hg => rfl); (case hr => first | (go_simp; done) | (go_simp; rfl)); (case hp => exact (Reps.c3 (show Kd.M k50 _ _ _ (⟨(-1), 0, 0⟩ : S50) [.int .i64 (-1), .int .i64 0, .int .i64 0] from (k50_mkM _ _ _ (⟨(-1), 0, 0⟩ : S50) )) (Reps.none _ _))); intro v342 w2 ho3 hb hg_ hnew_; clear hg_ hnew_; (first | rw [← Ny341.out] at ho3 | (simp only [Int.reduceToNat] at ho3; rw [← Ny341.out] at ho3)); have t_ := fc4 (Kd.R_lower ho3 (keep_size (w := w) (g := g) (row := none) (by repeat (first | (with_reducible first | exact HK.out | apply KeepBut.set_ | apply keep_drewN | apply keep_drew | apply keep_alloc) | exact HK.out)))) (IsS109.below (by repeat (first | (with_reducible first | exact HI0.out | apply IsS109.alloc | apply IsS109.drewN | apply IsS109.drew | apply IsS109.set_1 | apply IsS109.set_2) | exact HI0.out)) hb) (KeepBut.trans (by repeat (first | (with_reducible first | exact HK.out | apply KeepBut.set_ | apply keep_drewN | apply keep_drew | apply keep_alloc) | exact HK.out)) (KeepBut.of_below hb g none) (.inl rfl)) (below_step (by repeat (first | (with_reducible first | exact HB.out | apply below_alloc | apply pw_below_drewN | apply below_drew1 | refine below_set ?_ (IsS109.ge HI0.out)) | exact HB.out)) hb); clear HI0 HK HB; obtain ⟨HO343, HI0, HK, HB⟩ := t_; clear hb ho3))
 go_loopg [3, 4] k (fun kq v3 v4 w' => ∃ (x3_1 : List (S50)) (x4_1 : Int) (x1001_1 : Int) (x1002_1 : Int), v4 = .int .i64 x4_1 ∧ Aside0 (spec_l19Tree.l0 kq x3_1 x4_1 s0_0 x1001_1 x1002_1 = some (r1, r2, r3)) ∧ Aside0 (kq ≤ k) ∧ Aside0 (Kd.R k50 50 w' w.heap.size (fun _ => True) v3 x3_1) ∧ Aside0 (IsS109 w0 w' g s0_0 x1001_1 x1002_1) ∧ Aside0 (KeepBut w w' g none) ∧ Aside0 (Below w0.heap.size w0 w'))
 case atStart => exact ⟨(y341), (0), (s0_1), (s0_2), (by first | rfl | (simp; done) | (simp [*]; done)), H', ⟨Nat.le_refl _⟩, ⟨by (with_reducible repeat (first | apply Kd.R_alloc | apply Kd.R_drewN | apply Kd.R_drew)); exact HO343.out⟩, ⟨by repeat (first | (with_reducible first | exact HI0.out | apply IsS109.alloc | apply IsS109.drewN | apply IsS109.drew | apply IsS109.set_1 | apply IsS109.set_2) | exact HI0.out)⟩, ⟨by repeat (first | (with_reducible first | exact HK.out | apply KeepBut.set_ | apply keep_drewN | apply keep_drew | apply keep_alloc) | exact HK.out)⟩, ⟨by repeat (first | (with_reducible first | exact HB.out | apply below_alloc | apply pw_below_drewN | apply below_drew1 | refine below_set ?_ (IsS109.ge HI0.out)) | exact HB.out)⟩⟩
 case round =>
  clear H'
  try clear p2
  try clear c3
  obtain ⟨x3_1, x4_1, x1001_1, x1002_1, rfl, HA, HK1, HO_3, HI0, HK, HB⟩ := hrel
  cases gk with
  | zero => exact absurd HA.out (by simp [spec_l19Tree.l0])
  | succ k1 =>
   have H := HA.out
   clear HA
   simp only [spec_l19Tree.l0] at H
   replace H := Option.bind_eq_some_iff.mp H
   obtain ⟨⟨t344, t345, t346⟩, A40, H⟩ := H
   replace H : (if x4_1 < (wrap64 (3 + t344)) then ((spec_l01Below.f s0_0 t345 t346 (x3_1.length : Int)).bind fun bt347 => ((spec_l01Below.f s0_0 bt347.2.1 bt347.2.2 4).bind fun bt350 => ((spec_l01PickInt.f s0_0 bt350.2.1 bt350.2.2 (([0, 0, 1, 1, 2, 4] : List Int))).bind fun bt356 => ((some (([] : List (S50)) : List (S50))).bind fun y360 => (if y360.length + x3_1.length < 5864062014805 then ((some (y360 ++ x3_1 : List (S50))).bind fun y363 => ((some (([(⟨bt347.1, bt350.1, bt356.1⟩ : S50)] : List (S50)) : List (S50))).bind fun y366 => (if y363.length + y366.length < 5864062014805 then ((some (y363 ++ y366 : List (S50))).bind fun y369 => ((spec_TreeOk.f k1 y369).bind fun t372 => (if t372 = true then (spec_l19Tree.l0 k1 y369 (wrap64 (x4_1 + 1)) s0_0 bt356.2.1 bt356.2.2) else (spec_l19Tree.l0 k1 x3_1 (wrap64 (x4_1 + 1)) s0_0 bt356.2.1 bt356.2.2)))) else (none)))) else (none)))))) else (some (x3_1, t345, t346))) = some (r1, r2, r3) := H
   have A4 := Aside0.mk A40
   clear A40
   by_cases c5 : x4_1 < (wrap64 (3 + t344))
   ·rw [if_pos c5] at H
    have c5b0 : decide (x4_1 < (wrap64 (3 + t344))) = true := decide_eq_true c5
    clear c5
    replace H := Option.bind_eq_some_iff.mp H
    obtain ⟨⟨t347, t348, t349⟩, A60, H⟩ := H
    replace H : ((spec_l01Below.f s0_0 t348 t349 4).bind fun bt350 => ((spec_l01PickInt.f s0_0 bt350.2.1 bt350.2.2 (([0, 0, 1, 1, 2, 4] : List Int))).bind fun bt356 => ((some (([] : List (S50)) : List (S50))).bind fun y360 => (if y360.length + x3_1.length < 5864062014805 then ((some (y360 ++ x3_1 : List (S50))).bind fun y363 => ((some (([(⟨t347, bt350.1, bt356.1⟩ : S50)] : List (S50)) : List (S50))).bind fun y366 => (if y363.length + y366.length < 5864062014805 then ((some (y363 ++ y366 : List (S50))).bind fun y369 => ((spec_TreeOk.f k1 y369).bind fun t372 => (if t372 = true then (spec_l19Tree.l0 k1 y369 (wrap64 (x4_1 + 1)) s0_0 bt356.2.1 bt356.2.2) else (spec_l19Tree.l0 k1 x3_1 (wrap64 (x4_1 + 1)) s0_0 bt356.2.1 bt356.2.2)))) else (none)))) else (none))))) = some (r1, r2, r3) := H
    have A6 := Aside0.mk A60
    clear A60
    replace H := Option.bind_eq_some_iff.mp H
    obtain ⟨⟨t350, t351, t352⟩, A70, H⟩ := H
    replace H : ((spec_l01PickInt.f s0_0 t351 t352 (([0, 0, 1, 1, 2, 4] : List Int))).bind fun bt356 => ((some (([] : List (S50)) : List (S50))).bind fun y360 => (if y360.length + x3_1.length < 5864062014805 then ((some (y360 ++ x3_1 : List (S50))).bind fun y363 => ((some (([(⟨t347, t350, bt356.1⟩ : S50)] : List (S50)) : List (S50))).bind fun y366 => (if y363.length + y366.length < 5864062014805 then ((some (y363 ++ y366 : List (S50))).bind fun y369 => ((spec_TreeOk.f k1 y369).bind fun t372 => (if t372 = true then (spec_l19Tree.l0 k1 y369 (wrap64 (x4_1 + 1)) s0_0 bt356.2.1 bt356.2.2) else (spec_l19Tree.l0 k1 x3_1 (wrap64 (x4_1 + 1)) s0_0 bt356.2.1 bt356.2.2)))) else (none)))) else (none)))) = some (r1, r2, r3) := H
    have A7 := Aside0.mk A70
    clear A70
    obtain ⟨y353, hy353⟩ : ∃ y_ : List Int, y_ = (([0, 0, 1, 1, 2, 4] : List Int)) := ⟨_, rfl⟩
    replace H : ((spec_l01PickInt.f s0_0 t351 t352 y353).bind fun bt356 => ((some (([] : List (S50)) : List (S50))).bind fun y360 => (if y360.length + x3_1.length < 5864062014805 then ((some (y360 ++ x3_1 : List (S50))).bind fun y363 => ((some (([(⟨t347, t350, bt356.1⟩ : S50)] : List (S50)) : List (S50))).bind fun y366 => (if y363.length + y366.length < 5864062014805 then ((some (y363 ++ y366 : List (S50))).bind fun y369 => ((spec_TreeOk.f k1 y369).bind fun t372 => (if t372 = true then (spec_l19Tree.l0 k1 y369 (wrap64 (x4_1 + 1)) s0_0 bt356.2.1 bt356.2.2) else (spec_l19Tree.l0 k1 x3_1 (wrap64 (x4_1 + 1)) s0_0 bt356.2.1 bt356.2.2)))) else (none)))) else (none)))) = some (r1, r2, r3) := by first | (rw [hy353]; with_reducible exact H) | (have H2_ := (Option.bind_some _ _).symm.trans H; rw [hy353]; with_reducible exact H2_) | (have H2_ := (Option.bind_some _ _).symm.trans H; with_reducible exact H2_) | with_reducible exact H | (rw [hy353]; exact H) | exact H
    have Ny353 := Aside0.mk hy353
    clear hy353
    replace H := Option.bind_eq_some_iff.mp H
    obtain ⟨⟨t356, t357, t358⟩, A80, H⟩ := H
    replace H : ((some (([] : List (S50)) : List (S50))).bind fun y360 => (if y360.length + x3_1.length < 5864062014805 then ((some (y360 ++ x3_1 : List (S50))).bind fun y363 => ((some (([(⟨t347, t350, t356⟩ : S50)] : List (S50)) : List (S50))).bind fun y366 => (if y363.length + y366.length < 5864062014805 then ((some (y363 ++ y366 : List (S50))).bind fun y369 => ((spec_TreeOk.f k1 y369).bind fun t372 => (if t372 = true then (spec_l19Tree.l0 k1 y369 (wrap64 (x4_1 + 1)) s0_0 t357 t358) else (spec_l19Tree.l0 k1 x3_1 (wrap64 (x4_1 + 1)) s0_0 t357 t358)))) else (none)))) else (none))) = some (r1, r2, r3) := H
    have A8 := Aside0.mk A80
    clear A80
    obtain ⟨y360, hy360⟩ : ∃ y_ : List (S50), y_ = (([] : List (S50))) := ⟨_, rfl⟩
    replace H : (if y360.length + x3_1.length < 5864062014805 then ((some (y360 ++ x3_1 : List (S50))).bind fun y363 => ((some (([(⟨t347, t350, t356⟩ : S50)] : List (S50)) : List (S50))).bind fun y366 => (if y363.length + y366.length < 5864062014805 then ((some (y363 ++ y366 : List (S50))).bind fun y369 => ((spec_TreeOk.f k1 y369).bind fun t372 => (if t372 = true then (spec_l19Tree.l0 k1 y369 (wrap64 (x4_1 + 1)) s0_0 t357 t358) else (spec_l19Tree.l0 k1 x3_1 (wrap64 (x4_1 + 1)) s0_0 t357 t358)))) else (none)))) else (none)) = some (r1, r2, r3) := by first | (rw [hy360]; with_reducible exact H) | (have H2_ := (Option.bind_some _ _).symm.trans H; rw [hy360]; with_reducible exact H2_) | (have H2_ := (Option.bind_some _ _).symm.trans H; with_reducible exact H2_) | with_reducible exact H | (rw [hy360]; exact H) | exact H
    have Ny360 := Aside0.mk hy360
    clear hy360
    by_cases c9 : y360.length + x3_1.length < 5864062014805
    ·rw [if_pos c9] at H
     have LMc9 := Aside0.mk c9
     clear c9
     obtain ⟨y363, hy363⟩ : ∃ y_ : List (S50), y_ = (y360 ++ x3_1) := ⟨_, rfl⟩
     replace H : ((some (([(⟨t347, t350, t356⟩ : S50)] : List (S50)) : List (S50))).bind fun y366 => (if y363.length + y366.length < 5864062014805 then ((some (y363 ++ y366 : List (S50))).bind fun y369 => ((spec_TreeOk.f k1 y369).bind fun t372 => (if t372 = true then (spec_l19Tree.l0 k1 y369 (wrap64 (x4_1 + 1)) s0_0 t357 t358) else (spec_l19Tree.l0 k1 x3_1 (wrap64 (x4_1 + 1)) s0_0 t357 t358)))) else (none))) = some (r1, r2, r3) := by first | (rw [hy363]; with_reducible exact H) | (have H2_ := (Option.bind_some _ _).symm.trans H; rw [hy363]; with_reducible exact H2_) | (have H2_ := (Option.bind_some _ _).symm.trans H; with_reducible exact H2_) | with_reducible exact H | (rw [hy363]; exact H) | exact H
     have Ny363 := Aside0.mk hy363
     clear hy363
     obtain ⟨y366, hy366⟩ : ∃ y_ : List (S50), y_ = (([(⟨t347, t350, t356⟩ : S50)] : List (S50))) := ⟨_, rfl⟩
     replace H : (if y363.length + y366.length < 5864062014805 then ((some (y363 ++ y366 : List (S50))).bind fun y369 => ((spec_TreeOk.f k1 y369).bind fun t372 => (if t372 = true then (spec_l19Tree.l0 k1 y369 (wrap64 (x4_1 + 1)) s0_0 t357 t358) else (spec_l19Tree.l0 k1 x3_1 (wrap64 (x4_1 + 1)) s0_0 t357 t358)))) else (none)) = some (r1, r2, r3) := by first | (rw [hy366]; with_reducible exact H) | (have H2_ := (Option.bind_some _ _).symm.trans H; rw [hy366]; with_reducible exact H2_) | (have H2_ := (Option.bind_some _ _).symm.trans H; with_reducible exact H2_) | with_reducible exact H | (rw [hy366]; exact H) | exact H
     have Ny366 := Aside0.mk hy366
     clear hy366
     by_cases c10 : y363.length + y366.length < 5864062014805
     ·rw [if_pos c10] at H
      have LMc10 := Aside0.mk c10
      clear c10
      obtain ⟨y369, hy369⟩ : ∃ y_ : List (S50), y_ = (y363 ++ y366) := ⟨_, rfl⟩
      replace H : ((spec_TreeOk.f k1 y369).bind fun t372 => (if t372 = true then (spec_l19Tree.l0 k1 y369 (wrap64 (x4_1 + 1)) s0_0 t357 t358) else (spec_l19Tree.l0 k1 x3_1 (wrap64 (x4_1 + 1)) s0_0 t357 t358))) = some (r1, r2, r3) := by first | (rw [hy369]; with_reducible exact H) | (have H2_ := (Option.bind_some _ _).symm.trans H; rw [hy369]; with_reducible exact H2_) | (have H2_ := (Option.bind_some _ _).symm.trans H; with_reducible exact H2_) | with_reducible exact H | (rw [hy369]; exact H) | exact H
      have Ny369 := Aside0.mk hy369
      clear hy369
      replace H := Option.bind_eq_some_iff.mp H
      obtain ⟨t372, A110, H⟩ := H
      replace H : (if t372 = true then (spec_l19Tree.l0 k1 y369 (wrap64 (x4_1 + 1)) s0_0 t357 t358) else (spec_l19Tree.l0 k1 x3_1 (wrap64 (x4_1 + 1)) s0_0 t357 t358)) = some (r1, r2, r3) := H
      have A11 := Aside0.mk A110
      clear A110
      by_cases c12 : t372 = true
      ·subst c12
       have H1 : (spec_l19Tree.l0 k1 y369 (wrap64 (x4_1 + 1)) s0_0 t357 t358) = some (r1, r2, r3) := by rw [if_pos rfl] at H; exact H
       clear H
       have H := H1
       clear H1
       have H' := Aside0.mk H
       clear H
       try go_wp2_with (first | ((with_reducible refine gate_callee (f := 114) rfl ?_); refine goesL_ (some 11) rfl rfl Try.func114 (by kernel_rfl) rfl #[.pointer (some ⟨g, 0, none⟩), .int .i64 8] rfl ms ?_; (with_reducible refine (spec_l01Below.calls g s0_0 x1001_1 x1002_1 8 t344 t345 t346 w0 _ ?side1 ?side2 A4.out).mono ?_); (case side1 => repeat (first | (with_reducible first | exact HI0.out | apply IsS109.alloc | apply IsS109.drewN | apply IsS109.drew | apply IsS109.set_1 | apply IsS109.set_2) | exact HI0.out)); (case side2 => repeat (first | (with_reducible first | exact HB.out | apply below_alloc | apply pw_below_drewN | apply below_drew1 | refine below_set ?_ (IsS109.ge HI0.out)) | exact HB.out)); rintro e w13 ⟨rfl, hi, hb, hk⟩; refine ⟨_, rfl, ?_⟩; have t_ := fc4 (Kd.R_mono (Kd.R_keep (IsS109.apart (show IsS109 w0 _ g s0_0 x1001_1 x1002_1 from by repeat (first | (with_reducible first | exact HI0.out | apply IsS109.alloc | apply IsS109.drewN | apply IsS109.drew | apply IsS109.set_1 | apply IsS109.set_2) | exact HI0.out)) (ra HO_3.out) (by decide)) hk (fun _ h => h.2)) (fun _ h => h.1)) (KeepBut.trans (by repeat (first | (with_reducible first | exact HK.out | apply KeepBut.set_ | apply keep_drewN | apply keep_drew | apply keep_alloc) | exact HK.out)) hk (.inl rfl)) (hb) (hi); clear HO_3 HK HB HI0; obtain ⟨HO_3, HK, HB, HI0⟩ := t_; (try clear hb); (try clear hk); (try clear hi); obtain ⟨Ao14, co14, eo14⟩ := Kd.R_slice HO_3.out; subst eo14) | ((with_reducible refine gate_callee (f := 114) rfl ?_); refine goesL_ (some 19) rfl rfl Try.func114 (by kernel_rfl) rfl #[.pointer (some ⟨g, 0, none⟩), .int .i64 (x3_1.length : Int)] rfl ms ?_; (with_reducible refine (spec_l01Below.calls g s0_0 t345 t346 (x3_1.length : Int) t347 t348 t349 w0 _ ?side1 ?side2 A6.out).mono ?_); (case side1 => repeat (first | (with_reducible first | exact HI0.out | apply IsS109.alloc | apply IsS109.drewN | apply IsS109.drew | apply IsS109.set_1 | apply IsS109.set_2) | exact HI0.out)); (case side2 => repeat (first | (with_reducible first | exact HB.out | apply below_alloc | apply pw_below_drewN | apply below_drew1 | refine below_set ?_ (IsS109.ge HI0.out)) | exact HB.out)); rintro e w15 ⟨rfl, hi, hb, hk⟩; refine ⟨_, rfl, ?_⟩; have t_ := fc4 (Kd.R_mono (Kd.R_keep (IsS109.apart (show IsS109 w0 _ g s0_0 t345 t346 from by repeat (first | (with_reducible first | exact HI0.out | apply IsS109.alloc | apply IsS109.drewN | apply IsS109.drew | apply IsS109.set_1 | apply IsS109.set_2) | exact HI0.out)) (ra HO_3.out) (by decide)) hk (fun _ h => h.2)) (fun _ h => h.1)) (KeepBut.trans (by repeat (first | (with_reducible first | exact HK.out | apply KeepBut.set_ | apply keep_drewN | apply keep_drew | apply keep_alloc) | exact HK.out)) hk (.inl rfl)) (hb) (hi); clear HO_3 HK HB HI0; obtain ⟨HO_3, HK, HB, HI0⟩ := t_; (try clear hb); (try clear hk); (try clear hi)) | ((with_reducible refine gate_callee (f := 114) rfl ?_); refine goesL_ (some 21) rfl rfl Try.func114 (by kernel_rfl) rfl #[.pointer (some ⟨g, 0, none⟩), .int .i64 4] rfl ms ?_; (with_reducible refine (spec_l01Below.calls g s0_0 t348 t349 4 t350 t351 t352 w0 _ ?side1 ?side2 A7.out).mono ?_); (case side1 => repeat (first | (with_reducible first | exact HI0.out | apply IsS109.alloc | apply IsS109.drewN | apply IsS109.drew | apply IsS109.set_1 | apply IsS109.set_2) | exact HI0.out)); (case side2 => repeat (first | (with_reducible first | exact HB.out | apply below_alloc | apply pw_below_drewN | apply below_drew1 | refine below_set ?_ (IsS109.ge HI0.out)) | exact HB.out)); rintro e w16 ⟨rfl, hi, hb, hk⟩; refine ⟨_, rfl, ?_⟩; have t_ := fc4 (Kd.R_mono (Kd.R_keep (IsS109.apart (show IsS109 w0 _ g s0_0 t348 t349 from by repeat (first | (with_reducible first | exact HI0.out | apply IsS109.alloc | apply IsS109.drewN | apply IsS109.drew | apply IsS109.set_1 | apply IsS109.set_2) | exact HI0.out)) (ra HO_3.out) (by decide)) hk (fun _ h => h.2)) (fun _ h => h.1)) (KeepBut.trans (by repeat (first | (with_reducible first | exact HK.out | apply KeepBut.set_ | apply keep_drewN | apply keep_drew | apply keep_alloc) | exact HK.out)) hk (.inl rfl)) (hb) (hi); clear HO_3 HK HB HI0; obtain ⟨HO_3, HK, HB, HI0⟩ := t_; (try clear hb); (try clear hk); (try clear hi)) | ((with_reducible refine gate_dst (N := 23) rfl ?_); refine Kd.R_lit (Kd.int .i64) _ 3 ?hg (N := 23) ?hd (xs := ([0, 0, 1, 1, 2, 4] : List Int)) (inner := [.int .i64 0, .int .i64 0, .int .i64 1, .int .i64 1, .int .i64 2, .int .i64 4]) (ok := fun _ => True) (okp := fun _ => True) ?hr ?hp (fun _ hk => hk) trivial (Below.refl _ _) (Nat.le_refl _) (by simp) ?_; (case hd => rfl); (case hg => rfl); (case hr => first | (go_simp; done) | (go_simp; rfl)); (case hp => exact (Reps.one (show Kd.M (Kd.int .i64) _ _ _ 0 [.int .i64 0] from rfl) (Reps.one (show Kd.M (Kd.int .i64) _ _ _ 0 [.int .i64 0] from rfl) (Reps.one (show Kd.M (Kd.int .i64) _ _ _ 1 [.int .i64 1] from rfl) (Reps.one (show Kd.M (Kd.int .i64) _ _ _ 1 [.int .i64 1] from rfl) (Reps.one (show Kd.M (Kd.int .i64) _ _ _ 2 [.int .i64 2] from rfl) (Reps.one (show Kd.M (Kd.int .i64) _ _ _ 4 [.int .i64 4] from rfl) (Reps.none _ _)))))))); intro v354 w17 ho18 hb hg_ hnew_; clear hg_ hnew_; (first | rw [← Ny353.out] at ho18 | (simp only [Int.reduceToNat] at ho18; rw [← Ny353.out] at ho18)); have t_ := fc5 (Kd.R_below (ra HO_3.out) hb) (Kd.R_lower ho18 (keep_size (w := w) (g := g) (row := none) (by repeat (first | (with_reducible first | exact HK.out | apply KeepBut.set_ | apply keep_drewN | apply keep_drew | apply keep_alloc) | exact HK.out)))) (IsS109.below (by repeat (first | (with_reducible first | exact HI0.out | apply IsS109.alloc | apply IsS109.drewN | apply IsS109.drew | apply IsS109.set_1 | apply IsS109.set_2) | exact HI0.out)) hb) (KeepBut.trans (by repeat (first | (with_reducible first | exact HK.out | apply KeepBut.set_ | apply keep_drewN | apply keep_drew | apply keep_alloc) | exact HK.out)) (KeepBut.of_below hb g none) (.inl rfl)) (below_step (by repeat (first | (with_reducible first | exact HB.out | apply below_alloc | apply pw_below_drewN | apply below_drew1 | refine below_set ?_ (IsS109.ge HI0.out)) | exact HB.out)) hb); clear HO_3 HI0 HK HB; obtain ⟨HO_3, HO355, HI0, HK, HB⟩ := t_; clear hb ho18; obtain ⟨Ao19, co19, eo19⟩ := Kd.R_slice HO355.out; subst eo19) | ((with_reducible refine gate_callee (f := 124) rfl ?_); refine goesL_ (some 24) rfl rfl Try.func124 (by kernel_rfl) rfl #[.pointer (some ⟨g, 0, none⟩), .slice Ao19 y353.length co19] rfl ms ?_; (with_reducible refine (spec_l01PickInt.calls g s0_0 t351 t352 _ _ y353 t356 t357 t358 w0 _ ?side1 ?side2 ?side3 ?side4 ?side5 A8.out).mono ?_); (case side1 => repeat (first | (with_reducible first | exact HI0.out | apply IsS109.alloc | apply IsS109.drewN | apply IsS109.drew | apply IsS109.set_1 | apply IsS109.set_2) | exact HI0.out)); (case side2 => repeat (first | (with_reducible first | exact HB.out | apply below_alloc | apply pw_below_drewN | apply below_drew1 | refine below_set ?_ (IsS109.ge HI0.out)) | exact HB.out)); (case side3 => repeat (first | exact (Kd.R_reads' HO355.out).2.2 | (with_reducible refine Kd.C_alloc ?_ _) | (with_reducible refine Kd.C_drewN ?_ _) | (with_reducible refine Kd.C_drew ?_))); (case side4 => exact (Kd.R_reads' HO355.out).2.1); (case side5 => exact far_slice (IsS109.own_ne HI0.out HO355.out (by decide))); rintro e w20 ⟨rfl, hi, hb, hk⟩; refine ⟨_, rfl, ?_⟩; have t_ := fc5 (Kd.R_mono (Kd.R_keep (IsS109.apart (show IsS109 w0 _ g s0_0 t351 t352 from by repeat (first | (with_reducible first | exact HI0.out | apply IsS109.alloc | apply IsS109.drewN | apply IsS109.drew | apply IsS109.set_1 | apply IsS109.set_2) | exact HI0.out)) (ra HO_3.out) (by decide)) hk (fun _ h => h.2)) (fun _ h => h.1)) (Kd.R_mono (Kd.R_keep (IsS109.apart (show IsS109 w0 _ g s0_0 t351 t352 from by repeat (first | (with_reducible first | exact HI0.out | apply IsS109.alloc | apply IsS109.drewN | apply IsS109.drew | apply IsS109.set_1 | apply IsS109.set_2) | exact HI0.out)) (ra HO355.out) (by decide)) hk (fun _ h => h.2)) (fun _ h => h.1)) (KeepBut.trans (by repeat (first | (with_reducible first | exact HK.out | apply KeepBut.set_ | apply keep_drewN | apply keep_drew | apply keep_alloc) | exact HK.out)) hk (.inl rfl)) (hb) (hi); clear HO_3 HO355 HK HB HI0; obtain ⟨HO_3, HO355, HK, HB, HI0⟩ := t_; (try clear hb); (try clear hk); (try clear hi)) | ((with_reducible refine gate_dst (N := 5) rfl ?_); refine box_event ?hg (N := 5) ?hd (cs := #[.int .i64 0, .int .i64 0, .int .i64 0]) (t := 50) ?hr ?_; (case hd => rfl); (case hg => rfl); (case hr => first | (go_simp; done) | (go_simp; rfl)); intro gb359 hg w21 hbox hb; have t_ := fc10 (Kd.R_below (Kd.R_elderB (ra HO_3.out) gb359 (Nat.le_of_eq hg.symm)) hb) (Kd.R_below (ra HO355.out) hb) (IsS109.below (by repeat (first | (with_reducible first | exact HI0.out | apply IsS109.alloc | apply IsS109.drewN | apply IsS109.drew | apply IsS109.set_1 | apply IsS109.set_2) | exact HI0.out)) hb) (KeepBut.trans (by repeat (first | (with_reducible first | exact HK.out | apply KeepBut.set_ | apply keep_drewN | apply keep_drew | apply keep_alloc) | exact HK.out)) (KeepBut.of_below hb g none) (.inl rfl)) (below_step (by repeat (first | (with_reducible first | exact HB.out | apply below_alloc | apply pw_below_drewN | apply below_drew1 | refine below_set ?_ (IsS109.ge HI0.out)) | exact HB.out)) hb) (hbox) ((by rw [hg]; exact (keep_size (w := w) (g := g) (row := none) (by repeat (first | (with_reducible first | exact HK.out | apply KeepBut.set_ | apply keep_drewN | apply keep_drew | apply keep_alloc) | exact HK.out))) : w.heap.size ≤ gb359)) ((Nat.le_trans HW0.out (by rw [hg]; exact (keep_size (w := w) (g := g) (row := none) (by repeat (first | (with_reducible first | exact HK.out | apply KeepBut.set_ | apply keep_drewN | apply keep_drew | apply keep_alloc) | exact HK.out))) : w.heap.size ≤ gb359) : w0.heap.size ≤ gb359)) ((by rw [hg]; exact Nat.ne_of_lt (IsS109.lt (show IsS109 w0 _ g s0_0 t357 t358 from by repeat (first | (with_reducible first | exact HI0.out | apply IsS109.alloc | apply IsS109.drewN | apply IsS109.drew | apply IsS109.set_1 | apply IsS109.set_2) | exact HI0.out))) : g ≠ gb359)) ((by rw [hg]; exact Nat.ne_of_gt (IsS109.lt (show IsS109 w0 _ g s0_0 t357 t358 from by repeat (first | (with_reducible first | exact HI0.out | apply IsS109.alloc | apply IsS109.drewN | apply IsS109.drew | apply IsS109.set_1 | apply IsS109.set_2) | exact HI0.out))) : gb359 ≠ g)); clear HO_3 HO355 HI0 HK HB; obtain ⟨HO_3, HO355, HI0, HK, HB, BK359, GW359, GE359, NB0_359, NB359_0⟩ := t_; clear hb hbox hg; have hnb22 := NB359_0.out; have hnc22 := NB0_359.out; obtain ⟨hcz23_0, hcz23_1, hcz23_2, hfz23_0, hfz23_1, hfz23_2⟩ := bx3 BK359.out))
       have n0_ : Aside0 (Kd.R k50 50 (((w21.setCell ⟨gb359, 0, none⟩ (.int .i64 t347)).setCell ⟨gb359, 1, none⟩ (.int .i64 t350)).setCell ⟨gb359, 2, none⟩ (.int .i64 t356)) w.heap.size (fun k_ => k_ ≠ gb359) (.slice Ao14 x3_1.length co14) x3_1) := ⟨by (with_reducible repeat (first | apply Kd.R_alloc | apply Kd.R_drewN | apply Kd.R_drew)); exact Kd.R_mono (Kd.R_far (p := ⟨gb359, 2, none⟩) (Kd.R_far (p := ⟨gb359, 1, none⟩) (Kd.R_far (p := ⟨gb359, 0, none⟩) (Kd.R_mono HO_3.out (fun k_ hk => (⟨hk, hk.2⟩ : _ ∧ k_ ≠ gb359))) fk (.int .i64 t347)) fk (.int .i64 t350)) fk (.int .i64 t356)) (fun _ hk => by first | exact hk.1.2 | exact hk)⟩
       have n1_ : Aside0 (Kd.R (Kd.int .i64) 3 (((w21.setCell ⟨gb359, 0, none⟩ (.int .i64 t347)).setCell ⟨gb359, 1, none⟩ (.int .i64 t350)).setCell ⟨gb359, 2, none⟩ (.int .i64 t356)) w.heap.size (fun _ => True) (.slice Ao19 y353.length co19) y353) := ⟨by (with_reducible repeat (first | apply Kd.R_alloc | apply Kd.R_drewN | apply Kd.R_drew)); exact Kd.R_mono (Kd.R_far (p := ⟨gb359, 2, none⟩) (Kd.R_far (p := ⟨gb359, 1, none⟩) (Kd.R_far (p := ⟨gb359, 0, none⟩) (Kd.R_types HO355.out BK359.out (by decide)) fk (.int .i64 t347)) fk (.int .i64 t350)) fk (.int .i64 t356)) (fun _ hk => trivial)⟩
       have n2_ : Aside0 ((((w21.setCell ⟨gb359, 0, none⟩ (.int .i64 t347)).setCell ⟨gb359, 1, none⟩ (.int .i64 t350)).setCell ⟨gb359, 2, none⟩ (.int .i64 t356)).heap[gb359]? = some (.cells #[.int .i64 t347, .int .i64 t350, .int .i64 t356] 50 (0, 0))) := ⟨by (with_reducible repeat (first | refine blk_drewN ?_ _ | refine blk_drew ?_ | refine blk_alloc ?_ _)); refine blk_put (cs := #[.int .i64 t347, .int .i64 t350, .int .i64 0]) ?_ 2 _ rfl; (with_reducible repeat (first | refine blk_drewN ?_ _ | refine blk_drew ?_ | refine blk_alloc ?_ _)); refine blk_put (cs := #[.int .i64 t347, .int .i64 0, .int .i64 0]) ?_ 1 _ rfl; (with_reducible repeat (first | refine blk_drewN ?_ _ | refine blk_drew ?_ | refine blk_alloc ?_ _)); refine blk_put (cs := #[.int .i64 0, .int .i64 0, .int .i64 0]) ?_ 0 _ rfl; exact bk⟩
       have n3_ : Aside0 (IsS109 w0 (((w21.setCell ⟨gb359, 0, none⟩ (.int .i64 t347)).setCell ⟨gb359, 1, none⟩ (.int .i64 t350)).setCell ⟨gb359, 2, none⟩ (.int .i64 t356)) g s0_0 t357 t358) := ⟨by repeat (first | (with_reducible first | exact HI0.out | apply IsS109.alloc | apply IsS109.drewN | apply IsS109.drew | apply IsS109.set_1 | apply IsS109.set_2 | refine IsS109.far ?_ NB0_359.out _) | exact HI0.out)⟩
       have n4_ : Aside0 (KeepBut w (((w21.setCell ⟨gb359, 0, none⟩ (.int .i64 t347)).setCell ⟨gb359, 1, none⟩ (.int .i64 t350)).setCell ⟨gb359, 2, none⟩ (.int .i64 t356)) g none) := ⟨by repeat (first | (with_reducible first | exact HK.out | apply KeepBut.set_ | apply keep_drewN | apply keep_drew | apply keep_alloc | refine keep_far ?_ GW359.out _) | exact HK.out)⟩
       have n5_ : Aside0 (Below w0.heap.size w0 (((w21.setCell ⟨gb359, 0, none⟩ (.int .i64 t347)).setCell ⟨gb359, 1, none⟩ (.int .i64 t350)).setCell ⟨gb359, 2, none⟩ (.int .i64 t356))) := ⟨by repeat (first | (with_reducible first | exact HB.out | apply below_alloc | apply pw_below_drewN | apply below_drew1 | refine below_set ?_ (IsS109.ge HI0.out) | refine below_set ?_ GE359.out) | exact HB.out)⟩
       (try clear HO_3)
       (try clear HO355)
       (try clear BK359)
       (try clear HI0)
       (try clear HK)
       (try clear HB)
       generalize (((w21.setCell ⟨gb359, 0, none⟩ (.int .i64 t347)).setCell ⟨gb359, 1, none⟩ (.int .i64 t350)).setCell ⟨gb359, 2, none⟩ (.int .i64 t356)) = w24 at n0_ n1_ n2_ n3_ n4_ n5_ ⊢
       have HO_3 := n0_
       have HO355 := n1_
       have BK359 := n2_
       have HI0 := n3_
       have HK := n4_
       have HB := n5_
       clear n0_ n1_ n2_ n3_ n4_ n5_
       have t_ := fc6 (Kd.R_drew HO_3.out) (Kd.R_drew HO355.out) (blk_drew BK359.out) (IsS109.drew HI0.out) (keep_drew HK.out) (below_drew1 HB.out)
       clear HO_3 HO355 BK359 HI0 HK HB
       obtain ⟨HO_3, HO355, BK359, HI0, HK, HB⟩ := t_
       refine start_ (n := 7) (S := fun w' => w'.cell? ⟨gb359, 0, none⟩ = some (.int .i64 t347) ∧ w'.cell? ⟨gb359, 1, none⟩ = some (.int .i64 t350) ∧ w'.cell? ⟨gb359, 2, none⟩ = some (.int .i64 t356)) (ds := []) #[false, false, false, false, false, false, false] (by kernel_rfl) rfl rfl ⟨(blk_cell BK359.out 0).trans rfl, (blk_cell BK359.out 1).trans rfl, (blk_cell BK359.out 2).trans rfl⟩ (fun hHeld => ?_)
       generalize w24.drew = w25 at HO_3 HO355 BK359 HI0 HK HB hHeld ⊢
       refine pure_ (i := 1) (N := some 27) (v := ?_) (a' := ?_) #[false, true, false, false, false, false, false] rfl rfl (by kernel_rfl) (fun _ _ _ h => h) (Or.inl ⟨by rfl, ?_⟩) ?_ ?_
       rotate_left
       ·intro w'
        go_simp
        with_reducible rfl
       rotate_left
       ·simp only [Act.put, List.setIfInBounds_toArray, List.set_cons_zero, List.set_cons_succ, i64_w, i32_w]
        rfl
       refine take_ (i := 3) (N := some 29) (v := ?_) (a' := ?_) #[false, true, false, true, false, false, false] rfl rfl (by kernel_rfl) (fun _ _ _ h => h) (Or.inl ⟨by rfl, ?_⟩) hHeld ?_ ?_
       rotate_left
       ·rintro w' ⟨s0, s1, s2⟩
        go_simp
        with_reducible rfl
       rotate_left
       ·simp only [Act.put, List.setIfInBounds_toArray, List.set_cons_zero, List.set_cons_succ, i64_w, i32_w]
        rfl
       refine join_ (σ := Value × Value × Value) 2 #[true, true, true, true, true, false, false] (fun s_ => [(26, s_.1), (28, s_.2.1), (30, s_.2.2)]) (fun s_ w' => (w'.cell? ⟨gb359, 0, none⟩ = some (.int .i64 t347) ∧ w'.cell? ⟨gb359, 1, none⟩ = some (.int .i64 t350) ∧ w'.cell? ⟨gb359, 2, none⟩ = some (.int .i64 t356)) ∧ (Kd.R (Kd.int .i64) 3 w' w.heap.size (fun _ => True) (.slice Ao19 y353.length co19) y353) ∧ (Kd.R k50 50 w' w.heap.size (fun k_ => some k_ ≠ (s_.2.2 : Value).ownBlock ∧ some k_ ≠ (.slice Ao14 x3_1.length co14 : Value).ownBlock ∧ k_ ≠ gb359) s_.2.1 y363) ∧ (Kd.R k50 50 w' w.heap.size (fun k_ => some k_ ≠ (s_.2.1 : Value).ownBlock ∧ some k_ ≠ (.slice Ao14 x3_1.length co14 : Value).ownBlock ∧ k_ ≠ gb359) s_.2.2 y366) ∧ (Kd.R k50 50 w' w.heap.size (fun k_ => some k_ ≠ (s_.2.1 : Value).ownBlock ∧ some k_ ≠ (s_.2.2 : Value).ownBlock ∧ k_ ≠ gb359) (.slice Ao14 x3_1.length co14) x3_1) ∧ (w'.heap[gb359]? = some (.cells #[.int .i64 t347, .int .i64 t350, .int .i64 t356] 50 (0, 0))) ∧ (IsS109 w0 w' g s0_0 t357 t358) ∧ (KeepBut w w' g none) ∧ (Below w0.heap.size w0 w')) ?_ ?_
       rotate_left
       ·intro hCont
        refine two_ (i := 0) (j := 4) (Ni := some 26) (Nj := some 30) #[true, true, false, true, false, false, false] #[false, true, false, true, true, false, false] rfl rfl rfl rfl (by kernel_rfl) (by decide) (by decide) (fun K hK => ?_) (fun K hK => ?_)
        ·skip
         refine Kd.R_lit_step k50 _ 50 ?hg (N := 26) ?hd (xs := ([] : List (S50))) (inner := []) (ok := fun _ => True) (okp := fun _ => True) ?hr ?hp (fun _ hk => hk) trivial (Below.refl _ _) (Nat.le_refl _) (by simp) ?_; (case hd => rfl); (case hg => rfl); (case hr => first | (go_simp; done) | (go_simp; rfl)); (case hp => exact (Reps.none _ _))
         intro v361 w26 ho27 hb hg_ hnew_
         clear hg_ hnew_
         (first | rw [← Ny360.out] at ho27 | (simp only [Int.reduceToNat] at ho27; rw [← Ny360.out] at ho27))
         have t_ := fc7 (Kd.R_elder' (ra HO_3.out) (Kd.R_base ho27) hb) (Kd.R_below (ra HO355.out) hb) (Kd.R_lower (Kd.R_newB (Kd.R_new' ho27 (Kd.R_lt (ra HO_3.out))) (g := gb359) (o := .cells #[.int .i64 t347, .int .i64 t350, .int .i64 t356] 50 (0, 0)) bk) (keep_size (w := w) (g := g) (row := none) (by repeat (first | (with_reducible first | exact HK.out | apply KeepBut.set_ | apply keep_drewN | apply keep_drew | apply keep_alloc | refine keep_far ?_ GW359.out _) | exact HK.out)))) (IsS109.below (by repeat (first | (with_reducible first | exact HI0.out | apply IsS109.alloc | apply IsS109.drewN | apply IsS109.drew | apply IsS109.set_1 | apply IsS109.set_2 | refine IsS109.far ?_ NB0_359.out _) | exact HI0.out)) hb) (bw BK359 hb) (KeepBut.trans (by repeat (first | (with_reducible first | exact HK.out | apply KeepBut.set_ | apply keep_drewN | apply keep_drew | apply keep_alloc | refine keep_far ?_ GW359.out _) | exact HK.out)) (KeepBut.of_below hb g none) (.inl rfl)) (below_step (by repeat (first | (with_reducible first | exact HB.out | apply below_alloc | apply pw_below_drewN | apply below_drew1 | refine below_set ?_ (IsS109.ge HI0.out) | refine below_set ?_ GE359.out) | exact HB.out)) hb)
         clear HO_3 HO355 HI0 BK359 HK HB
         obtain ⟨HO_3, HO355, HO362, HI0, BK359, HK, HB⟩ := t_
         clear hb ho27
         refine hK.out _ _ ⟨(blk_cell BK359.out 0).trans rfl, (blk_cell BK359.out 1).trans rfl, (blk_cell BK359.out 2).trans rfl⟩ (fun hHeld => ?_)
         clear hK K
         refine norm_ (a' := ?_) ?_ ?_
         rotate_left
         ·show Act.put _ (some 26) _ = _
          simp only [Act.put, List.setIfInBounds_toArray, List.set_cons_zero, List.set_cons_succ, i64_w, i32_w]
          rfl
         refine two_ (i := 2) (j := 4) (Ni := some 28) (Nj := some 30) #[true, true, true, true, false, false, false] #[true, true, false, true, true, false, false] rfl rfl rfl rfl (by kernel_rfl) (by decide) (by decide) (fun K hK => ?_) (fun K hK => ?_)
         ·skip
          refine Kd.R_append_rows_step k50 w.heap.size (by rfl) (.tmp 26) (.tmp 27) 29 50 (.agg #[(.int .i64 0), (.int .i64 0), (.int .i64 0)]) 24 rfl Try.underlying29 info50 rfl (by decide) (by omega) v361 y360 x3_1 _ _ _ (fun k_ => some k_ ≠ (.slice Ao14 x3_1.length co14 : Value).ownBlock ∧ k_ ≠ gb359) (fun _ => False) rfl rfl ?aO ?aR (fun _ _ h => h) (fun _ h => h.elim) ?aF (Below.refl _ _) ?aS ?aL ?_
          (case aR => repeat (first | exact (Kd.R_reads' HO_3.out).2.2 | (with_reducible refine Kd.C_alloc ?_ _) | (with_reducible refine Kd.C_drewN ?_ _) | (with_reducible refine Kd.C_drew ?_)))
          (case aF => exact (fun k_ hk => ⟨Kd.fresh' (Kd.R_lt (ra HO_3.out)) k_ hk, Kd.freshB (g := gb359) (o := .cells #[.int .i64 t347, .int .i64 t350, .int .i64 t356] 50 (0, 0)) bk k_ hk⟩))
          (case aO => exact (ra (Kd.R_mono HO362.out (fun _ hk => (And.intro (hk.1.2) (hk.2))))))
          (case aS => exact (keep_size (w := w) (g := g) (row := none) (by repeat (first | (with_reducible first | exact HK.out | apply KeepBut.set_ | apply keep_drewN | apply keep_drew | apply keep_alloc | refine keep_far ?_ GW359.out _) | exact HK.out))))
          (case aL => have := LMc9.out; omega)
          intro v364 w28 ho hb hg hat
          rw [← Ny363.out] at ho
          have t_ := fc7 (Kd.R_after (ok := (fun k_ => k_ ≠ gb359)) (ra HO_3.out) hg hat) (IsS109.grown (by repeat (first | (with_reducible first | exact HI0.out | apply IsS109.alloc | apply IsS109.drewN | apply IsS109.drew | apply IsS109.set_1 | apply IsS109.set_2 | refine IsS109.far ?_ NB0_359.out _) | exact HI0.out)) hg (IsS109.own_ne HI0.out HO362.out (by decide))) (Kd.R_over' (ra HO355.out) (Kd.R_typed (ra HO362.out)) (by decide) hg) (blk_grown (g := gb359) (o := .cells #[.int .i64 t347, .int .i64 t350, .int .i64 t356] 50 (0, 0)) bk hg (Kd.R_away HO362.out fk)) (below_weaken (by repeat (first | (with_reducible first | exact HB.out | apply below_alloc | apply pw_below_drewN | apply below_drew1 | refine below_set ?_ (IsS109.ge HI0.out) | refine below_set ?_ GE359.out) | exact HB.out)) HL.out hb) (KeepBut.trans (by repeat (first | (with_reducible first | exact HK.out | apply KeepBut.set_ | apply keep_drewN | apply keep_drew | apply keep_alloc | refine keep_far ?_ GW359.out _) | exact HK.out)) (KeepBut.of_grown hg g) (Kd.R_base2 HO362.out)) (ho)
          clear HO_3 HI0 HO355 BK359 HB HK HO362
          obtain ⟨HO_3, HI0, HO355, BK359, HB, HK, HO365⟩ := t_
          clear ho hb hg hat
          refine hK.out _ _ ⟨(blk_cell BK359.out 0).trans rfl, (blk_cell BK359.out 1).trans rfl, (blk_cell BK359.out 2).trans rfl⟩ (fun hHeld => ?_)
          clear hK K
          refine norm_ (a' := ?_) ?_ ?_
          rotate_left
          ·show Act.put _ (some 28) _ = _
           simp only [Act.put, List.setIfInBounds_toArray, List.set_cons_zero, List.set_cons_succ, i64_w, i32_w]
           rfl
          refine one_ (i := 4) (N := some 30) #[true, true, true, true, true, false, false] rfl rfl (by kernel_rfl) (by decide) (fun K hK => ?_)
          refine Kd.R_lit_step k50 _ 50 ?hg (N := 30) ?hd (xs := ([(⟨t347, t350, t356⟩ : S50)] : List (S50))) (inner := [.int .i64 t347, .int .i64 t350, .int .i64 t356]) (ok := fun _ => True) (okp := fun _ => True) ?hr ?hp (fun _ hk => hk) trivial (Below.refl _ _) (Nat.le_refl _) (by simp) ?_; (case hd => rfl); (case hg => rfl); (case hr => first | (go_simp; done) | (go_simp; rfl)); (case hp => exact (Reps.c3 (show Kd.M k50 _ _ _ (⟨t347, t350, t356⟩ : S50) [.int .i64 t347, .int .i64 t350, .int .i64 t356] from (k50_mkM _ _ _ (⟨t347, t350, t356⟩ : S50) )) (Reps.none _ _)))
          intro v367 w29 ho30 hb hg_ hnew_
          clear hg_ hnew_
          (first | rw [← Ny366.out] at ho30 | (simp only [Int.reduceToNat] at ho30; rw [← Ny366.out] at ho30))
          have t_ := fc8 (Kd.R_elder' (ra HO_3.out) (Kd.R_base ho30) hb) (Kd.R_below (ra HO355.out) hb) (Kd.R_elder' (ra HO365.out) (Kd.R_base ho30) hb) (Kd.R_lower (Kd.R_newB (Kd.R_new' (Kd.R_new' ho30 (Kd.R_lt (ra HO_3.out))) (Kd.R_lt (ra HO365.out))) (g := gb359) (o := .cells #[.int .i64 t347, .int .i64 t350, .int .i64 t356] 50 (0, 0)) bk) (keep_size (w := w) (g := g) (row := none) (by repeat (first | (with_reducible first | exact HK.out | apply KeepBut.set_ | apply keep_drewN | apply keep_drew | apply keep_alloc | refine keep_far ?_ GW359.out _) | exact HK.out)))) (IsS109.below (by repeat (first | (with_reducible first | exact HI0.out | apply IsS109.alloc | apply IsS109.drewN | apply IsS109.drew | apply IsS109.set_1 | apply IsS109.set_2 | refine IsS109.far ?_ NB0_359.out _) | exact HI0.out)) hb) (bw BK359 hb) (KeepBut.trans (by repeat (first | (with_reducible first | exact HK.out | apply KeepBut.set_ | apply keep_drewN | apply keep_drew | apply keep_alloc | refine keep_far ?_ GW359.out _) | exact HK.out)) (KeepBut.of_below hb g none) (.inl rfl)) (below_step (by repeat (first | (with_reducible first | exact HB.out | apply below_alloc | apply pw_below_drewN | apply below_drew1 | refine below_set ?_ (IsS109.ge HI0.out) | refine below_set ?_ GE359.out) | exact HB.out)) hb)
          clear HO_3 HO355 HO365 HI0 BK359 HK HB
          obtain ⟨HO_3, HO355, HO365, HO368, HI0, BK359, HK, HB⟩ := t_
          clear hb ho30
          refine hK.out _ _ ⟨(blk_cell BK359.out 0).trans rfl, (blk_cell BK359.out 1).trans rfl, (blk_cell BK359.out 2).trans rfl⟩ (fun hHeld => ?_)
          clear hK K
          refine norm_ (a' := ?_) ?_ ?_
          rotate_left
          ·show Act.put _ (some 30) _ = _
           simp only [Act.put, List.setIfInBounds_toArray, List.set_cons_zero, List.set_cons_succ, i64_w, i32_w]
           rfl
          exact norm_ (by simp only [putAll, Act.put, List.setIfInBounds_toArray, List.set_cons_zero, List.set_cons_succ]) (hCont (v361, v364, v367) _ ⟨hHeld, (ra HO355.out), (ra (Kd.R_mono HO365.out (fun _ hk => (And.intro (hk.2) ((And.intro (hk.1.1) (hk.1.2))))))), (ra (Kd.R_mono HO368.out (fun _ hk => (And.intro (hk.1.2) ((And.intro (hk.1.1.2) (hk.2))))))), (ra (Kd.R_mono HO_3.out (fun _ hk => (And.intro (hk.1.2) ((And.intro (hk.2) (hk.1.1))))))), bk, (by repeat (first | (with_reducible first | exact HI0.out | apply IsS109.alloc | apply IsS109.drewN | apply IsS109.drew | apply IsS109.set_1 | apply IsS109.set_2 | refine IsS109.far ?_ NB0_359.out _) | exact HI0.out)), (by repeat (first | (with_reducible first | exact HK.out | apply KeepBut.set_ | apply keep_drewN | apply keep_drew | apply keep_alloc | refine keep_far ?_ GW359.out _) | exact HK.out)), (by repeat (first | (with_reducible first | exact HB.out | apply below_alloc | apply pw_below_drewN | apply below_drew1 | refine below_set ?_ (IsS109.ge HI0.out) | refine below_set ?_ GE359.out) | exact HB.out))⟩)
         ·skip
          refine Kd.R_lit_step k50 _ 50 ?hg (N := 30) ?hd (xs := ([(⟨t347, t350, t356⟩ : S50)] : List (S50))) (inner := [.int .i64 t347, .int .i64 t350, .int .i64 t356]) (ok := fun _ => True) (okp := fun _ => True) ?hr ?hp (fun _ hk => hk) trivial (Below.refl _ _) (Nat.le_refl _) (by simp) ?_; (case hd => rfl); (case hg => rfl); (case hr => first | (go_simp; done) | (go_simp; rfl)); (case hp => exact (Reps.c3 (show Kd.M k50 _ _ _ (⟨t347, t350, t356⟩ : S50) [.int .i64 t347, .int .i64 t350, .int .i64 t356] from (k50_mkM _ _ _ (⟨t347, t350, t356⟩ : S50) )) (Reps.none _ _)))
          intro v367 w28 ho29 hb hg_ hnew_
          clear hg_ hnew_
          (first | rw [← Ny366.out] at ho29 | (simp only [Int.reduceToNat] at ho29; rw [← Ny366.out] at ho29))
          have t_ := fc8 (Kd.R_elder' (ra HO_3.out) (Kd.R_base ho29) hb) (Kd.R_below (ra HO355.out) hb) (Kd.R_elder' (ra HO362.out) (Kd.R_base ho29) hb) (Kd.R_lower (Kd.R_newB (Kd.R_new' (Kd.R_new' ho29 (Kd.R_lt (ra HO_3.out))) (Kd.R_lt (ra HO362.out))) (g := gb359) (o := .cells #[.int .i64 t347, .int .i64 t350, .int .i64 t356] 50 (0, 0)) bk) (keep_size (w := w) (g := g) (row := none) (by repeat (first | (with_reducible first | exact HK.out | apply KeepBut.set_ | apply keep_drewN | apply keep_drew | apply keep_alloc | refine keep_far ?_ GW359.out _) | exact HK.out)))) (IsS109.below (by repeat (first | (with_reducible first | exact HI0.out | apply IsS109.alloc | apply IsS109.drewN | apply IsS109.drew | apply IsS109.set_1 | apply IsS109.set_2 | refine IsS109.far ?_ NB0_359.out _) | exact HI0.out)) hb) (bw BK359 hb) (KeepBut.trans (by repeat (first | (with_reducible first | exact HK.out | apply KeepBut.set_ | apply keep_drewN | apply keep_drew | apply keep_alloc | refine keep_far ?_ GW359.out _) | exact HK.out)) (KeepBut.of_below hb g none) (.inl rfl)) (below_step (by repeat (first | (with_reducible first | exact HB.out | apply below_alloc | apply pw_below_drewN | apply below_drew1 | refine below_set ?_ (IsS109.ge HI0.out) | refine below_set ?_ GE359.out) | exact HB.out)) hb)
          clear HO_3 HO355 HO362 HI0 BK359 HK HB
          obtain ⟨HO_3, HO355, HO362, HO368, HI0, BK359, HK, HB⟩ := t_
          clear hb ho29
          refine hK.out _ _ ⟨(blk_cell BK359.out 0).trans rfl, (blk_cell BK359.out 1).trans rfl, (blk_cell BK359.out 2).trans rfl⟩ (fun hHeld => ?_)
          clear hK K
          refine norm_ (a' := ?_) ?_ ?_
          rotate_left
          ·show Act.put _ (some 30) _ = _
           simp only [Act.put, List.setIfInBounds_toArray, List.set_cons_zero, List.set_cons_succ, i64_w, i32_w]
           rfl
          refine one_ (i := 2) (N := some 28) #[true, true, true, true, true, false, false] rfl rfl (by kernel_rfl) (by decide) (fun K hK => ?_)
          refine Kd.R_append_rows_step k50 w.heap.size (by rfl) (.tmp 26) (.tmp 27) 29 50 (.agg #[(.int .i64 0), (.int .i64 0), (.int .i64 0)]) 24 rfl Try.underlying29 info50 rfl (by decide) (by omega) v361 y360 x3_1 _ _ _ (fun k_ => some k_ ≠ (.slice Ao14 x3_1.length co14 : Value).ownBlock ∧ some k_ ≠ (v367 : Value).ownBlock ∧ k_ ≠ gb359) (fun _ => False) rfl rfl ?aO ?aR (fun _ _ h => h) (fun _ h => h.elim) ?aF (Below.refl _ _) ?aS ?aL ?_
          (case aR => repeat (first | exact (Kd.R_reads' HO_3.out).2.2 | (with_reducible refine Kd.C_alloc ?_ _) | (with_reducible refine Kd.C_drewN ?_ _) | (with_reducible refine Kd.C_drew ?_)))
          (case aF => exact (fun k_ hk => ⟨Kd.fresh' (Kd.R_lt (ra HO_3.out)) k_ hk, Kd.fresh' (Kd.R_lt (ra HO368.out)) k_ hk, Kd.freshB (g := gb359) (o := .cells #[.int .i64 t347, .int .i64 t350, .int .i64 t356] 50 (0, 0)) bk k_ hk⟩))
          (case aO => exact (ra (Kd.R_mono HO362.out (fun _ hk => (And.intro (hk.1.1.2) ((And.intro (hk.2) (hk.1.2))))))))
          (case aS => exact (keep_size (w := w) (g := g) (row := none) (by repeat (first | (with_reducible first | exact HK.out | apply KeepBut.set_ | apply keep_drewN | apply keep_drew | apply keep_alloc | refine keep_far ?_ GW359.out _) | exact HK.out))))
          (case aL => have := LMc9.out; omega)
          intro v364 w30 ho hb hg hat
          rw [← Ny363.out] at ho
          have t_ := fc8 (Kd.R_after (ok := (fun k_ => some k_ ≠ (v367 : Value).ownBlock ∧ k_ ≠ gb359)) (ra (Kd.R_mono HO_3.out (fun _ hk => (And.intro ((And.intro (hk.2) (hk.1.1))) (hk.1.2))))) hg hat) (IsS109.grown (by repeat (first | (with_reducible first | exact HI0.out | apply IsS109.alloc | apply IsS109.drewN | apply IsS109.drew | apply IsS109.set_1 | apply IsS109.set_2 | refine IsS109.far ?_ NB0_359.out _) | exact HI0.out)) hg (IsS109.own_ne HI0.out HO362.out (by decide))) (Kd.R_over' (ra HO355.out) (Kd.R_typed (ra HO362.out)) (by decide) hg) (blk_grown (g := gb359) (o := .cells #[.int .i64 t347, .int .i64 t350, .int .i64 t356] 50 (0, 0)) bk hg (Kd.R_away HO362.out (fun _ hk => by first | exact hk.1.2 | exact hk))) (Kd.R_after (ok := (fun k_ => some k_ ≠ (.slice Ao14 x3_1.length co14 : Value).ownBlock ∧ k_ ≠ gb359)) (ra (Kd.R_mono HO368.out (fun _ hk => (And.intro ((And.intro (hk.1.1.2) (hk.2))) (hk.1.2))))) hg hat) (below_weaken (by repeat (first | (with_reducible first | exact HB.out | apply below_alloc | apply pw_below_drewN | apply below_drew1 | refine below_set ?_ (IsS109.ge HI0.out) | refine below_set ?_ GE359.out) | exact HB.out)) HL.out hb) (KeepBut.trans (by repeat (first | (with_reducible first | exact HK.out | apply KeepBut.set_ | apply keep_drewN | apply keep_drew | apply keep_alloc | refine keep_far ?_ GW359.out _) | exact HK.out)) (KeepBut.of_grown hg g) (Kd.R_base2 HO362.out)) (ho)
          clear HO_3 HI0 HO355 BK359 HO368 HB HK HO362
          obtain ⟨HO_3, HI0, HO355, BK359, HO368, HB, HK, HO365⟩ := t_
          clear ho hb hg hat
          refine hK.out _ _ ⟨(blk_cell BK359.out 0).trans rfl, (blk_cell BK359.out 1).trans rfl, (blk_cell BK359.out 2).trans rfl⟩ (fun hHeld => ?_)
          clear hK K
          refine norm_ (a' := ?_) ?_ ?_
          rotate_left
          ·show Act.put _ (some 28) _ = _
           simp only [Act.put, List.setIfInBounds_toArray, List.set_cons_zero, List.set_cons_succ, i64_w, i32_w]
           rfl
          exact norm_ (by simp only [putAll, Act.put, List.setIfInBounds_toArray, List.set_cons_zero, List.set_cons_succ]) (hCont (v361, v364, v367) _ ⟨hHeld, (ra HO355.out), (ra (Kd.R_mono HO365.out (fun _ hk => (And.intro (hk.2.1) ((And.intro (hk.1) (hk.2.2))))))), (ra (Kd.R_mono HO368.out (fun _ hk => (And.intro (hk.2) ((And.intro (hk.1.1) (hk.1.2))))))), (ra (Kd.R_mono HO_3.out (fun _ hk => (And.intro (hk.2) ((And.intro (hk.1.1) (hk.1.2))))))), bk, (by repeat (first | (with_reducible first | exact HI0.out | apply IsS109.alloc | apply IsS109.drewN | apply IsS109.drew | apply IsS109.set_1 | apply IsS109.set_2 | refine IsS109.far ?_ NB0_359.out _) | exact HI0.out)), (by repeat (first | (with_reducible first | exact HK.out | apply KeepBut.set_ | apply keep_drewN | apply keep_drew | apply keep_alloc | refine keep_far ?_ GW359.out _) | exact HK.out)), (by repeat (first | (with_reducible first | exact HB.out | apply below_alloc | apply pw_below_drewN | apply below_drew1 | refine below_set ?_ (IsS109.ge HI0.out) | refine below_set ?_ GE359.out) | exact HB.out))⟩)
        ·skip
         refine Kd.R_lit_step k50 _ 50 ?hg (N := 30) ?hd (xs := ([(⟨t347, t350, t356⟩ : S50)] : List (S50))) (inner := [.int .i64 t347, .int .i64 t350, .int .i64 t356]) (ok := fun _ => True) (okp := fun _ => True) ?hr ?hp (fun _ hk => hk) trivial (Below.refl _ _) (Nat.le_refl _) (by simp) ?_; (case hd => rfl); (case hg => rfl); (case hr => first | (go_simp; done) | (go_simp; rfl)); (case hp => exact (Reps.c3 (show Kd.M k50 _ _ _ (⟨t347, t350, t356⟩ : S50) [.int .i64 t347, .int .i64 t350, .int .i64 t356] from (k50_mkM _ _ _ (⟨t347, t350, t356⟩ : S50) )) (Reps.none _ _)))
         intro v367 w26 ho27 hb hg_ hnew_
         clear hg_ hnew_
         (first | rw [← Ny366.out] at ho27 | (simp only [Int.reduceToNat] at ho27; rw [← Ny366.out] at ho27))
         have t_ := fc7 (Kd.R_elder' (ra HO_3.out) (Kd.R_base ho27) hb) (Kd.R_below (ra HO355.out) hb) (Kd.R_lower (Kd.R_newB (Kd.R_new' ho27 (Kd.R_lt (ra HO_3.out))) (g := gb359) (o := .cells #[.int .i64 t347, .int .i64 t350, .int .i64 t356] 50 (0, 0)) bk) (keep_size (w := w) (g := g) (row := none) (by repeat (first | (with_reducible first | exact HK.out | apply KeepBut.set_ | apply keep_drewN | apply keep_drew | apply keep_alloc | refine keep_far ?_ GW359.out _) | exact HK.out)))) (IsS109.below (by repeat (first | (with_reducible first | exact HI0.out | apply IsS109.alloc | apply IsS109.drewN | apply IsS109.drew | apply IsS109.set_1 | apply IsS109.set_2 | refine IsS109.far ?_ NB0_359.out _) | exact HI0.out)) hb) (bw BK359 hb) (KeepBut.trans (by repeat (first | (with_reducible first | exact HK.out | apply KeepBut.set_ | apply keep_drewN | apply keep_drew | apply keep_alloc | refine keep_far ?_ GW359.out _) | exact HK.out)) (KeepBut.of_below hb g none) (.inl rfl)) (below_step (by repeat (first | (with_reducible first | exact HB.out | apply below_alloc | apply pw_below_drewN | apply below_drew1 | refine below_set ?_ (IsS109.ge HI0.out) | refine below_set ?_ GE359.out) | exact HB.out)) hb)
         clear HO_3 HO355 HI0 BK359 HK HB
         obtain ⟨HO_3, HO355, HO368, HI0, BK359, HK, HB⟩ := t_
         clear hb ho27
         refine hK.out _ _ ⟨(blk_cell BK359.out 0).trans rfl, (blk_cell BK359.out 1).trans rfl, (blk_cell BK359.out 2).trans rfl⟩ (fun hHeld => ?_)
         clear hK K
         refine norm_ (a' := ?_) ?_ ?_
         rotate_left
         ·show Act.put _ (some 30) _ = _
          simp only [Act.put, List.setIfInBounds_toArray, List.set_cons_zero, List.set_cons_succ, i64_w, i32_w]
          rfl
         refine one_ (i := 0) (N := some 26) #[true, true, false, true, true, false, false] rfl rfl (by kernel_rfl) (by decide) (fun K hK => ?_)
         refine Kd.R_lit_step k50 _ 50 ?hg (N := 26) ?hd (xs := ([] : List (S50))) (inner := []) (ok := fun _ => True) (okp := fun _ => True) ?hr ?hp (fun _ hk => hk) trivial (Below.refl _ _) (Nat.le_refl _) (by simp) ?_; (case hd => rfl); (case hg => rfl); (case hr => first | (go_simp; done) | (go_simp; rfl)); (case hp => exact (Reps.none _ _))
         intro v361 w28 ho29 hb hg_ hnew_
         clear hg_ hnew_
         (first | rw [← Ny360.out] at ho29 | (simp only [Int.reduceToNat] at ho29; rw [← Ny360.out] at ho29))
         have t_ := fc8 (Kd.R_elder' (ra HO_3.out) (Kd.R_base ho29) hb) (Kd.R_below (ra HO355.out) hb) (Kd.R_elder' (ra HO368.out) (Kd.R_base ho29) hb) (Kd.R_lower (Kd.R_newB (Kd.R_new' (Kd.R_new' ho29 (Kd.R_lt (ra HO_3.out))) (Kd.R_lt (ra HO368.out))) (g := gb359) (o := .cells #[.int .i64 t347, .int .i64 t350, .int .i64 t356] 50 (0, 0)) bk) (keep_size (w := w) (g := g) (row := none) (by repeat (first | (with_reducible first | exact HK.out | apply KeepBut.set_ | apply keep_drewN | apply keep_drew | apply keep_alloc | refine keep_far ?_ GW359.out _) | exact HK.out)))) (IsS109.below (by repeat (first | (with_reducible first | exact HI0.out | apply IsS109.alloc | apply IsS109.drewN | apply IsS109.drew | apply IsS109.set_1 | apply IsS109.set_2 | refine IsS109.far ?_ NB0_359.out _) | exact HI0.out)) hb) (bw BK359 hb) (KeepBut.trans (by repeat (first | (with_reducible first | exact HK.out | apply KeepBut.set_ | apply keep_drewN | apply keep_drew | apply keep_alloc | refine keep_far ?_ GW359.out _) | exact HK.out)) (KeepBut.of_below hb g none) (.inl rfl)) (below_step (by repeat (first | (with_reducible first | exact HB.out | apply below_alloc | apply pw_below_drewN | apply below_drew1 | refine below_set ?_ (IsS109.ge HI0.out) | refine below_set ?_ GE359.out) | exact HB.out)) hb)
         clear HO_3 HO355 HO368 HI0 BK359 HK HB
         obtain ⟨HO_3, HO355, HO368, HO362, HI0, BK359, HK, HB⟩ := t_
         clear hb ho29
         refine hK.out _ _ ⟨(blk_cell BK359.out 0).trans rfl, (blk_cell BK359.out 1).trans rfl, (blk_cell BK359.out 2).trans rfl⟩ (fun hHeld => ?_)
         clear hK K
         refine norm_ (a' := ?_) ?_ ?_
         rotate_left
         ·show Act.put _ (some 26) _ = _
          simp only [Act.put, List.setIfInBounds_toArray, List.set_cons_zero, List.set_cons_succ, i64_w, i32_w]
          rfl
         refine one_ (i := 2) (N := some 28) #[true, true, true, true, true, false, false] rfl rfl (by kernel_rfl) (by decide) (fun K hK => ?_)
         refine Kd.R_append_rows_step k50 w.heap.size (by rfl) (.tmp 26) (.tmp 27) 29 50 (.agg #[(.int .i64 0), (.int .i64 0), (.int .i64 0)]) 24 rfl Try.underlying29 info50 rfl (by decide) (by omega) v361 y360 x3_1 _ _ _ (fun k_ => some k_ ≠ (.slice Ao14 x3_1.length co14 : Value).ownBlock ∧ some k_ ≠ (v367 : Value).ownBlock ∧ k_ ≠ gb359) (fun _ => False) rfl rfl ?aO ?aR (fun _ _ h => h) (fun _ h => h.elim) ?aF (Below.refl _ _) ?aS ?aL ?_
         (case aR => repeat (first | exact (Kd.R_reads' HO_3.out).2.2 | (with_reducible refine Kd.C_alloc ?_ _) | (with_reducible refine Kd.C_drewN ?_ _) | (with_reducible refine Kd.C_drew ?_)))
         (case aF => exact (fun k_ hk => ⟨Kd.fresh' (Kd.R_lt (ra HO_3.out)) k_ hk, Kd.fresh' (Kd.R_lt (ra HO368.out)) k_ hk, Kd.freshB (g := gb359) (o := .cells #[.int .i64 t347, .int .i64 t350, .int .i64 t356] 50 (0, 0)) bk k_ hk⟩))
         (case aO => exact (ra (Kd.R_mono HO362.out (fun _ hk => (And.intro (hk.1.1.2) ((And.intro (hk.1.2) (hk.2))))))))
         (case aS => exact (keep_size (w := w) (g := g) (row := none) (by repeat (first | (with_reducible first | exact HK.out | apply KeepBut.set_ | apply keep_drewN | apply keep_drew | apply keep_alloc | refine keep_far ?_ GW359.out _) | exact HK.out))))
         (case aL => have := LMc9.out; omega)
         intro v364 w30 ho hb hg hat
         rw [← Ny363.out] at ho
         have t_ := fc8 (Kd.R_after (ok := (fun k_ => some k_ ≠ (v367 : Value).ownBlock ∧ k_ ≠ gb359)) (ra (Kd.R_mono HO_3.out (fun _ hk => (And.intro ((And.intro (hk.1.2) (hk.1.1))) (hk.2))))) hg hat) (IsS109.grown (by repeat (first | (with_reducible first | exact HI0.out | apply IsS109.alloc | apply IsS109.drewN | apply IsS109.drew | apply IsS109.set_1 | apply IsS109.set_2 | refine IsS109.far ?_ NB0_359.out _) | exact HI0.out)) hg (IsS109.own_ne HI0.out HO362.out (by decide))) (Kd.R_over' (ra HO355.out) (Kd.R_typed (ra HO362.out)) (by decide) hg) (blk_grown (g := gb359) (o := .cells #[.int .i64 t347, .int .i64 t350, .int .i64 t356] 50 (0, 0)) bk hg (Kd.R_away HO362.out fk)) (Kd.R_after (ok := (fun k_ => some k_ ≠ (.slice Ao14 x3_1.length co14 : Value).ownBlock ∧ k_ ≠ gb359)) (ra (Kd.R_mono HO368.out (fun _ hk => (And.intro ((And.intro (hk.1.1.2) (hk.1.2))) (hk.2))))) hg hat) (below_weaken (by repeat (first | (with_reducible first | exact HB.out | apply below_alloc | apply pw_below_drewN | apply below_drew1 | refine below_set ?_ (IsS109.ge HI0.out) | refine below_set ?_ GE359.out) | exact HB.out)) HL.out hb) (KeepBut.trans (by repeat (first | (with_reducible first | exact HK.out | apply KeepBut.set_ | apply keep_drewN | apply keep_drew | apply keep_alloc | refine keep_far ?_ GW359.out _) | exact HK.out)) (KeepBut.of_grown hg g) (Kd.R_base2 HO362.out)) (ho)
         clear HO_3 HI0 HO355 BK359 HO368 HB HK HO362
         obtain ⟨HO_3, HI0, HO355, BK359, HO368, HB, HK, HO365⟩ := t_
         clear ho hb hg hat
         refine hK.out _ _ ⟨(blk_cell BK359.out 0).trans rfl, (blk_cell BK359.out 1).trans rfl, (blk_cell BK359.out 2).trans rfl⟩ (fun hHeld => ?_)
         clear hK K
         refine norm_ (a' := ?_) ?_ ?_
         rotate_left
         ·show Act.put _ (some 28) _ = _
          simp only [Act.put, List.setIfInBounds_toArray, List.set_cons_zero, List.set_cons_succ, i64_w, i32_w]
          rfl
         exact norm_ (by simp only [putAll, Act.put, List.setIfInBounds_toArray, List.set_cons_zero, List.set_cons_succ]) (hCont (v361, v364, v367) _ ⟨hHeld, (ra HO355.out), (ra (Kd.R_mono HO365.out (fun _ hk => (And.intro (hk.2.1) ((And.intro (hk.1) (hk.2.2))))))), (ra (Kd.R_mono HO368.out (fun _ hk => (And.intro (hk.2) ((And.intro (hk.1.1) (hk.1.2))))))), (ra (Kd.R_mono HO_3.out (fun _ hk => (And.intro (hk.2) ((And.intro (hk.1.1) (hk.1.2))))))), bk, (by repeat (first | (with_reducible first | exact HI0.out | apply IsS109.alloc | apply IsS109.drewN | apply IsS109.drew | apply IsS109.set_1 | apply IsS109.set_2 | refine IsS109.far ?_ NB0_359.out _) | exact HI0.out)), (by repeat (first | (with_reducible first | exact HK.out | apply KeepBut.set_ | apply keep_drewN | apply keep_drew | apply keep_alloc | refine keep_far ?_ GW359.out _) | exact HK.out)), (by repeat (first | (with_reducible first | exact HB.out | apply below_alloc | apply pw_below_drewN | apply below_drew1 | refine below_set ?_ (IsS109.ge HI0.out) | refine below_set ?_ GE359.out) | exact HB.out))⟩)
       rintro ⟨v361, v364, v367⟩ w31 ⟨hS_, h0_, h1_, h2_, h3_, h4_, h5_, h6_, h7_⟩
       have n0_ : Aside0 (Kd.R (Kd.int .i64) 3 w31 w.heap.size (fun _ => True) (.slice Ao19 y353.length co19) y353) := ⟨h0_⟩
       have n1_ : Aside0 (Kd.R k50 50 w31 w.heap.size (fun k_ => some k_ ≠ (v367 : Value).ownBlock ∧ some k_ ≠ (.slice Ao14 x3_1.length co14 : Value).ownBlock ∧ k_ ≠ gb359) v364 y363) := ⟨h1_⟩
       have n2_ : Aside0 (Kd.R k50 50 w31 w.heap.size (fun k_ => some k_ ≠ (v364 : Value).ownBlock ∧ some k_ ≠ (.slice Ao14 x3_1.length co14 : Value).ownBlock ∧ k_ ≠ gb359) v367 y366) := ⟨h2_⟩
       have n3_ : Aside0 (Kd.R k50 50 w31 w.heap.size (fun k_ => some k_ ≠ (v364 : Value).ownBlock ∧ some k_ ≠ (v367 : Value).ownBlock ∧ k_ ≠ gb359) (.slice Ao14 x3_1.length co14) x3_1) := ⟨h3_⟩
       have n4_ : Aside0 (w31.heap[gb359]? = some (.cells #[.int .i64 t347, .int .i64 t350, .int .i64 t356] 50 (0, 0))) := ⟨h4_⟩
       have n5_ : Aside0 (IsS109 w0 w31 g s0_0 t357 t358) := ⟨h5_⟩
       have n6_ : Aside0 (KeepBut w w31 g none) := ⟨h6_⟩
       have n7_ : Aside0 (Below w0.heap.size w0 w31) := ⟨h7_⟩
       clear HO_3
       clear HO355
       clear BK359
       clear HI0
       clear HK
       clear HB
       clear h0_ h1_ h2_ h3_ h4_ h5_ h6_ h7_
       have HO355 := n0_
       have HO365 := n1_
       have HO368 := n2_
       have HO_3 := n3_
       have BK359 := n4_
       have HI0 := n5_
       have HK := n6_
       have HB := n7_
       clear n0_ n1_ n2_ n3_ n4_ n5_ n6_ n7_
       have hHeld : w31.cell? ⟨gb359, 0, none⟩ = some (.int .i64 t347) ∧ w31.cell? ⟨gb359, 1, none⟩ = some (.int .i64 t350) ∧ w31.cell? ⟨gb359, 2, none⟩ = some (.int .i64 t356) := hS_
       obtain ⟨Ao33, co33, eo33⟩ := Kd.R_slice HO368.out
       (first | subst eo33 | (injection eo33 with f1_ f2_ f3_; have f4_ := f1_.symm; have f5_ := f3_.symm; clear f1_ f2_ f3_; subst f4_; subst f5_))
       refine norm_ (a' := ?_) ?_ ?_
       rotate_left
       ·simp only [putAll, Act.put, List.setIfInBounds_toArray, List.set_cons_zero, List.set_cons_succ]
        rfl
       refine one_ (i := 5) (N := some 31) #[true, true, true, true, true, true, false] rfl rfl (by kernel_rfl) (by decide) (fun K hK => ?_)
       refine Kd.R_append_rows_step k50 w.heap.size (by rfl) (.tmp 28) (.tmp 30) 29 50 (.agg #[(.int .i64 0), (.int .i64 0), (.int .i64 0)]) 24 rfl Try.underlying29 info50 rfl (by decide) (by omega) v364 y363 y366 _ _ _ (fun k_ => some k_ ≠ (.slice Ao14 x3_1.length co14 : Value).ownBlock ∧ some k_ ≠ (.slice Ao33 y366.length co33 : Value).ownBlock ∧ k_ ≠ gb359) (fun _ => False) rfl rfl ?aO ?aR (fun _ _ h => h) (fun _ h => h.elim) ?aF (Below.refl _ _) ?aS ?aL ?_
       (case aR => repeat (first | exact (Kd.R_reads' HO368.out).2.2 | (with_reducible refine Kd.C_alloc ?_ _) | (with_reducible refine Kd.C_drewN ?_ _) | (with_reducible refine Kd.C_drew ?_)))
       (case aF => exact (fun k_ hk => ⟨Kd.fresh' (Kd.R_lt (ra HO_3.out)) k_ hk, Kd.fresh' (Kd.R_lt (ra HO368.out)) k_ hk, Kd.freshB (g := gb359) (o := .cells #[.int .i64 t347, .int .i64 t350, .int .i64 t356] 50 (0, 0)) bk k_ hk⟩))
       (case aO => exact (ra (Kd.R_mono HO365.out (fun _ hk => (And.intro (hk.2.1) ((And.intro (hk.1) (hk.2.2))))))))
       (case aS => exact (keep_size (w := w) (g := g) (row := none) (by repeat (first | (with_reducible first | exact HK.out | apply KeepBut.set_ | apply keep_drewN | apply keep_drew | apply keep_alloc | refine keep_far ?_ GW359.out _) | exact HK.out))))
       (case aL => have := LMc10.out; omega)
       intro v370 w32 ho hb hg hat
       rw [← Ny369.out] at ho
       have t_ := fc8 (Kd.R_after (ok := (fun k_ => some k_ ≠ (.slice Ao33 y366.length co33 : Value).ownBlock ∧ k_ ≠ gb359)) (ra (Kd.R_mono HO_3.out (fun _ hk => (And.intro ((And.intro (hk.2.1) (hk.2.2))) (hk.1))))) hg hat) (IsS109.grown (by repeat (first | (with_reducible first | exact HI0.out | apply IsS109.alloc | apply IsS109.drewN | apply IsS109.drew | apply IsS109.set_1 | apply IsS109.set_2 | refine IsS109.far ?_ NB0_359.out _) | exact HI0.out)) hg (IsS109.own_ne HI0.out HO365.out (by decide))) (Kd.R_over' (ra HO355.out) (Kd.R_typed (ra HO365.out)) (by decide) hg) (blk_grown (g := gb359) (o := .cells #[.int .i64 t347, .int .i64 t350, .int .i64 t356] 50 (0, 0)) bk hg (Kd.R_away HO365.out (fun _ hk => by first | exact hk.2.2 | exact hk))) (Kd.R_after (ok := (fun k_ => some k_ ≠ (.slice Ao14 x3_1.length co14 : Value).ownBlock ∧ k_ ≠ gb359)) (ra (Kd.R_mono HO368.out (fun _ hk => (And.intro ((And.intro (hk.2.1) (hk.2.2))) (hk.1))))) hg hat) (below_weaken (by repeat (first | (with_reducible first | exact HB.out | apply below_alloc | apply pw_below_drewN | apply below_drew1 | refine below_set ?_ (IsS109.ge HI0.out) | refine below_set ?_ GE359.out) | exact HB.out)) HL.out hb) (KeepBut.trans (by repeat (first | (with_reducible first | exact HK.out | apply KeepBut.set_ | apply keep_drewN | apply keep_drew | apply keep_alloc | refine keep_far ?_ GW359.out _) | exact HK.out)) (KeepBut.of_grown hg g) (Kd.R_base2 HO365.out)) (ho)
       clear HO_3 HI0 HO355 BK359 HO368 HB HK HO365
       obtain ⟨HO_3, HI0, HO355, BK359, HO368, HB, HK, HO371⟩ := t_
       clear ho hb hg hat
       refine hK.out _ _ ⟨(blk_cell BK359.out 0).trans rfl, (blk_cell BK359.out 1).trans rfl, (blk_cell BK359.out 2).trans rfl⟩ (fun hHeld => ?_)
       clear hK K
       refine norm_ (a' := ?_) ?_ ?_
       rotate_left
       ·show Act.put _ (some 31) _ = _
        simp only [Act.put, List.setIfInBounds_toArray, List.set_cons_zero, List.set_cons_succ, i64_w, i32_w]
        rfl
       refine pure_ (i := 6) (N := some 6) (v := ?_) (a' := ?_) #[true, true, true, true, true, true, true] rfl rfl (by kernel_rfl) (fun _ _ _ h => h) (Or.inl ⟨by rfl, ?_⟩) ?_ ?_
       rotate_left
       ·intro w'
        go_simp
        with_reducible rfl
       rotate_left
       ·simp only [Act.put, List.setIfInBounds_toArray, List.set_cons_zero, List.set_cons_succ, i64_w, i32_w]
        rfl
       refine done_ (by kernel_rfl) ?_
       obtain ⟨Ao34, co34, eo34⟩ := Kd.R_slice HO371.out
       subst eo34
       try go_wp2_with (first | ((with_reducible refine gate_callee (f := 106) rfl ?_); refine goesL_ (some 33) rfl rfl Try.func106 (by kernel_rfl) rfl #[.slice Ao34 y369.length co34] rfl ms ?_; (with_reducible refine (spec_TreeOk.calls k1 _ _ y369 true _ ?side1 ?side2 A11.out).mono ?_); (case side1 => repeat (first | exact (Kd.R_reads' HO371.out).2.2 | (with_reducible refine Kd.C_alloc ?_ _) | (with_reducible refine Kd.C_drewN ?_ _) | (with_reducible refine Kd.C_drew ?_))); (case side2 => exact (Kd.R_reads' HO371.out).2.1); rintro e w35 ⟨rfl, hb⟩; refine ⟨_, rfl, ?_⟩; have t_ := fc8 (Kd.R_below (ra HO_3.out) hb) (Kd.R_below (ra HO355.out) hb) (Kd.R_below (ra HO368.out) hb) (Kd.R_below (ra HO371.out) hb) (IsS109.below (by repeat (first | (with_reducible first | exact HI0.out | apply IsS109.alloc | apply IsS109.drewN | apply IsS109.drew | apply IsS109.set_1 | apply IsS109.set_2 | refine IsS109.far ?_ NB0_359.out _) | exact HI0.out)) hb) (bw BK359 hb) (KeepBut.trans (by repeat (first | (with_reducible first | exact HK.out | apply KeepBut.set_ | apply keep_drewN | apply keep_drew | apply keep_alloc | refine keep_far ?_ GW359.out _) | exact HK.out)) (KeepBut.of_below hb g none) (.inl rfl)) (below_step (by repeat (first | (with_reducible first | exact HB.out | apply below_alloc | apply pw_below_drewN | apply below_drew1 | refine below_set ?_ (IsS109.ge HI0.out) | refine below_set ?_ GE359.out) | exact HB.out)) hb); clear HO_3 HO355 HO368 HO371 HI0 BK359 HK HB; obtain ⟨HO_3, HO355, HO368, HO371, HI0, BK359, HK, HB⟩ := t_; (try clear hb); (try clear hk); (try clear hi)))
       go_roundg k1
       case measure => have := HK1.out; omega
       case rel => exact ⟨(y369), (wrap64 (x4_1 + 1)), (t357), (t358), (by first | rfl | (simp; done) | (simp [*]; done)), H', ⟨by have := HK1.out; omega⟩, ⟨by (with_reducible repeat (first | apply Kd.R_alloc | apply Kd.R_drewN | apply Kd.R_drew)); exact Kd.R_mono HO371.out (fun _ hk => trivial)⟩, ⟨by repeat (first | (with_reducible first | exact HI0.out | apply IsS109.alloc | apply IsS109.drewN | apply IsS109.drew | apply IsS109.set_1 | apply IsS109.set_2 | refine IsS109.far ?_ NB0_359.out _) | exact HI0.out)⟩, ⟨by repeat (first | (with_reducible first | exact HK.out | apply KeepBut.set_ | apply keep_drewN | apply keep_drew | apply keep_alloc | refine keep_far ?_ GW359.out _) | exact HK.out)⟩, ⟨by repeat (first | (with_reducible first | exact HB.out | apply below_alloc | apply pw_below_drewN | apply below_drew1 | refine below_set ?_ (IsS109.ge HI0.out) | refine below_set ?_ GE359.out) | exact HB.out)⟩⟩
      ·replace c12 := Bool.eq_false_iff.mpr c12
       subst c12
       have H1 : (spec_l19Tree.l0 k1 x3_1 (wrap64 (x4_1 + 1)) s0_0 t357 t358) = some (r1, r2, r3) := by rw [if_neg (show ¬ (false = true) by decide)] at H; exact H
       clear H
       have H := H1
       clear H1
       have H' := Aside0.mk H
       clear H
       try go_wp2_with (first | ((with_reducible refine gate_callee (f := 114) rfl ?_); refine goesL_ (some 11) rfl rfl Try.func114 (by kernel_rfl) rfl #[.pointer (some ⟨g, 0, none⟩), .int .i64 8] rfl ms ?_; (with_reducible refine (spec_l01Below.calls g s0_0 x1001_1 x1002_1 8 t344 t345 t346 w0 _ ?side1 ?side2 A4.out).mono ?_); (case side1 => repeat (first | (with_reducible first | exact HI0.out | apply IsS109.alloc | apply IsS109.drewN | apply IsS109.drew | apply IsS109.set_1 | apply IsS109.set_2) | exact HI0.out)); (case side2 => repeat (first | (with_reducible first | exact HB.out | apply below_alloc | apply pw_below_drewN | apply below_drew1 | refine below_set ?_ (IsS109.ge HI0.out)) | exact HB.out)); rintro e w36 ⟨rfl, hi, hb, hk⟩; refine ⟨_, rfl, ?_⟩; have t_ := fc4 (Kd.R_mono (Kd.R_keep (IsS109.apart (show IsS109 w0 _ g s0_0 x1001_1 x1002_1 from by repeat (first | (with_reducible first | exact HI0.out | apply IsS109.alloc | apply IsS109.drewN | apply IsS109.drew | apply IsS109.set_1 | apply IsS109.set_2) | exact HI0.out)) (ra HO_3.out) (by decide)) hk (fun _ h => h.2)) (fun _ h => h.1)) (KeepBut.trans (by repeat (first | (with_reducible first | exact HK.out | apply KeepBut.set_ | apply keep_drewN | apply keep_drew | apply keep_alloc) | exact HK.out)) hk (.inl rfl)) (hb) (hi); clear HO_3 HK HB HI0; obtain ⟨HO_3, HK, HB, HI0⟩ := t_; (try clear hb); (try clear hk); (try clear hi); obtain ⟨Ao37, co37, eo37⟩ := Kd.R_slice HO_3.out; subst eo37) | ((with_reducible refine gate_callee (f := 114) rfl ?_); refine goesL_ (some 19) rfl rfl Try.func114 (by kernel_rfl) rfl #[.pointer (some ⟨g, 0, none⟩), .int .i64 (x3_1.length : Int)] rfl ms ?_; (with_reducible refine (spec_l01Below.calls g s0_0 t345 t346 (x3_1.length : Int) t347 t348 t349 w0 _ ?side1 ?side2 A6.out).mono ?_); (case side1 => repeat (first | (with_reducible first | exact HI0.out | apply IsS109.alloc | apply IsS109.drewN | apply IsS109.drew | apply IsS109.set_1 | apply IsS109.set_2) | exact HI0.out)); (case side2 => repeat (first | (with_reducible first | exact HB.out | apply below_alloc | apply pw_below_drewN | apply below_drew1 | refine below_set ?_ (IsS109.ge HI0.out)) | exact HB.out)); rintro e w38 ⟨rfl, hi, hb, hk⟩; refine ⟨_, rfl, ?_⟩; have t_ := fc4 (Kd.R_mono (Kd.R_keep (IsS109.apart (show IsS109 w0 _ g s0_0 t345 t346 from by repeat (first | (with_reducible first | exact HI0.out | apply IsS109.alloc | apply IsS109.drewN | apply IsS109.drew | apply IsS109.set_1 | apply IsS109.set_2) | exact HI0.out)) (ra HO_3.out) (by decide)) hk (fun _ h => h.2)) (fun _ h => h.1)) (KeepBut.trans (by repeat (first | (with_reducible first | exact HK.out | apply KeepBut.set_ | apply keep_drewN | apply keep_drew | apply keep_alloc) | exact HK.out)) hk (.inl rfl)) (hb) (hi); clear HO_3 HK HB HI0; obtain ⟨HO_3, HK, HB, HI0⟩ := t_; (try clear hb); (try clear hk); (try clear hi)) | ((with_reducible refine gate_callee (f := 114) rfl ?_); refine goesL_ (some 21) rfl rfl Try.func114 (by kernel_rfl) rfl #[.pointer (some ⟨g, 0, none⟩), .int .i64 4] rfl ms ?_; (with_reducible refine (spec_l01Below.calls g s0_0 t348 t349 4 t350 t351 t352 w0 _ ?side1 ?side2 A7.out).mono ?_); (case side1 => repeat (first | (with_reducible first | exact HI0.out | apply IsS109.alloc | apply IsS109.drewN | apply IsS109.drew | apply IsS109.set_1 | apply IsS109.set_2) | exact HI0.out)); (case side2 => repeat (first | (with_reducible first | exact HB.out | apply below_alloc | apply pw_below_drewN | apply below_drew1 | refine below_set ?_ (IsS109.ge HI0.out)) | exact HB.out)); rintro e w39 ⟨rfl, hi, hb, hk⟩; refine ⟨_, rfl, ?_⟩; have t_ := fc4 (Kd.R_mono (Kd.R_keep (IsS109.apart (show IsS109 w0 _ g s0_0 t348 t349 from by repeat (first | (with_reducible first | exact HI0.out | apply IsS109.alloc | apply IsS109.drewN | apply IsS109.drew | apply IsS109.set_1 | apply IsS109.set_2) | exact HI0.out)) (ra HO_3.out) (by decide)) hk (fun _ h => h.2)) (fun _ h => h.1)) (KeepBut.trans (by repeat (first | (with_reducible first | exact HK.out | apply KeepBut.set_ | apply keep_drewN | apply keep_drew | apply keep_alloc) | exact HK.out)) hk (.inl rfl)) (hb) (hi); clear HO_3 HK HB HI0; obtain ⟨HO_3, HK, HB, HI0⟩ := t_; (try clear hb); (try clear hk); (try clear hi)) | ((with_reducible refine gate_dst (N := 23) rfl ?_); refine Kd.R_lit (Kd.int .i64) _ 3 ?hg (N := 23) ?hd (xs := ([0, 0, 1, 1, 2, 4] : List Int)) (inner := [.int .i64 0, .int .i64 0, .int .i64 1, .int .i64 1, .int .i64 2, .int .i64 4]) (ok := fun _ => True) (okp := fun _ => True) ?hr ?hp (fun _ hk => hk) trivial (Below.refl _ _) (Nat.le_refl _) (by simp) ?_; (case hd => rfl); (case hg => rfl); (case hr => first | (go_simp; done) | (go_simp; rfl)); (case hp => exact (Reps.one (show Kd.M (Kd.int .i64) _ _ _ 0 [.int .i64 0] from rfl) (Reps.one (show Kd.M (Kd.int .i64) _ _ _ 0 [.int .i64 0] from rfl) (Reps.one (show Kd.M (Kd.int .i64) _ _ _ 1 [.int .i64 1] from rfl) (Reps.one (show Kd.M (Kd.int .i64) _ _ _ 1 [.int .i64 1] from rfl) (Reps.one (show Kd.M (Kd.int .i64) _ _ _ 2 [.int .i64 2] from rfl) (Reps.one (show Kd.M (Kd.int .i64) _ _ _ 4 [.int .i64 4] from rfl) (Reps.none _ _)))))))); intro v354 w40 ho41 hb hg_ hnew_; clear hg_ hnew_; (first | rw [← Ny353.out] at ho41 | (simp only [Int.reduceToNat] at ho41; rw [← Ny353.out] at ho41)); have t_ := fc5 (Kd.R_below (ra HO_3.out) hb) (Kd.R_lower ho41 (keep_size (w := w) (g := g) (row := none) (by repeat (first | (with_reducible first | exact HK.out | apply KeepBut.set_ | apply keep_drewN | apply keep_drew | apply keep_alloc) | exact HK.out)))) (IsS109.below (by repeat (first | (with_reducible first | exact HI0.out | apply IsS109.alloc | apply IsS109.drewN | apply IsS109.drew | apply IsS109.set_1 | apply IsS109.set_2) | exact HI0.out)) hb) (KeepBut.trans (by repeat (first | (with_reducible first | exact HK.out | apply KeepBut.set_ | apply keep_drewN | apply keep_drew | apply keep_alloc) | exact HK.out)) (KeepBut.of_below hb g none) (.inl rfl)) (below_step (by repeat (first | (with_reducible first | exact HB.out | apply below_alloc | apply pw_below_drewN | apply below_drew1 | refine below_set ?_ (IsS109.ge HI0.out)) | exact HB.out)) hb); clear HO_3 HI0 HK HB; obtain ⟨HO_3, HO355, HI0, HK, HB⟩ := t_; clear hb ho41; obtain ⟨Ao42, co42, eo42⟩ := Kd.R_slice HO355.out; subst eo42) | ((with_reducible refine gate_callee (f := 124) rfl ?_); refine goesL_ (some 24) rfl rfl Try.func124 (by kernel_rfl) rfl #[.pointer (some ⟨g, 0, none⟩), .slice Ao42 y353.length co42] rfl ms ?_; (with_reducible refine (spec_l01PickInt.calls g s0_0 t351 t352 _ _ y353 t356 t357 t358 w0 _ ?side1 ?side2 ?side3 ?side4 ?side5 A8.out).mono ?_); (case side1 => repeat (first | (with_reducible first | exact HI0.out | apply IsS109.alloc | apply IsS109.drewN | apply IsS109.drew | apply IsS109.set_1 | apply IsS109.set_2) | exact HI0.out)); (case side2 => repeat (first | (with_reducible first | exact HB.out | apply below_alloc | apply pw_below_drewN | apply below_drew1 | refine below_set ?_ (IsS109.ge HI0.out)) | exact HB.out)); (case side3 => repeat (first | exact (Kd.R_reads' HO355.out).2.2 | (with_reducible refine Kd.C_alloc ?_ _) | (with_reducible refine Kd.C_drewN ?_ _) | (with_reducible refine Kd.C_drew ?_))); (case side4 => exact (Kd.R_reads' HO355.out).2.1); (case side5 => exact far_slice (IsS109.own_ne HI0.out HO355.out (by decide))); rintro e w43 ⟨rfl, hi, hb, hk⟩; refine ⟨_, rfl, ?_⟩; have t_ := fc5 (Kd.R_mono (Kd.R_keep (IsS109.apart (show IsS109 w0 _ g s0_0 t351 t352 from by repeat (first | (with_reducible first | exact HI0.out | apply IsS109.alloc | apply IsS109.drewN | apply IsS109.drew | apply IsS109.set_1 | apply IsS109.set_2) | exact HI0.out)) (ra HO_3.out) (by decide)) hk (fun _ h => h.2)) (fun _ h => h.1)) (Kd.R_mono (Kd.R_keep (IsS109.apart (show IsS109 w0 _ g s0_0 t351 t352 from by repeat (first | (with_reducible first | exact HI0.out | apply IsS109.alloc | apply IsS109.drewN | apply IsS109.drew | apply IsS109.set_1 | apply IsS109.set_2) | exact HI0.out)) (ra HO355.out) (by decide)) hk (fun _ h => h.2)) (fun _ h => h.1)) (KeepBut.trans (by repeat (first | (with_reducible first | exact HK.out | apply KeepBut.set_ | apply keep_drewN | apply keep_drew | apply keep_alloc) | exact HK.out)) hk (.inl rfl)) (hb) (hi); clear HO_3 HO355 HK HB HI0; obtain ⟨HO_3, HO355, HK, HB, HI0⟩ := t_; (try clear hb); (try clear hk); (try clear hi)) | ((with_reducible refine gate_dst (N := 5) rfl ?_); refine box_event ?hg (N := 5) ?hd (cs := #[.int .i64 0, .int .i64 0, .int .i64 0]) (t := 50) ?hr ?_; (case hd => rfl); (case hg => rfl); (case hr => first | (go_simp; done) | (go_simp; rfl)); intro gb359 hg w44 hbox hb; have t_ := fc10 (Kd.R_below (Kd.R_elderB (ra HO_3.out) gb359 (Nat.le_of_eq hg.symm)) hb) (Kd.R_below (ra HO355.out) hb) (IsS109.below (by repeat (first | (with_reducible first | exact HI0.out | apply IsS109.alloc | apply IsS109.drewN | apply IsS109.drew | apply IsS109.set_1 | apply IsS109.set_2) | exact HI0.out)) hb) (KeepBut.trans (by repeat (first | (with_reducible first | exact HK.out | apply KeepBut.set_ | apply keep_drewN | apply keep_drew | apply keep_alloc) | exact HK.out)) (KeepBut.of_below hb g none) (.inl rfl)) (below_step (by repeat (first | (with_reducible first | exact HB.out | apply below_alloc | apply pw_below_drewN | apply below_drew1 | refine below_set ?_ (IsS109.ge HI0.out)) | exact HB.out)) hb) (hbox) ((by rw [hg]; exact (keep_size (w := w) (g := g) (row := none) (by repeat (first | (with_reducible first | exact HK.out | apply KeepBut.set_ | apply keep_drewN | apply keep_drew | apply keep_alloc) | exact HK.out))) : w.heap.size ≤ gb359)) ((Nat.le_trans HW0.out (by rw [hg]; exact (keep_size (w := w) (g := g) (row := none) (by repeat (first | (with_reducible first | exact HK.out | apply KeepBut.set_ | apply keep_drewN | apply keep_drew | apply keep_alloc) | exact HK.out))) : w.heap.size ≤ gb359) : w0.heap.size ≤ gb359)) ((by rw [hg]; exact Nat.ne_of_lt (IsS109.lt (show IsS109 w0 _ g s0_0 t357 t358 from by repeat (first | (with_reducible first | exact HI0.out | apply IsS109.alloc | apply IsS109.drewN | apply IsS109.drew | apply IsS109.set_1 | apply IsS109.set_2) | exact HI0.out))) : g ≠ gb359)) ((by rw [hg]; exact Nat.ne_of_gt (IsS109.lt (show IsS109 w0 _ g s0_0 t357 t358 from by repeat (first | (with_reducible first | exact HI0.out | apply IsS109.alloc | apply IsS109.drewN | apply IsS109.drew | apply IsS109.set_1 | apply IsS109.set_2) | exact HI0.out))) : gb359 ≠ g)); clear HO_3 HO355 HI0 HK HB; obtain ⟨HO_3, HO355, HI0, HK, HB, BK359, GW359, GE359, NB0_359, NB359_0⟩ := t_; clear hb hbox hg; have hnb45 := NB359_0.out; have hnc45 := NB0_359.out; obtain ⟨hcz46_0, hcz46_1, hcz46_2, hfz46_0, hfz46_1, hfz46_2⟩ := bx3 BK359.out))
       have n0_ : Aside0 (Kd.R k50 50 (((w44.setCell ⟨gb359, 0, none⟩ (.int .i64 t347)).setCell ⟨gb359, 1, none⟩ (.int .i64 t350)).setCell ⟨gb359, 2, none⟩ (.int .i64 t356)) w.heap.size (fun k_ => k_ ≠ gb359) (.slice Ao37 x3_1.length co37) x3_1) := ⟨by (with_reducible repeat (first | apply Kd.R_alloc | apply Kd.R_drewN | apply Kd.R_drew)); exact Kd.R_mono (Kd.R_far (p := ⟨gb359, 2, none⟩) (Kd.R_far (p := ⟨gb359, 1, none⟩) (Kd.R_far (p := ⟨gb359, 0, none⟩) (Kd.R_mono HO_3.out (fun k_ hk => (⟨hk, hk.2⟩ : _ ∧ k_ ≠ gb359))) fk (.int .i64 t347)) fk (.int .i64 t350)) fk (.int .i64 t356)) (fun _ hk => by first | exact hk.1.2 | exact hk)⟩
       have n1_ : Aside0 (Kd.R (Kd.int .i64) 3 (((w44.setCell ⟨gb359, 0, none⟩ (.int .i64 t347)).setCell ⟨gb359, 1, none⟩ (.int .i64 t350)).setCell ⟨gb359, 2, none⟩ (.int .i64 t356)) w.heap.size (fun _ => True) (.slice Ao42 y353.length co42) y353) := ⟨by (with_reducible repeat (first | apply Kd.R_alloc | apply Kd.R_drewN | apply Kd.R_drew)); exact Kd.R_mono (Kd.R_far (p := ⟨gb359, 2, none⟩) (Kd.R_far (p := ⟨gb359, 1, none⟩) (Kd.R_far (p := ⟨gb359, 0, none⟩) (Kd.R_types HO355.out BK359.out (by decide)) fk (.int .i64 t347)) fk (.int .i64 t350)) fk (.int .i64 t356)) (fun _ hk => trivial)⟩
       have n2_ : Aside0 ((((w44.setCell ⟨gb359, 0, none⟩ (.int .i64 t347)).setCell ⟨gb359, 1, none⟩ (.int .i64 t350)).setCell ⟨gb359, 2, none⟩ (.int .i64 t356)).heap[gb359]? = some (.cells #[.int .i64 t347, .int .i64 t350, .int .i64 t356] 50 (0, 0))) := ⟨by (with_reducible repeat (first | refine blk_drewN ?_ _ | refine blk_drew ?_ | refine blk_alloc ?_ _)); refine blk_put (cs := #[.int .i64 t347, .int .i64 t350, .int .i64 0]) ?_ 2 _ rfl; (with_reducible repeat (first | refine blk_drewN ?_ _ | refine blk_drew ?_ | refine blk_alloc ?_ _)); refine blk_put (cs := #[.int .i64 t347, .int .i64 0, .int .i64 0]) ?_ 1 _ rfl; (with_reducible repeat (first | refine blk_drewN ?_ _ | refine blk_drew ?_ | refine blk_alloc ?_ _)); refine blk_put (cs := #[.int .i64 0, .int .i64 0, .int .i64 0]) ?_ 0 _ rfl; exact bk⟩
       have n3_ : Aside0 (IsS109 w0 (((w44.setCell ⟨gb359, 0, none⟩ (.int .i64 t347)).setCell ⟨gb359, 1, none⟩ (.int .i64 t350)).setCell ⟨gb359, 2, none⟩ (.int .i64 t356)) g s0_0 t357 t358) := ⟨by repeat (first | (with_reducible first | exact HI0.out | apply IsS109.alloc | apply IsS109.drewN | apply IsS109.drew | apply IsS109.set_1 | apply IsS109.set_2 | refine IsS109.far ?_ NB0_359.out _) | exact HI0.out)⟩
       have n4_ : Aside0 (KeepBut w (((w44.setCell ⟨gb359, 0, none⟩ (.int .i64 t347)).setCell ⟨gb359, 1, none⟩ (.int .i64 t350)).setCell ⟨gb359, 2, none⟩ (.int .i64 t356)) g none) := ⟨by repeat (first | (with_reducible first | exact HK.out | apply KeepBut.set_ | apply keep_drewN | apply keep_drew | apply keep_alloc | refine keep_far ?_ GW359.out _) | exact HK.out)⟩
       have n5_ : Aside0 (Below w0.heap.size w0 (((w44.setCell ⟨gb359, 0, none⟩ (.int .i64 t347)).setCell ⟨gb359, 1, none⟩ (.int .i64 t350)).setCell ⟨gb359, 2, none⟩ (.int .i64 t356))) := ⟨by repeat (first | (with_reducible first | exact HB.out | apply below_alloc | apply pw_below_drewN | apply below_drew1 | refine below_set ?_ (IsS109.ge HI0.out) | refine below_set ?_ GE359.out) | exact HB.out)⟩
       (try clear HO_3)
       (try clear HO355)
       (try clear BK359)
       (try clear HI0)
       (try clear HK)
       (try clear HB)
       generalize (((w44.setCell ⟨gb359, 0, none⟩ (.int .i64 t347)).setCell ⟨gb359, 1, none⟩ (.int .i64 t350)).setCell ⟨gb359, 2, none⟩ (.int .i64 t356)) = w47 at n0_ n1_ n2_ n3_ n4_ n5_ ⊢
       have HO_3 := n0_
       have HO355 := n1_
       have BK359 := n2_
       have HI0 := n3_
       have HK := n4_
       have HB := n5_
       clear n0_ n1_ n2_ n3_ n4_ n5_
       have t_ := fc6 (Kd.R_drew HO_3.out) (Kd.R_drew HO355.out) (blk_drew BK359.out) (IsS109.drew HI0.out) (keep_drew HK.out) (below_drew1 HB.out)
       clear HO_3 HO355 BK359 HI0 HK HB
       obtain ⟨HO_3, HO355, BK359, HI0, HK, HB⟩ := t_
       refine start_ (n := 7) (S := fun w' => w'.cell? ⟨gb359, 0, none⟩ = some (.int .i64 t347) ∧ w'.cell? ⟨gb359, 1, none⟩ = some (.int .i64 t350) ∧ w'.cell? ⟨gb359, 2, none⟩ = some (.int .i64 t356)) (ds := []) #[false, false, false, false, false, false, false] (by kernel_rfl) rfl rfl ⟨(blk_cell BK359.out 0).trans rfl, (blk_cell BK359.out 1).trans rfl, (blk_cell BK359.out 2).trans rfl⟩ (fun hHeld => ?_)
       generalize w47.drew = w48 at HO_3 HO355 BK359 HI0 HK HB hHeld ⊢
       refine pure_ (i := 1) (N := some 27) (v := ?_) (a' := ?_) #[false, true, false, false, false, false, false] rfl rfl (by kernel_rfl) (fun _ _ _ h => h) (Or.inl ⟨by rfl, ?_⟩) ?_ ?_
       rotate_left
       ·intro w'
        go_simp
        with_reducible rfl
       rotate_left
       ·simp only [Act.put, List.setIfInBounds_toArray, List.set_cons_zero, List.set_cons_succ, i64_w, i32_w]
        rfl
       refine take_ (i := 3) (N := some 29) (v := ?_) (a' := ?_) #[false, true, false, true, false, false, false] rfl rfl (by kernel_rfl) (fun _ _ _ h => h) (Or.inl ⟨by rfl, ?_⟩) hHeld ?_ ?_
       rotate_left
       ·rintro w' ⟨s0, s1, s2⟩
        go_simp
        with_reducible rfl
       rotate_left
       ·simp only [Act.put, List.setIfInBounds_toArray, List.set_cons_zero, List.set_cons_succ, i64_w, i32_w]
        rfl
       refine join_ (σ := Value × Value × Value) 2 #[true, true, true, true, true, false, false] (fun s_ => [(26, s_.1), (28, s_.2.1), (30, s_.2.2)]) (fun s_ w' => (w'.cell? ⟨gb359, 0, none⟩ = some (.int .i64 t347) ∧ w'.cell? ⟨gb359, 1, none⟩ = some (.int .i64 t350) ∧ w'.cell? ⟨gb359, 2, none⟩ = some (.int .i64 t356)) ∧ (Kd.R (Kd.int .i64) 3 w' w.heap.size (fun _ => True) (.slice Ao42 y353.length co42) y353) ∧ (Kd.R k50 50 w' w.heap.size (fun k_ => some k_ ≠ (s_.2.2 : Value).ownBlock ∧ some k_ ≠ (.slice Ao37 x3_1.length co37 : Value).ownBlock ∧ k_ ≠ gb359) s_.2.1 y363) ∧ (Kd.R k50 50 w' w.heap.size (fun k_ => some k_ ≠ (s_.2.1 : Value).ownBlock ∧ some k_ ≠ (.slice Ao37 x3_1.length co37 : Value).ownBlock ∧ k_ ≠ gb359) s_.2.2 y366) ∧ (Kd.R k50 50 w' w.heap.size (fun k_ => some k_ ≠ (s_.2.1 : Value).ownBlock ∧ some k_ ≠ (s_.2.2 : Value).ownBlock ∧ k_ ≠ gb359) (.slice Ao37 x3_1.length co37) x3_1) ∧ (w'.heap[gb359]? = some (.cells #[.int .i64 t347, .int .i64 t350, .int .i64 t356] 50 (0, 0))) ∧ (IsS109 w0 w' g s0_0 t357 t358) ∧ (KeepBut w w' g none) ∧ (Below w0.heap.size w0 w')) ?_ ?_
       rotate_left
       ·intro hCont
        refine two_ (i := 0) (j := 4) (Ni := some 26) (Nj := some 30) #[true, true, false, true, false, false, false] #[false, true, false, true, true, false, false] rfl rfl rfl rfl (by kernel_rfl) (by decide) (by decide) (fun K hK => ?_) (fun K hK => ?_)
        ·skip
         refine Kd.R_lit_step k50 _ 50 ?hg (N := 26) ?hd (xs := ([] : List (S50))) (inner := []) (ok := fun _ => True) (okp := fun _ => True) ?hr ?hp (fun _ hk => hk) trivial (Below.refl _ _) (Nat.le_refl _) (by simp) ?_; (case hd => rfl); (case hg => rfl); (case hr => first | (go_simp; done) | (go_simp; rfl)); (case hp => exact (Reps.none _ _))
         intro v361 w49 ho50 hb hg_ hnew_
         clear hg_ hnew_
         (first | rw [← Ny360.out] at ho50 | (simp only [Int.reduceToNat] at ho50; rw [← Ny360.out] at ho50))
         have t_ := fc7 (Kd.R_elder' (ra HO_3.out) (Kd.R_base ho50) hb) (Kd.R_below (ra HO355.out) hb) (Kd.R_lower (Kd.R_newB (Kd.R_new' ho50 (Kd.R_lt (ra HO_3.out))) (g := gb359) (o := .cells #[.int .i64 t347, .int .i64 t350, .int .i64 t356] 50 (0, 0)) bk) (keep_size (w := w) (g := g) (row := none) (by repeat (first | (with_reducible first | exact HK.out | apply KeepBut.set_ | apply keep_drewN | apply keep_drew | apply keep_alloc | refine keep_far ?_ GW359.out _) | exact HK.out)))) (IsS109.below (by repeat (first | (with_reducible first | exact HI0.out | apply IsS109.alloc | apply IsS109.drewN | apply IsS109.drew | apply IsS109.set_1 | apply IsS109.set_2 | refine IsS109.far ?_ NB0_359.out _) | exact HI0.out)) hb) (bw BK359 hb) (KeepBut.trans (by repeat (first | (with_reducible first | exact HK.out | apply KeepBut.set_ | apply keep_drewN | apply keep_drew | apply keep_alloc | refine keep_far ?_ GW359.out _) | exact HK.out)) (KeepBut.of_below hb g none) (.inl rfl)) (below_step (by repeat (first | (with_reducible first | exact HB.out | apply below_alloc | apply pw_below_drewN | apply below_drew1 | refine below_set ?_ (IsS109.ge HI0.out) | refine below_set ?_ GE359.out) | exact HB.out)) hb)
         clear HO_3 HO355 HI0 BK359 HK HB
         obtain ⟨HO_3, HO355, HO362, HI0, BK359, HK, HB⟩ := t_
         clear hb ho50
         refine hK.out _ _ ⟨(blk_cell BK359.out 0).trans rfl, (blk_cell BK359.out 1).trans rfl, (blk_cell BK359.out 2).trans rfl⟩ (fun hHeld => ?_)
         clear hK K
         refine norm_ (a' := ?_) ?_ ?_
         rotate_left
         ·show Act.put _ (some 26) _ = _
          simp only [Act.put, List.setIfInBounds_toArray, List.set_cons_zero, List.set_cons_succ, i64_w, i32_w]
          rfl
         refine two_ (i := 2) (j := 4) (Ni := some 28) (Nj := some 30) #[true, true, true, true, false, false, false] #[true, true, false, true, true, false, false] rfl rfl rfl rfl (by kernel_rfl) (by decide) (by decide) (fun K hK => ?_) (fun K hK => ?_)
         ·skip
          refine Kd.R_append_rows_step k50 w.heap.size (by rfl) (.tmp 26) (.tmp 27) 29 50 (.agg #[(.int .i64 0), (.int .i64 0), (.int .i64 0)]) 24 rfl Try.underlying29 info50 rfl (by decide) (by omega) v361 y360 x3_1 _ _ _ (fun k_ => some k_ ≠ (.slice Ao37 x3_1.length co37 : Value).ownBlock ∧ k_ ≠ gb359) (fun _ => False) rfl rfl ?aO ?aR (fun _ _ h => h) (fun _ h => h.elim) ?aF (Below.refl _ _) ?aS ?aL ?_
          (case aR => repeat (first | exact (Kd.R_reads' HO_3.out).2.2 | (with_reducible refine Kd.C_alloc ?_ _) | (with_reducible refine Kd.C_drewN ?_ _) | (with_reducible refine Kd.C_drew ?_)))
          (case aF => exact (fun k_ hk => ⟨Kd.fresh' (Kd.R_lt (ra HO_3.out)) k_ hk, Kd.freshB (g := gb359) (o := .cells #[.int .i64 t347, .int .i64 t350, .int .i64 t356] 50 (0, 0)) bk k_ hk⟩))
          (case aO => exact (ra (Kd.R_mono HO362.out (fun _ hk => (And.intro (hk.1.2) (hk.2))))))
          (case aS => exact (keep_size (w := w) (g := g) (row := none) (by repeat (first | (with_reducible first | exact HK.out | apply KeepBut.set_ | apply keep_drewN | apply keep_drew | apply keep_alloc | refine keep_far ?_ GW359.out _) | exact HK.out))))
          (case aL => have := LMc9.out; omega)
          intro v364 w51 ho hb hg hat
          rw [← Ny363.out] at ho
          have t_ := fc7 (Kd.R_after (ok := (fun k_ => k_ ≠ gb359)) (ra HO_3.out) hg hat) (IsS109.grown (by repeat (first | (with_reducible first | exact HI0.out | apply IsS109.alloc | apply IsS109.drewN | apply IsS109.drew | apply IsS109.set_1 | apply IsS109.set_2 | refine IsS109.far ?_ NB0_359.out _) | exact HI0.out)) hg (IsS109.own_ne HI0.out HO362.out (by decide))) (Kd.R_over' (ra HO355.out) (Kd.R_typed (ra HO362.out)) (by decide) hg) (blk_grown (g := gb359) (o := .cells #[.int .i64 t347, .int .i64 t350, .int .i64 t356] 50 (0, 0)) bk hg (Kd.R_away HO362.out fk)) (below_weaken (by repeat (first | (with_reducible first | exact HB.out | apply below_alloc | apply pw_below_drewN | apply below_drew1 | refine below_set ?_ (IsS109.ge HI0.out) | refine below_set ?_ GE359.out) | exact HB.out)) HL.out hb) (KeepBut.trans (by repeat (first | (with_reducible first | exact HK.out | apply KeepBut.set_ | apply keep_drewN | apply keep_drew | apply keep_alloc | refine keep_far ?_ GW359.out _) | exact HK.out)) (KeepBut.of_grown hg g) (Kd.R_base2 HO362.out)) (ho)
          clear HO_3 HI0 HO355 BK359 HB HK HO362
          obtain ⟨HO_3, HI0, HO355, BK359, HB, HK, HO365⟩ := t_
          clear ho hb hg hat
          refine hK.out _ _ ⟨(blk_cell BK359.out 0).trans rfl, (blk_cell BK359.out 1).trans rfl, (blk_cell BK359.out 2).trans rfl⟩ (fun hHeld => ?_)
          clear hK K
          refine norm_ (a' := ?_) ?_ ?_
          rotate_left
          ·show Act.put _ (some 28) _ = _
           simp only [Act.put, List.setIfInBounds_toArray, List.set_cons_zero, List.set_cons_succ, i64_w, i32_w]
           rfl
          refine one_ (i := 4) (N := some 30) #[true, true, true, true, true, false, false] rfl rfl (by kernel_rfl) (by decide) (fun K hK => ?_)
          refine Kd.R_lit_step k50 _ 50 ?hg (N := 30) ?hd (xs := ([(⟨t347, t350, t356⟩ : S50)] : List (S50))) (inner := [.int .i64 t347, .int .i64 t350, .int .i64 t356]) (ok := fun _ => True) (okp := fun _ => True) ?hr ?hp (fun _ hk => hk) trivial (Below.refl _ _) (Nat.le_refl _) (by simp) ?_; (case hd => rfl); (case hg => rfl); (case hr => first | (go_simp; done) | (go_simp; rfl)); (case hp => exact (Reps.c3 (show Kd.M k50 _ _ _ (⟨t347, t350, t356⟩ : S50) [.int .i64 t347, .int .i64 t350, .int .i64 t356] from (k50_mkM _ _ _ (⟨t347, t350, t356⟩ : S50) )) (Reps.none _ _)))
          intro v367 w52 ho53 hb hg_ hnew_
          clear hg_ hnew_
          (first | rw [← Ny366.out] at ho53 | (simp only [Int.reduceToNat] at ho53; rw [← Ny366.out] at ho53))
          have t_ := fc8 (Kd.R_elder' (ra HO_3.out) (Kd.R_base ho53) hb) (Kd.R_below (ra HO355.out) hb) (Kd.R_elder' (ra HO365.out) (Kd.R_base ho53) hb) (Kd.R_lower (Kd.R_newB (Kd.R_new' (Kd.R_new' ho53 (Kd.R_lt (ra HO_3.out))) (Kd.R_lt (ra HO365.out))) (g := gb359) (o := .cells #[.int .i64 t347, .int .i64 t350, .int .i64 t356] 50 (0, 0)) bk) (keep_size (w := w) (g := g) (row := none) (by repeat (first | (with_reducible first | exact HK.out | apply KeepBut.set_ | apply keep_drewN | apply keep_drew | apply keep_alloc | refine keep_far ?_ GW359.out _) | exact HK.out)))) (IsS109.below (by repeat (first | (with_reducible first | exact HI0.out | apply IsS109.alloc | apply IsS109.drewN | apply IsS109.drew | apply IsS109.set_1 | apply IsS109.set_2 | refine IsS109.far ?_ NB0_359.out _) | exact HI0.out)) hb) (bw BK359 hb) (KeepBut.trans (by repeat (first | (with_reducible first | exact HK.out | apply KeepBut.set_ | apply keep_drewN | apply keep_drew | apply keep_alloc | refine keep_far ?_ GW359.out _) | exact HK.out)) (KeepBut.of_below hb g none) (.inl rfl)) (below_step (by repeat (first | (with_reducible first | exact HB.out | apply below_alloc | apply pw_below_drewN | apply below_drew1 | refine below_set ?_ (IsS109.ge HI0.out) | refine below_set ?_ GE359.out) | exact HB.out)) hb)
          clear HO_3 HO355 HO365 HI0 BK359 HK HB
          obtain ⟨HO_3, HO355, HO365, HO368, HI0, BK359, HK, HB⟩ := t_
          clear hb ho53
          refine hK.out _ _ ⟨(blk_cell BK359.out 0).trans rfl, (blk_cell BK359.out 1).trans rfl, (blk_cell BK359.out 2).trans rfl⟩ (fun hHeld => ?_)
          clear hK K
          refine norm_ (a' := ?_) ?_ ?_
          rotate_left
          ·show Act.put _ (some 30) _ = _
           simp only [Act.put, List.setIfInBounds_toArray, List.set_cons_zero, List.set_cons_succ, i64_w, i32_w]
           rfl
          exact norm_ (by simp only [putAll, Act.put, List.setIfInBounds_toArray, List.set_cons_zero, List.set_cons_succ]) (hCont (v361, v364, v367) _ ⟨hHeld, (ra HO355.out), (ra (Kd.R_mono HO365.out (fun _ hk => (And.intro (hk.2) ((And.intro (hk.1.1) (hk.1.2))))))), (ra (Kd.R_mono HO368.out (fun _ hk => (And.intro (hk.1.2) ((And.intro (hk.1.1.2) (hk.2))))))), (ra (Kd.R_mono HO_3.out (fun _ hk => (And.intro (hk.1.2) ((And.intro (hk.2) (hk.1.1))))))), bk, (by repeat (first | (with_reducible first | exact HI0.out | apply IsS109.alloc | apply IsS109.drewN | apply IsS109.drew | apply IsS109.set_1 | apply IsS109.set_2 | refine IsS109.far ?_ NB0_359.out _) | exact HI0.out)), (by repeat (first | (with_reducible first | exact HK.out | apply KeepBut.set_ | apply keep_drewN | apply keep_drew | apply keep_alloc | refine keep_far ?_ GW359.out _) | exact HK.out)), (by repeat (first | (with_reducible first | exact HB.out | apply below_alloc | apply pw_below_drewN | apply below_drew1 | refine below_set ?_ (IsS109.ge HI0.out) | refine below_set ?_ GE359.out) | exact HB.out))⟩)
         ·skip
          refine Kd.R_lit_step k50 _ 50 ?hg (N := 30) ?hd (xs := ([(⟨t347, t350, t356⟩ : S50)] : List (S50))) (inner := [.int .i64 t347, .int .i64 t350, .int .i64 t356]) (ok := fun _ => True) (okp := fun _ => True) ?hr ?hp (fun _ hk => hk) trivial (Below.refl _ _) (Nat.le_refl _) (by simp) ?_; (case hd => rfl); (case hg => rfl); (case hr => first | (go_simp; done) | (go_simp; rfl)); (case hp => exact (Reps.c3 (show Kd.M k50 _ _ _ (⟨t347, t350, t356⟩ : S50) [.int .i64 t347, .int .i64 t350, .int .i64 t356] from (k50_mkM _ _ _ (⟨t347, t350, t356⟩ : S50) )) (Reps.none _ _)))
          intro v367 w51 ho52 hb hg_ hnew_
          clear hg_ hnew_
          (first | rw [← Ny366.out] at ho52 | (simp only [Int.reduceToNat] at ho52; rw [← Ny366.out] at ho52))
          have t_ := fc8 (Kd.R_elder' (ra HO_3.out) (Kd.R_base ho52) hb) (Kd.R_below (ra HO355.out) hb) (Kd.R_elder' (ra HO362.out) (Kd.R_base ho52) hb) (Kd.R_lower (Kd.R_newB (Kd.R_new' (Kd.R_new' ho52 (Kd.R_lt (ra HO_3.out))) (Kd.R_lt (ra HO362.out))) (g := gb359) (o := .cells #[.int .i64 t347, .int .i64 t350, .int .i64 t356] 50 (0, 0)) bk) (keep_size (w := w) (g := g) (row := none) (by repeat (first | (with_reducible first | exact HK.out | apply KeepBut.set_ | apply keep_drewN | apply keep_drew | apply keep_alloc | refine keep_far ?_ GW359.out _) | exact HK.out)))) (IsS109.below (by repeat (first | (with_reducible first | exact HI0.out | apply IsS109.alloc | apply IsS109.drewN | apply IsS109.drew | apply IsS109.set_1 | apply IsS109.set_2 | refine IsS109.far ?_ NB0_359.out _) | exact HI0.out)) hb) (bw BK359 hb) (KeepBut.trans (by repeat (first | (with_reducible first | exact HK.out | apply KeepBut.set_ | apply keep_drewN | apply keep_drew | apply keep_alloc | refine keep_far ?_ GW359.out _) | exact HK.out)) (KeepBut.of_below hb g none) (.inl rfl)) (below_step (by repeat (first | (with_reducible first | exact HB.out | apply below_alloc | apply pw_below_drewN | apply below_drew1 | refine below_set ?_ (IsS109.ge HI0.out) | refine below_set ?_ GE359.out) | exact HB.out)) hb)
          clear HO_3 HO355 HO362 HI0 BK359 HK HB
          obtain ⟨HO_3, HO355, HO362, HO368, HI0, BK359, HK, HB⟩ := t_
          clear hb ho52
          refine hK.out _ _ ⟨(blk_cell BK359.out 0).trans rfl, (blk_cell BK359.out 1).trans rfl, (blk_cell BK359.out 2).trans rfl⟩ (fun hHeld => ?_)
          clear hK K
          refine norm_ (a' := ?_) ?_ ?_
          rotate_left
          ·show Act.put _ (some 30) _ = _
           simp only [Act.put, List.setIfInBounds_toArray, List.set_cons_zero, List.set_cons_succ, i64_w, i32_w]
           rfl
          refine one_ (i := 2) (N := some 28) #[true, true, true, true, true, false, false] rfl rfl (by kernel_rfl) (by decide) (fun K hK => ?_)
          refine Kd.R_append_rows_step k50 w.heap.size (by rfl) (.tmp 26) (.tmp 27) 29 50 (.agg #[(.int .i64 0), (.int .i64 0), (.int .i64 0)]) 24 rfl Try.underlying29 info50 rfl (by decide) (by omega) v361 y360 x3_1 _ _ _ (fun k_ => some k_ ≠ (.slice Ao37 x3_1.length co37 : Value).ownBlock ∧ some k_ ≠ (v367 : Value).ownBlock ∧ k_ ≠ gb359) (fun _ => False) rfl rfl ?aO ?aR (fun _ _ h => h) (fun _ h => h.elim) ?aF (Below.refl _ _) ?aS ?aL ?_
          (case aR => repeat (first | exact (Kd.R_reads' HO_3.out).2.2 | (with_reducible refine Kd.C_alloc ?_ _) | (with_reducible refine Kd.C_drewN ?_ _) | (with_reducible refine Kd.C_drew ?_)))
          (case aF => exact (fun k_ hk => ⟨Kd.fresh' (Kd.R_lt (ra HO_3.out)) k_ hk, Kd.fresh' (Kd.R_lt (ra HO368.out)) k_ hk, Kd.freshB (g := gb359) (o := .cells #[.int .i64 t347, .int .i64 t350, .int .i64 t356] 50 (0, 0)) bk k_ hk⟩))
          (case aO => exact (ra (Kd.R_mono HO362.out (fun _ hk => (And.intro (hk.1.1.2) ((And.intro (hk.2) (hk.1.2))))))))
          (case aS => exact (keep_size (w := w) (g := g) (row := none) (by repeat (first | (with_reducible first | exact HK.out | apply KeepBut.set_ | apply keep_drewN | apply keep_drew | apply keep_alloc | refine keep_far ?_ GW359.out _) | exact HK.out))))
          (case aL => have := LMc9.out; omega)
          intro v364 w53 ho hb hg hat
          rw [← Ny363.out] at ho
          have t_ := fc8 (Kd.R_after (ok := (fun k_ => some k_ ≠ (v367 : Value).ownBlock ∧ k_ ≠ gb359)) (ra (Kd.R_mono HO_3.out (fun _ hk => (And.intro ((And.intro (hk.2) (hk.1.1))) (hk.1.2))))) hg hat) (IsS109.grown (by repeat (first | (with_reducible first | exact HI0.out | apply IsS109.alloc | apply IsS109.drewN | apply IsS109.drew | apply IsS109.set_1 | apply IsS109.set_2 | refine IsS109.far ?_ NB0_359.out _) | exact HI0.out)) hg (IsS109.own_ne HI0.out HO362.out (by decide))) (Kd.R_over' (ra HO355.out) (Kd.R_typed (ra HO362.out)) (by decide) hg) (blk_grown (g := gb359) (o := .cells #[.int .i64 t347, .int .i64 t350, .int .i64 t356] 50 (0, 0)) bk hg (Kd.R_away HO362.out (fun _ hk => by first | exact hk.1.2 | exact hk))) (Kd.R_after (ok := (fun k_ => some k_ ≠ (.slice Ao37 x3_1.length co37 : Value).ownBlock ∧ k_ ≠ gb359)) (ra (Kd.R_mono HO368.out (fun _ hk => (And.intro ((And.intro (hk.1.1.2) (hk.2))) (hk.1.2))))) hg hat) (below_weaken (by repeat (first | (with_reducible first | exact HB.out | apply below_alloc | apply pw_below_drewN | apply below_drew1 | refine below_set ?_ (IsS109.ge HI0.out) | refine below_set ?_ GE359.out) | exact HB.out)) HL.out hb) (KeepBut.trans (by repeat (first | (with_reducible first | exact HK.out | apply KeepBut.set_ | apply keep_drewN | apply keep_drew | apply keep_alloc | refine keep_far ?_ GW359.out _) | exact HK.out)) (KeepBut.of_grown hg g) (Kd.R_base2 HO362.out)) (ho)
          clear HO_3 HI0 HO355 BK359 HO368 HB HK HO362
          obtain ⟨HO_3, HI0, HO355, BK359, HO368, HB, HK, HO365⟩ := t_
          clear ho hb hg hat
          refine hK.out _ _ ⟨(blk_cell BK359.out 0).trans rfl, (blk_cell BK359.out 1).trans rfl, (blk_cell BK359.out 2).trans rfl⟩ (fun hHeld => ?_)
          clear hK K
          refine norm_ (a' := ?_) ?_ ?_
          rotate_left
          ·show Act.put _ (some 28) _ = _
           simp only [Act.put, List.setIfInBounds_toArray, List.set_cons_zero, List.set_cons_succ, i64_w, i32_w]
           rfl
          exact norm_ (by simp only [putAll, Act.put, List.setIfInBounds_toArray, List.set_cons_zero, List.set_cons_succ]) (hCont (v361, v364, v367) _ ⟨hHeld, (ra HO355.out), (ra (Kd.R_mono HO365.out (fun _ hk => (And.intro (hk.2.1) ((And.intro (hk.1) (hk.2.2))))))), (ra (Kd.R_mono HO368.out (fun _ hk => (And.intro (hk.2) ((And.intro (hk.1.1) (hk.1.2))))))), (ra (Kd.R_mono HO_3.out (fun _ hk => (And.intro (hk.2) ((And.intro (hk.1.1) (hk.1.2))))))), bk, (by repeat (first | (with_reducible first | exact HI0.out | apply IsS109.alloc | apply IsS109.drewN | apply IsS109.drew | apply IsS109.set_1 | apply IsS109.set_2 | refine IsS109.far ?_ NB0_359.out _) | exact HI0.out)), (by repeat (first | (with_reducible first | exact HK.out | apply KeepBut.set_ | apply keep_drewN | apply keep_drew | apply keep_alloc | refine keep_far ?_ GW359.out _) | exact HK.out)), (by repeat (first | (with_reducible first | exact HB.out | apply below_alloc | apply pw_below_drewN | apply below_drew1 | refine below_set ?_ (IsS109.ge HI0.out) | refine below_set ?_ GE359.out) | exact HB.out))⟩)
        ·skip
         refine Kd.R_lit_step k50 _ 50 ?hg (N := 30) ?hd (xs := ([(⟨t347, t350, t356⟩ : S50)] : List (S50))) (inner := [.int .i64 t347, .int .i64 t350, .int .i64 t356]) (ok := fun _ => True) (okp := fun _ => True) ?hr ?hp (fun _ hk => hk) trivial (Below.refl _ _) (Nat.le_refl _) (by simp) ?_; (case hd => rfl); (case hg => rfl); (case hr => first | (go_simp; done) | (go_simp; rfl)); (case hp => exact (Reps.c3 (show Kd.M k50 _ _ _ (⟨t347, t350, t356⟩ : S50) [.int .i64 t347, .int .i64 t350, .int .i64 t356] from (k50_mkM _ _ _ (⟨t347, t350, t356⟩ : S50) )) (Reps.none _ _)))
         intro v367 w49 ho50 hb hg_ hnew_
         clear hg_ hnew_
         (first | rw [← Ny366.out] at ho50 | (simp only [Int.reduceToNat] at ho50; rw [← Ny366.out] at ho50))
         have t_ := fc7 (Kd.R_elder' (ra HO_3.out) (Kd.R_base ho50) hb) (Kd.R_below (ra HO355.out) hb) (Kd.R_lower (Kd.R_newB (Kd.R_new' ho50 (Kd.R_lt (ra HO_3.out))) (g := gb359) (o := .cells #[.int .i64 t347, .int .i64 t350, .int .i64 t356] 50 (0, 0)) bk) (keep_size (w := w) (g := g) (row := none) (by repeat (first | (with_reducible first | exact HK.out | apply KeepBut.set_ | apply keep_drewN | apply keep_drew | apply keep_alloc | refine keep_far ?_ GW359.out _) | exact HK.out)))) (IsS109.below (by repeat (first | (with_reducible first | exact HI0.out | apply IsS109.alloc | apply IsS109.drewN | apply IsS109.drew | apply IsS109.set_1 | apply IsS109.set_2 | refine IsS109.far ?_ NB0_359.out _) | exact HI0.out)) hb) (bw BK359 hb) (KeepBut.trans (by repeat (first | (with_reducible first | exact HK.out | apply KeepBut.set_ | apply keep_drewN | apply keep_drew | apply keep_alloc | refine keep_far ?_ GW359.out _) | exact HK.out)) (KeepBut.of_below hb g none) (.inl rfl)) (below_step (by repeat (first | (with_reducible first | exact HB.out | apply below_alloc | apply pw_below_drewN | apply below_drew1 | refine below_set ?_ (IsS109.ge HI0.out) | refine below_set ?_ GE359.out) | exact HB.out)) hb)
         clear HO_3 HO355 HI0 BK359 HK HB
         obtain ⟨HO_3, HO355, HO368, HI0, BK359, HK, HB⟩ := t_
         clear hb ho50
         refine hK.out _ _ ⟨(blk_cell BK359.out 0).trans rfl, (blk_cell BK359.out 1).trans rfl, (blk_cell BK359.out 2).trans rfl⟩ (fun hHeld => ?_)
         clear hK K
         refine norm_ (a' := ?_) ?_ ?_
         rotate_left
         ·show Act.put _ (some 30) _ = _
          simp only [Act.put, List.setIfInBounds_toArray, List.set_cons_zero, List.set_cons_succ, i64_w, i32_w]
          rfl
         refine one_ (i := 0) (N := some 26) #[true, true, false, true, true, false, false] rfl rfl (by kernel_rfl) (by decide) (fun K hK => ?_)
         refine Kd.R_lit_step k50 _ 50 ?hg (N := 26) ?hd (xs := ([] : List (S50))) (inner := []) (ok := fun _ => True) (okp := fun _ => True) ?hr ?hp (fun _ hk => hk) trivial (Below.refl _ _) (Nat.le_refl _) (by simp) ?_; (case hd => rfl); (case hg => rfl); (case hr => first | (go_simp; done) | (go_simp; rfl)); (case hp => exact (Reps.none _ _))
         intro v361 w51 ho52 hb hg_ hnew_
         clear hg_ hnew_
         (first | rw [← Ny360.out] at ho52 | (simp only [Int.reduceToNat] at ho52; rw [← Ny360.out] at ho52))
         have t_ := fc8 (Kd.R_elder' (ra HO_3.out) (Kd.R_base ho52) hb) (Kd.R_below (ra HO355.out) hb) (Kd.R_elder' (ra HO368.out) (Kd.R_base ho52) hb) (Kd.R_lower (Kd.R_newB (Kd.R_new' (Kd.R_new' ho52 (Kd.R_lt (ra HO_3.out))) (Kd.R_lt (ra HO368.out))) (g := gb359) (o := .cells #[.int .i64 t347, .int .i64 t350, .int .i64 t356] 50 (0, 0)) bk) (keep_size (w := w) (g := g) (row := none) (by repeat (first | (with_reducible first | exact HK.out | apply KeepBut.set_ | apply keep_drewN | apply keep_drew | apply keep_alloc | refine keep_far ?_ GW359.out _) | exact HK.out)))) (IsS109.below (by repeat (first | (with_reducible first | exact HI0.out | apply IsS109.alloc | apply IsS109.drewN | apply IsS109.drew | apply IsS109.set_1 | apply IsS109.set_2 | refine IsS109.far ?_ NB0_359.out _) | exact HI0.out)) hb) (bw BK359 hb) (KeepBut.trans (by repeat (first | (with_reducible first | exact HK.out | apply KeepBut.set_ | apply keep_drewN | apply keep_drew | apply keep_alloc | refine keep_far ?_ GW359.out _) | exact HK.out)) (KeepBut.of_below hb g none) (.inl rfl)) (below_step (by repeat (first | (with_reducible first | exact HB.out | apply below_alloc | apply pw_below_drewN | apply below_drew1 | refine below_set ?_ (IsS109.ge HI0.out) | refine below_set ?_ GE359.out) | exact HB.out)) hb)
         clear HO_3 HO355 HO368 HI0 BK359 HK HB
         obtain ⟨HO_3, HO355, HO368, HO362, HI0, BK359, HK, HB⟩ := t_
         clear hb ho52
         refine hK.out _ _ ⟨(blk_cell BK359.out 0).trans rfl, (blk_cell BK359.out 1).trans rfl, (blk_cell BK359.out 2).trans rfl⟩ (fun hHeld => ?_)
         clear hK K
         refine norm_ (a' := ?_) ?_ ?_
         rotate_left
         ·show Act.put _ (some 26) _ = _
          simp only [Act.put, List.setIfInBounds_toArray, List.set_cons_zero, List.set_cons_succ, i64_w, i32_w]
          rfl
         refine one_ (i := 2) (N := some 28) #[true, true, true, true, true, false, false] rfl rfl (by kernel_rfl) (by decide) (fun K hK => ?_)
         refine Kd.R_append_rows_step k50 w.heap.size (by rfl) (.tmp 26) (.tmp 27) 29 50 (.agg #[(.int .i64 0), (.int .i64 0), (.int .i64 0)]) 24 rfl Try.underlying29 info50 rfl (by decide) (by omega) v361 y360 x3_1 _ _ _ (fun k_ => some k_ ≠ (.slice Ao37 x3_1.length co37 : Value).ownBlock ∧ some k_ ≠ (v367 : Value).ownBlock ∧ k_ ≠ gb359) (fun _ => False) rfl rfl ?aO ?aR (fun _ _ h => h) (fun _ h => h.elim) ?aF (Below.refl _ _) ?aS ?aL ?_
         (case aR => repeat (first | exact (Kd.R_reads' HO_3.out).2.2 | (with_reducible refine Kd.C_alloc ?_ _) | (with_reducible refine Kd.C_drewN ?_ _) | (with_reducible refine Kd.C_drew ?_)))
         (case aF => exact (fun k_ hk => ⟨Kd.fresh' (Kd.R_lt (ra HO_3.out)) k_ hk, Kd.fresh' (Kd.R_lt (ra HO368.out)) k_ hk, Kd.freshB (g := gb359) (o := .cells #[.int .i64 t347, .int .i64 t350, .int .i64 t356] 50 (0, 0)) bk k_ hk⟩))
         (case aO => exact (ra (Kd.R_mono HO362.out (fun _ hk => (And.intro (hk.1.1.2) ((And.intro (hk.1.2) (hk.2))))))))
         (case aS => exact (keep_size (w := w) (g := g) (row := none) (by repeat (first | (with_reducible first | exact HK.out | apply KeepBut.set_ | apply keep_drewN | apply keep_drew | apply keep_alloc | refine keep_far ?_ GW359.out _) | exact HK.out))))
         (case aL => have := LMc9.out; omega)
         intro v364 w53 ho hb hg hat
         rw [← Ny363.out] at ho
         have t_ := fc8 (Kd.R_after (ok := (fun k_ => some k_ ≠ (v367 : Value).ownBlock ∧ k_ ≠ gb359)) (ra (Kd.R_mono HO_3.out (fun _ hk => (And.intro ((And.intro (hk.1.2) (hk.1.1))) (hk.2))))) hg hat) (IsS109.grown (by repeat (first | (with_reducible first | exact HI0.out | apply IsS109.alloc | apply IsS109.drewN | apply IsS109.drew | apply IsS109.set_1 | apply IsS109.set_2 | refine IsS109.far ?_ NB0_359.out _) | exact HI0.out)) hg (IsS109.own_ne HI0.out HO362.out (by decide))) (Kd.R_over' (ra HO355.out) (Kd.R_typed (ra HO362.out)) (by decide) hg) (blk_grown (g := gb359) (o := .cells #[.int .i64 t347, .int .i64 t350, .int .i64 t356] 50 (0, 0)) bk hg (Kd.R_away HO362.out fk)) (Kd.R_after (ok := (fun k_ => some k_ ≠ (.slice Ao37 x3_1.length co37 : Value).ownBlock ∧ k_ ≠ gb359)) (ra (Kd.R_mono HO368.out (fun _ hk => (And.intro ((And.intro (hk.1.1.2) (hk.1.2))) (hk.2))))) hg hat) (below_weaken (by repeat (first | (with_reducible first | exact HB.out | apply below_alloc | apply pw_below_drewN | apply below_drew1 | refine below_set ?_ (IsS109.ge HI0.out) | refine below_set ?_ GE359.out) | exact HB.out)) HL.out hb) (KeepBut.trans (by repeat (first | (with_reducible first | exact HK.out | apply KeepBut.set_ | apply keep_drewN | apply keep_drew | apply keep_alloc | refine keep_far ?_ GW359.out _) | exact HK.out)) (KeepBut.of_grown hg g) (Kd.R_base2 HO362.out)) (ho)
         clear HO_3 HI0 HO355 BK359 HO368 HB HK HO362
         obtain ⟨HO_3, HI0, HO355, BK359, HO368, HB, HK, HO365⟩ := t_
         clear ho hb hg hat
         refine hK.out _ _ ⟨(blk_cell BK359.out 0).trans rfl, (blk_cell BK359.out 1).trans rfl, (blk_cell BK359.out 2).trans rfl⟩ (fun hHeld => ?_)
         clear hK K
         refine norm_ (a' := ?_) ?_ ?_
         rotate_left
         ·show Act.put _ (some 28) _ = _
          simp only [Act.put, List.setIfInBounds_toArray, List.set_cons_zero, List.set_cons_succ, i64_w, i32_w]
          rfl
         exact norm_ (by simp only [putAll, Act.put, List.setIfInBounds_toArray, List.set_cons_zero, List.set_cons_succ]) (hCont (v361, v364, v367) _ ⟨hHeld, (ra HO355.out), (ra (Kd.R_mono HO365.out (fun _ hk => (And.intro (hk.2.1) ((And.intro (hk.1) (hk.2.2))))))), (ra (Kd.R_mono HO368.out (fun _ hk => (And.intro (hk.2) ((And.intro (hk.1.1) (hk.1.2))))))), (ra (Kd.R_mono HO_3.out (fun _ hk => (And.intro (hk.2) ((And.intro (hk.1.1) (hk.1.2))))))), bk, (by repeat (first | (with_reducible first | exact HI0.out | apply IsS109.alloc | apply IsS109.drewN | apply IsS109.drew | apply IsS109.set_1 | apply IsS109.set_2 | refine IsS109.far ?_ NB0_359.out _) | exact HI0.out)), (by repeat (first | (with_reducible first | exact HK.out | apply KeepBut.set_ | apply keep_drewN | apply keep_drew | apply keep_alloc | refine keep_far ?_ GW359.out _) | exact HK.out)), (by repeat (first | (with_reducible first | exact HB.out | apply below_alloc | apply pw_below_drewN | apply below_drew1 | refine below_set ?_ (IsS109.ge HI0.out) | refine below_set ?_ GE359.out) | exact HB.out))⟩)
       rintro ⟨v361, v364, v367⟩ w54 ⟨hS_, h0_, h1_, h2_, h3_, h4_, h5_, h6_, h7_⟩
       have n0_ : Aside0 (Kd.R (Kd.int .i64) 3 w54 w.heap.size (fun _ => True) (.slice Ao42 y353.length co42) y353) := ⟨h0_⟩
       have n1_ : Aside0 (Kd.R k50 50 w54 w.heap.size (fun k_ => some k_ ≠ (v367 : Value).ownBlock ∧ some k_ ≠ (.slice Ao37 x3_1.length co37 : Value).ownBlock ∧ k_ ≠ gb359) v364 y363) := ⟨h1_⟩
       have n2_ : Aside0 (Kd.R k50 50 w54 w.heap.size (fun k_ => some k_ ≠ (v364 : Value).ownBlock ∧ some k_ ≠ (.slice Ao37 x3_1.length co37 : Value).ownBlock ∧ k_ ≠ gb359) v367 y366) := ⟨h2_⟩
       have n3_ : Aside0 (Kd.R k50 50 w54 w.heap.size (fun k_ => some k_ ≠ (v364 : Value).ownBlock ∧ some k_ ≠ (v367 : Value).ownBlock ∧ k_ ≠ gb359) (.slice Ao37 x3_1.length co37) x3_1) := ⟨h3_⟩
       have n4_ : Aside0 (w54.heap[gb359]? = some (.cells #[.int .i64 t347, .int .i64 t350, .int .i64 t356] 50 (0, 0))) := ⟨h4_⟩
       have n5_ : Aside0 (IsS109 w0 w54 g s0_0 t357 t358) := ⟨h5_⟩
       have n6_ : Aside0 (KeepBut w w54 g none) := ⟨h6_⟩
       have n7_ : Aside0 (Below w0.heap.size w0 w54) := ⟨h7_⟩
       clear HO_3
       clear HO355
       clear BK359
       clear HI0
       clear HK
       clear HB
       clear h0_ h1_ h2_ h3_ h4_ h5_ h6_ h7_
       have HO355 := n0_
       have HO365 := n1_
       have HO368 := n2_
       have HO_3 := n3_
       have BK359 := n4_
       have HI0 := n5_
       have HK := n6_
       have HB := n7_
       clear n0_ n1_ n2_ n3_ n4_ n5_ n6_ n7_
       have hHeld : w54.cell? ⟨gb359, 0, none⟩ = some (.int .i64 t347) ∧ w54.cell? ⟨gb359, 1, none⟩ = some (.int .i64 t350) ∧ w54.cell? ⟨gb359, 2, none⟩ = some (.int .i64 t356) := hS_
       obtain ⟨Ao56, co56, eo56⟩ := Kd.R_slice HO368.out
       (first | subst eo56 | (injection eo56 with f1_ f2_ f3_; have f4_ := f1_.symm; have f5_ := f3_.symm; clear f1_ f2_ f3_; subst f4_; subst f5_))
       refine norm_ (a' := ?_) ?_ ?_
       rotate_left
       ·simp only [putAll, Act.put, List.setIfInBounds_toArray, List.set_cons_zero, List.set_cons_succ]
        rfl
       refine one_ (i := 5) (N := some 31) #[true, true, true, true, true, true, false] rfl rfl (by kernel_rfl) (by decide) (fun K hK => ?_)
       refine Kd.R_append_rows_step k50 w.heap.size (by rfl) (.tmp 28) (.tmp 30) 29 50 (.agg #[(.int .i64 0), (.int .i64 0), (.int .i64 0)]) 24 rfl Try.underlying29 info50 rfl (by decide) (by omega) v364 y363 y366 _ _ _ (fun k_ => some k_ ≠ (.slice Ao37 x3_1.length co37 : Value).ownBlock ∧ some k_ ≠ (.slice Ao56 y366.length co56 : Value).ownBlock ∧ k_ ≠ gb359) (fun _ => False) rfl rfl ?aO ?aR (fun _ _ h => h) (fun _ h => h.elim) ?aF (Below.refl _ _) ?aS ?aL ?_
       (case aR => repeat (first | exact (Kd.R_reads' HO368.out).2.2 | (with_reducible refine Kd.C_alloc ?_ _) | (with_reducible refine Kd.C_drewN ?_ _) | (with_reducible refine Kd.C_drew ?_)))
       (case aF => exact (fun k_ hk => ⟨Kd.fresh' (Kd.R_lt (ra HO_3.out)) k_ hk, Kd.fresh' (Kd.R_lt (ra HO368.out)) k_ hk, Kd.freshB (g := gb359) (o := .cells #[.int .i64 t347, .int .i64 t350, .int .i64 t356] 50 (0, 0)) bk k_ hk⟩))
       (case aO => exact (ra (Kd.R_mono HO365.out (fun _ hk => (And.intro (hk.2.1) ((And.intro (hk.1) (hk.2.2))))))))
       (case aS => exact (keep_size (w := w) (g := g) (row := none) (by repeat (first | (with_reducible first | exact HK.out | apply KeepBut.set_ | apply keep_drewN | apply keep_drew | apply keep_alloc | refine keep_far ?_ GW359.out _) | exact HK.out))))
       (case aL => have := LMc10.out; omega)
       intro v370 w55 ho hb hg hat
       rw [← Ny369.out] at ho
       have t_ := fc8 (Kd.R_after (ok := (fun k_ => some k_ ≠ (.slice Ao56 y366.length co56 : Value).ownBlock ∧ k_ ≠ gb359)) (ra (Kd.R_mono HO_3.out (fun _ hk => (And.intro ((And.intro (hk.2.1) (hk.2.2))) (hk.1))))) hg hat) (IsS109.grown (by repeat (first | (with_reducible first | exact HI0.out | apply IsS109.alloc | apply IsS109.drewN | apply IsS109.drew | apply IsS109.set_1 | apply IsS109.set_2 | refine IsS109.far ?_ NB0_359.out _) | exact HI0.out)) hg (IsS109.own_ne HI0.out HO365.out (by decide))) (Kd.R_over' (ra HO355.out) (Kd.R_typed (ra HO365.out)) (by decide) hg) (blk_grown (g := gb359) (o := .cells #[.int .i64 t347, .int .i64 t350, .int .i64 t356] 50 (0, 0)) bk hg (Kd.R_away HO365.out (fun _ hk => by first | exact hk.2.2 | exact hk))) (Kd.R_after (ok := (fun k_ => some k_ ≠ (.slice Ao37 x3_1.length co37 : Value).ownBlock ∧ k_ ≠ gb359)) (ra (Kd.R_mono HO368.out (fun _ hk => (And.intro ((And.intro (hk.2.1) (hk.2.2))) (hk.1))))) hg hat) (below_weaken (by repeat (first | (with_reducible first | exact HB.out | apply below_alloc | apply pw_below_drewN | apply below_drew1 | refine below_set ?_ (IsS109.ge HI0.out) | refine below_set ?_ GE359.out) | exact HB.out)) HL.out hb) (KeepBut.trans (by repeat (first | (with_reducible first | exact HK.out | apply KeepBut.set_ | apply keep_drewN | apply keep_drew | apply keep_alloc | refine keep_far ?_ GW359.out _) | exact HK.out)) (KeepBut.of_grown hg g) (Kd.R_base2 HO365.out)) (ho)
       clear HO_3 HI0 HO355 BK359 HO368 HB HK HO365
       obtain ⟨HO_3, HI0, HO355, BK359, HO368, HB, HK, HO371⟩ := t_
       clear ho hb hg hat
       refine hK.out _ _ ⟨(blk_cell BK359.out 0).trans rfl, (blk_cell BK359.out 1).trans rfl, (blk_cell BK359.out 2).trans rfl⟩ (fun hHeld => ?_)
       clear hK K
       refine norm_ (a' := ?_) ?_ ?_
       rotate_left
       ·show Act.put _ (some 31) _ = _
        simp only [Act.put, List.setIfInBounds_toArray, List.set_cons_zero, List.set_cons_succ, i64_w, i32_w]
        rfl
       refine pure_ (i := 6) (N := some 6) (v := ?_) (a' := ?_) #[true, true, true, true, true, true, true] rfl rfl (by kernel_rfl) (fun _ _ _ h => h) (Or.inl ⟨by rfl, ?_⟩) ?_ ?_
       rotate_left
       ·intro w'
        go_simp
        with_reducible rfl
       rotate_left
       ·simp only [Act.put, List.setIfInBounds_toArray, List.set_cons_zero, List.set_cons_succ, i64_w, i32_w]
        rfl
       refine done_ (by kernel_rfl) ?_
       obtain ⟨Ao57, co57, eo57⟩ := Kd.R_slice HO371.out
       subst eo57
       try go_wp2_with (first | ((with_reducible refine gate_callee (f := 106) rfl ?_); refine goesL_ (some 33) rfl rfl Try.func106 (by kernel_rfl) rfl #[.slice Ao57 y369.length co57] rfl ms ?_; (with_reducible refine (spec_TreeOk.calls k1 _ _ y369 false _ ?side1 ?side2 A11.out).mono ?_); (case side1 => repeat (first | exact (Kd.R_reads' HO371.out).2.2 | (with_reducible refine Kd.C_alloc ?_ _) | (with_reducible refine Kd.C_drewN ?_ _) | (with_reducible refine Kd.C_drew ?_))); (case side2 => exact (Kd.R_reads' HO371.out).2.1); rintro e w58 ⟨rfl, hb⟩; refine ⟨_, rfl, ?_⟩; have t_ := fc8 (Kd.R_below (ra HO_3.out) hb) (Kd.R_below (ra HO355.out) hb) (Kd.R_below (ra HO368.out) hb) (Kd.R_below (ra HO371.out) hb) (IsS109.below (by repeat (first | (with_reducible first | exact HI0.out | apply IsS109.alloc | apply IsS109.drewN | apply IsS109.drew | apply IsS109.set_1 | apply IsS109.set_2 | refine IsS109.far ?_ NB0_359.out _) | exact HI0.out)) hb) (bw BK359 hb) (KeepBut.trans (by repeat (first | (with_reducible first | exact HK.out | apply KeepBut.set_ | apply keep_drewN | apply keep_drew | apply keep_alloc | refine keep_far ?_ GW359.out _) | exact HK.out)) (KeepBut.of_below hb g none) (.inl rfl)) (below_step (by repeat (first | (with_reducible first | exact HB.out | apply below_alloc | apply pw_below_drewN | apply below_drew1 | refine below_set ?_ (IsS109.ge HI0.out) | refine below_set ?_ GE359.out) | exact HB.out)) hb); clear HO_3 HO355 HO368 HO371 HI0 BK359 HK HB; obtain ⟨HO_3, HO355, HO368, HO371, HI0, BK359, HK, HB⟩ := t_; (try clear hb); (try clear hk); (try clear hi)))
       go_roundg k1
       case measure => have := HK1.out; omega
       case rel => exact ⟨(x3_1), (wrap64 (x4_1 + 1)), (t357), (t358), (by first | rfl | (simp; done) | (simp [*]; done)), H', ⟨by have := HK1.out; omega⟩, ⟨by (with_reducible repeat (first | apply Kd.R_alloc | apply Kd.R_drewN | apply Kd.R_drew)); exact Kd.R_mono HO_3.out (fun _ hk => trivial)⟩, ⟨by repeat (first | (with_reducible first | exact HI0.out | apply IsS109.alloc | apply IsS109.drewN | apply IsS109.drew | apply IsS109.set_1 | apply IsS109.set_2 | refine IsS109.far ?_ NB0_359.out _) | exact HI0.out)⟩, ⟨by repeat (first | (with_reducible first | exact HK.out | apply KeepBut.set_ | apply keep_drewN | apply keep_drew | apply keep_alloc | refine keep_far ?_ GW359.out _) | exact HK.out)⟩, ⟨by repeat (first | (with_reducible first | exact HB.out | apply below_alloc | apply pw_below_drewN | apply below_drew1 | refine below_set ?_ (IsS109.ge HI0.out) | refine below_set ?_ GE359.out) | exact HB.out)⟩⟩
     ·rw [if_neg c10] at H
      exact absurd H (by simp)
    ·rw [if_neg c9] at H
     exact absurd H (by simp)
   ·rw [if_neg c5] at H
    have c5b0 : decide (x4_1 < (wrap64 (3 + t344))) = false := decide_eq_false c5
    clear c5
    simp only [Option.some.injEq, Prod.mk.injEq] at H
    obtain ⟨rfl, rfl, rfl⟩ := H
    go_wp2_with (first | ((with_reducible refine gate_callee (f := 114) rfl ?_); refine goesL_ (some 11) rfl rfl Try.func114 (by kernel_rfl) rfl #[.pointer (some ⟨g, 0, none⟩), .int .i64 8] rfl ms ?_; (with_reducible refine (spec_l01Below.calls g s0_0 x1001_1 x1002_1 8 t344 t345 t346 w0 _ ?side1 ?side2 A4.out).mono ?_); (case side1 => repeat (first | (with_reducible first | exact HI0.out | apply IsS109.alloc | apply IsS109.drewN | apply IsS109.drew | apply IsS109.set_1 | apply IsS109.set_2) | exact HI0.out)); (case side2 => repeat (first | (with_reducible first | exact HB.out | apply below_alloc | apply pw_below_drewN | apply below_drew1 | refine below_set ?_ (IsS109.ge HI0.out)) | exact HB.out)); rintro e w59 ⟨rfl, hi, hb, hk⟩; refine ⟨_, rfl, ?_⟩; have t_ := fc4 (Kd.R_mono (Kd.R_keep (IsS109.apart (show IsS109 w0 _ g s0_0 x1001_1 x1002_1 from by repeat (first | (with_reducible first | exact HI0.out | apply IsS109.alloc | apply IsS109.drewN | apply IsS109.drew | apply IsS109.set_1 | apply IsS109.set_2) | exact HI0.out)) (ra HO_3.out) (by decide)) hk (fun _ h => h.2)) (fun _ h => h.1)) (KeepBut.trans (by repeat (first | (with_reducible first | exact HK.out | apply KeepBut.set_ | apply keep_drewN | apply keep_drew | apply keep_alloc) | exact HK.out)) hk (.inl rfl)) (hb) (hi); clear HO_3 HK HB HI0; obtain ⟨HO_3, HK, HB, HI0⟩ := t_; (try clear hb); (try clear hk); (try clear hi)))
    go_ret
    exact ⟨_, er, by (with_reducible repeat (first | apply Kd.R_alloc | apply Kd.R_drewN | apply Kd.R_drew)); exact HO_3.out, by repeat (first | (with_reducible first | exact HI0.out | apply IsS109.alloc | apply IsS109.drewN | apply IsS109.drew | apply IsS109.set_1 | apply IsS109.set_2) | exact HI0.out), by repeat (first | (with_reducible first | exact HB.out | apply below_alloc | apply pw_below_drewN | apply below_drew1 | refine below_set ?_ (IsS109.ge HI0.out)) | exact HB.out), by repeat (first | (with_reducible first | exact HK.out | apply KeepBut.set_ | apply keep_drewN | apply keep_drew | apply keep_alloc) | exact HK.out)⟩

end Go.Proofs.Ytbbppknnkghkjaa.PFnIdRoutes
