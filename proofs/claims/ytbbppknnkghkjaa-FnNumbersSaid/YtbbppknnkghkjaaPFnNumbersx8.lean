/- Printed by a program of this session out of the translation: each Go function as a Lean function, with the proof that Go comes to just its answer (no condition beyond what each theorem says). (squeezed) -/
import Derived.Test.YtbbppknnkghkjaaPFnNumbersx0
import Derived.Test.YtbbppknnkghkjaaSteps
import Derived.Test.YtbbppknnkghkjaaPFnNumbersx2
import Derived.Test.YtbbppknnkghkjaaPFnNumbersx5
import Derived.Test.YtbbppknnkghkjaaPFnNumbersx6
import Derived.Test.YtbbppknnkghkjaaPFnNumbersx7
namespace Go.Proofs.Ytbbppknnkghkjaa.PFnNumbers
open Go.RowKit Go.Proofs.YtbbppknnkghkjaaW.PrintWords Go.Proofs.YtbbppknnkghkjaaW.PrintLast Go.Proofs.YtbbppknnkghkjaaW.PrintMore Go.Proofs.Ytbbppknnkghkjaa.Kit Go.Proofs.Ytbbppknnkghkjaa.Steps
attribute [local go_sem] max2_int min2_int max_two min_two max_three min_three max_four min_four   -- for this text's walks alone
set_option linter.unusedVariables false
set_option linter.unusedSimpArgs false

/-! ### laws_FnNumbers: function 8 -/
mutual
def laws_FnNumbers.j0 : Nat → List (S50) → Bool → List Int → List Int → List Int → Option (Bool)
 | 0, _, _, _, _, _ => none
 | k + 1, x3, x45, x268000, x268001, x268002 => if x45 = true then (some false) else (laws_FnNumbers.l0 k x3 1 x268000 x268001 x268002)
def laws_FnNumbers.l0 : Nat → List (S50) → Int → List Int → List Int → List Int → Option (Bool)
 | 0, _, _, _, _, _ => none
 | k + 1, x3, x6, x268000, x268001, x268002 => if x6 < (x3.length : Int) then (if 0 ≤ x6 then (if x6 < (x268000.length : Int) then (if 0 ≤ ((rd_T50 x3 x6).f0) then (if ((rd_T50 x3 x6).f0) < (x268001.length : Int) then (if (rd x268000 x6) = (rd x268001 ((rd_T50 x3 x6).f0)) then (if ((rd_T50 x3 x6).f2) > 0 then (if x6 < (x268001.length : Int) then (if (rd x268001 x6) = (-1) then (if x6 < (x268002.length : Int) then (if (rd x268002 x6) = (-1) then (laws_FnNumbers.l0 k x3 (wrap64 (x6 + 1)) x268000 x268001 x268002) else (some false)) else (none)) else (some false)) else (none)) else (if x6 < (x268001.length : Int) then (if (rd x268001 x6) ≤ (rd x268001 ((rd_T50 x3 x6).f0)) then (laws_FnNumbers.j2 k x3 x6 ((rd_T50 x3 x6).f0) true x268000 x268001 x268002) else (if x6 < (x268002.length : Int) then (if ((rd_T50 x3 x6).f0) < (x268002.length : Int) then (if (rd x268002 x6) > (rd x268002 ((rd_T50 x3 x6).f0)) then (laws_FnNumbers.j2 k x3 x6 ((rd_T50 x3 x6).f0) true x268000 x268001 x268002) else (if (rd x268001 x6) > (rd x268002 x6) then (laws_FnNumbers.j2 k x3 x6 ((rd_T50 x3 x6).f0) true x268000 x268001 x268002) else ((impl_IsUnder.f x268000 x268001 x268002 ((rd_T50 x3 x6).f0) (rd x268001 x6)).bind fun t281 => (laws_FnNumbers.j2 k x3 x6 ((rd_T50 x3 x6).f0) (!t281) x268000 x268001 x268002)))) else (none)) else (none))) else (none))) else (some false)) else (none)) else (none)) else (none)) else (none)) else (laws_FnNumbers.l2 k x3 0 0 x268000 x268001 x268002)
def laws_FnNumbers.j2 : Nat → List (S50) → Int → Int → Bool → List Int → List Int → List Int → Option (Bool)
 | 0, _, _, _, _, _, _, _ => none
 | k + 1, x3, x6, x7, x135, x268000, x268001, x268002 => if x135 = true then (some false) else (laws_FnNumbers.l1 k x3 x6 x7 1 x268000 x268001 x268002)
def laws_FnNumbers.l1 : Nat → List (S50) → Int → Int → Int → List Int → List Int → List Int → Option (Bool)
 | 0, _, _, _, _, _, _, _ => none
 | k + 1, x3, x6, x7, x8, x268000, x268001, x268002 => if x8 < x6 then (if 0 ≤ x8 then (if x8 < (x3.length : Int) then (if ((rd_T50 x3 x8).f0) = x7 then (if ((rd_T50 x3 x8).f2) = 0 then (if x8 < (x268001.length : Int) then (if 0 ≤ x6 then (if x6 < (x268002.length : Int) then (if (rd x268001 x8) ≤ (rd x268002 x6) then (if x6 < (x268001.length : Int) then (if x8 < (x268002.length : Int) then (if (rd x268001 x6) ≤ (rd x268002 x8) then (some false) else (laws_FnNumbers.l1 k x3 x6 x7 (wrap64 (x8 + 1)) x268000 x268001 x268002)) else (none)) else (none)) else (laws_FnNumbers.l1 k x3 x6 x7 (wrap64 (x8 + 1)) x268000 x268001 x268002)) else (none)) else (none)) else (none)) else (laws_FnNumbers.l1 k x3 x6 x7 (wrap64 (x8 + 1)) x268000 x268001 x268002)) else (laws_FnNumbers.l1 k x3 x6 x7 (wrap64 (x8 + 1)) x268000 x268001 x268002)) else (none)) else (none)) else (laws_FnNumbers.l0 k x3 (wrap64 (x6 + 1)) x268000 x268001 x268002)
def laws_FnNumbers.l2 : Nat → List (S50) → Int → Int → List Int → List Int → List Int → Option (Bool)
 | 0, _, _, _, _, _, _ => none
 | k + 1, x3, x9, x10, x268000, x268001, x268002 => if x10 < (x3.length : Int) then (if 0 ≤ x10 then ((laws_btoi.f (((rd_T50 x3 x10).f2) == 0)).bind fun t289 => (laws_FnNumbers.l2 k x3 (wrap64 (x9 + t289)) (wrap64 (x10 + 1)) x268000 x268001 x268002)) else (none)) else (if 0 < (x268001.length : Int) then (if (rd x268001 0) = 0 then (if 0 < (x268002.length : Int) then (some ((rd x268002 0) == (wrap64 (x9 - 1)))) else (none)) else (some false)) else (none))
end
def laws_FnNumbers.f (k : Nat) (l0 : List Int) : Option (Bool) := (laws_big.f l0).bind fun t253 => (if t253 = true then (some true) else ((spec_DrawTree.f k l0).bind fun t254 => ((impl_Enumerate.f k t254).bind fun bt257 => (if bt257.2.2.2 = true then (if (bt257.2.1.length : Int) = (t254.length : Int) then (if (bt257.2.2.1.length : Int) = (t254.length : Int) then (laws_FnNumbers.j0 k t254 ((bt257.1.length : Int) != (t254.length : Int)) bt257.1 bt257.2.1 bt257.2.2.1) else (laws_FnNumbers.j0 k t254 true bt257.1 bt257.2.1 bt257.2.2.1)) else (laws_FnNumbers.j0 k t254 true bt257.1 bt257.2.1 bt257.2.2.1)) else (laws_FnNumbers.j0 k t254 true bt257.1 bt257.2.1 bt257.2.2.1)))))
def laws_FnNumbers.T11 : Bool × List (List Nat × List Nat) := (true, [([], []), ([0], [0]), ([], []), ([1, 2], [1, 2]), ([3], [3]), ([], []), ([5], [5]), ([], []), ([6, 7], [6, 7]), ([8], [8]), ([4, 9], [4, 9])])
def laws_FnNumbers.B11 : List Nat := [0, 1, 0, 7, 15, 0, 32, 0, 224, 480, 1023]
theorem laws_FnNumbers.tab11 : rtab .any (opsOf Try.f8 11) = laws_FnNumbers.T11 := by kernel_rfl
theorem laws_FnNumbers.bits11 : waitsOk laws_FnNumbers.T11.2 laws_FnNumbers.B11 = true := by kernel_rfl
def laws_FnNumbers.T16 : Bool × List (List Nat × List Nat) := (true, [([], []), ([0], [0]), ([], []), ([1, 2], [1, 2]), ([3], [3]), ([], []), ([5], [5]), ([], []), ([6, 7], [6, 7]), ([8], [8]), ([4, 9], [4, 9]), ([10], [10]), ([11], [11]), ([12, 11], [11, 12]), ([11], [11]), ([13, 14, 11], [11, 13, 14]), ([15, 11], [11, 15]), ([11], [11]), ([17, 11], [11, 17]), ([11], [11]), ([18, 19, 11], [11, 18, 19]), ([20, 11], [11, 20]), ([16, 21, 11], [11, 16, 21]), ([11, 22], [11, 22]), ([23, 11], [23]), ([24], [24]), ([25, 24], [24, 25]), ([24], [24]), ([26, 27, 24], [24, 26, 27]), ([28, 24], [24, 28]), ([24], [24]), ([30, 24], [24, 30]), ([24], [24]), ([31, 32, 24], [24, 31, 32]), ([33, 24], [24, 33]), ([29, 34, 24], [24, 29, 34]), ([24, 35], [24, 35]), ([36, 24], [36]), ([37], [37]), ([37], [37]), ([37], [37]), ([40, 37], [37, 40]), ([37], [37]), ([41, 42, 37], [37, 41, 42]), ([43, 37], [37, 43]), ([38, 39, 44, 37, 37], [37, 38, 39, 44]), ([45, 37], [37, 45]), ([37, 46], [37, 46])])
def laws_FnNumbers.B16 : List Nat := [0, 1, 0, 7, 15, 0, 32, 0, 224, 480, 1023, 2047, 4095, 8191, 4095, 32767, 65535, 4095, 135167, 4095, 921599, 1970175, 4194303, 8388607, 16777215, 33554431, 67108863, 33554431, 268435455, 536870911, 33554431, 1107296255, 33554431, 7549747199, 16139681791, 34359738367, 68719476735, 137438953471, 274877906943, 274877906943, 274877906943, 1374389534719, 274877906943, 7971459301375, 16767552323583, 35184372088831, 70368744177663, 140737488355327]
theorem laws_FnNumbers.tab16 : rtab .any (opsOf Try.f8 16) = laws_FnNumbers.T16 := by kernel_rfl
theorem laws_FnNumbers.bits16 : waitsOk laws_FnNumbers.T16.2 laws_FnNumbers.B16 = true := by kernel_rfl
def laws_FnNumbers.T21 : Bool × List (List Nat × List Nat) := (true, [([], []), ([], []), ([0, 1], [0, 1]), ([2], [2]), ([3], [3]), ([], []), ([4, 5], [4, 5]), ([6], [6]), ([7], [7]), ([7], [7]), ([8, 9, 7], [7, 8, 9]), ([10, 7], [7, 10]), ([11, 7], [7, 11]), ([12, 7], [7, 12]), ([7, 13], [7, 13]), ([14, 7], [14]), ([15], [15]), ([16, 15], [15, 16]), ([15], [15]), ([17, 18, 15], [15, 17, 18]), ([19, 15], [15, 19]), ([15], [15]), ([21, 15], [15, 21]), ([15], [15]), ([22, 23, 15], [15, 22, 23]), ([24, 15], [15, 24]), ([20, 25, 15], [15, 20, 25]), ([15, 26], [15, 26]), ([27, 15], [27]), ([28], [28]), ([29, 28], [28, 29]), ([28], [28]), ([30, 31, 28], [28, 30, 31]), ([32, 28], [28, 32]), ([28], [28]), ([34, 28], [28, 34]), ([28], [28]), ([35, 36, 28], [28, 35, 36]), ([37, 28], [28, 37]), ([33, 38, 28], [28, 33, 38]), ([28, 39], [28, 39])])
def laws_FnNumbers.B21 : List Nat := [0, 0, 3, 7, 15, 0, 63, 127, 255, 255, 1023, 2047, 4095, 8191, 16383, 32767, 65535, 131071, 65535, 524287, 1048575, 65535, 2162687, 65535, 14745599, 31522815, 67108863, 134217727, 268435455, 536870911, 1073741823, 536870911, 4294967295, 8589934591, 536870911, 17716740095, 536870911, 120795955199, 258234908671, 549755813887, 1099511627775]
theorem laws_FnNumbers.tab21 : rtab .any (opsOf Try.f8 21) = laws_FnNumbers.T21 := by kernel_rfl
theorem laws_FnNumbers.bits21 : waitsOk laws_FnNumbers.T21.2 laws_FnNumbers.B21 = true := by kernel_rfl
theorem laws_FnNumbers.no_ {r : Bool} (h : some false = some r) (ht : r = true) : False := Bool.false_ne_true ((Option.some.inj h).trans ht)
theorem laws_FnNumbers.j0_t {k : Nat} {x3 : _} {x268000 : _} {x268001 : _} {x268002 : _} {r : Bool} (h : laws_FnNumbers.j0 k x3 true x268000 x268001 x268002 = some r) (ht : r = true) : False := by
 cases k with
 | zero => simp only [laws_FnNumbers.j0] at h; cases h
 | succ k => simp only [laws_FnNumbers.j0, if_true] at h; exact Bool.false_ne_true ((Option.some.inj h).trans ht)
theorem laws_FnNumbers.j2_t {k : Nat} {x3 : _} {x6 : _} {x7 : _} {x268000 : _} {x268001 : _} {x268002 : _} {r : Bool} (h : laws_FnNumbers.j2 k x3 x6 x7 true x268000 x268001 x268002 = some r) (ht : r = true) : False := by
 cases k with
 | zero => simp only [laws_FnNumbers.j2] at h; cases h
 | succ k => simp only [laws_FnNumbers.j2, if_true] at h; exact Bool.false_ne_true ((Option.some.inj h).trans ht)
set_option maxHeartbeats 8000000 in
set_option maxRecDepth 100000 in
theorem laws_FnNumbers.calls (k : Nat) (A0 : Option Addr) (c0 : Nat) (l0 : List Int) (r : Bool) (w : World) (hr0 : Kd.C (Kd.int .u8) w A0 l0.length l0) (hc0 : l0.length ≤ c0) (h : laws_FnNumbers.f k l0 = some r) (hrT_ : r = true := by rfl) :
  Calls Try.prog 8 #[.slice A0 l0.length c0] w fun e w' => e = .returned (.bool r) ∧ Below w.heap.size w w' := by
 have hu31 := Try.underlying31
 have HR0 := Aside0.mk hr0
 have HC0 := Aside0.mk hc0
 clear hr0 hc0
 have HB := Aside0.mk (Below.refl w.heap.size w)
 have H : ((laws_big.f l0).bind fun t253 => (if t253 = true then (some true) else ((spec_DrawTree.f k l0).bind fun t254 => ((impl_Enumerate.f k t254).bind fun bt257 => (if bt257.2.2.2 = true then (if (bt257.2.1.length : Int) = (t254.length : Int) then (if (bt257.2.2.1.length : Int) = (t254.length : Int) then (laws_FnNumbers.j0 k t254 ((bt257.1.length : Int) != (t254.length : Int)) bt257.1 bt257.2.1 bt257.2.2.1) else (laws_FnNumbers.j0 k t254 true bt257.1 bt257.2.1 bt257.2.2.1)) else (laws_FnNumbers.j0 k t254 true bt257.1 bt257.2.1 bt257.2.2.1)) else (laws_FnNumbers.j0 k t254 true bt257.1 bt257.2.1 bt257.2.2.1)))))) = some r := h
 clear h
 replace H := Option.bind_eq_some_iff.mp H
 obtain ⟨t253, A20, H⟩ := H
 replace H : (if t253 = true then (some true) else ((spec_DrawTree.f k l0).bind fun t254 => ((impl_Enumerate.f k t254).bind fun bt257 => (if bt257.2.2.2 = true then (if (bt257.2.1.length : Int) = (t254.length : Int) then (if (bt257.2.2.1.length : Int) = (t254.length : Int) then (laws_FnNumbers.j0 k t254 ((bt257.1.length : Int) != (t254.length : Int)) bt257.1 bt257.2.1 bt257.2.2.1) else (laws_FnNumbers.j0 k t254 true bt257.1 bt257.2.1 bt257.2.2.1)) else (laws_FnNumbers.j0 k t254 true bt257.1 bt257.2.1 bt257.2.2.1)) else (laws_FnNumbers.j0 k t254 true bt257.1 bt257.2.1 bt257.2.2.1))))) = some r := H
 have A2 := Aside0.mk A20
 clear A20
 by_cases c3 : t253 = true
 ·subst c3
  have H1 : (some true) = some r := by rw [if_pos rfl] at H; exact H
  clear H
  have H := H1
  clear H1
  obtain rfl := Option.some.inj H
  go_enter Try.func8, Try.ntmps8
  go_wp2_with (first | ((with_reducible refine gate_callee (f := 35) rfl ?_); refine goesL_ (some 12) rfl rfl Try.func35 (by kernel_rfl) rfl #[.slice A0 l0.length c0] rfl (by (try simp only [List.map_toArray, List.map_cons, List.map_nil]); first | done | rfl | (simp only [List.length_drop, List.length_take]; rfl)) ?_; (with_reducible refine (laws_big.calls _ _ l0 true _ ?side1 ?side2 A2.out).mono ?_); (case side1 => repeat (first | exact HR0.out | (with_reducible refine Kd.C_alloc ?_ _) | (with_reducible refine Kd.C_drewN ?_ _) | (with_reducible refine Kd.C_drew ?_))); (case side2 => exact HC0.out); rintro e w' ⟨rfl, ⟨nd, rfl⟩⟩; refine ⟨_, rfl, ?_⟩))
  go_ret
  exact ⟨by first | rfl | (simp [errW_none, errW_some] <;> rfl) | (simp [*, errW_none, errW_some] <;> rfl), bb⟩
 ·replace c3 := Bool.eq_false_iff.mpr c3
  subst c3
  have H1 : ((spec_DrawTree.f k l0).bind fun t254 => ((impl_Enumerate.f k t254).bind fun bt257 => (if bt257.2.2.2 = true then (if (bt257.2.1.length : Int) = (t254.length : Int) then (if (bt257.2.2.1.length : Int) = (t254.length : Int) then (laws_FnNumbers.j0 k t254 ((bt257.1.length : Int) != (t254.length : Int)) bt257.1 bt257.2.1 bt257.2.2.1) else (laws_FnNumbers.j0 k t254 true bt257.1 bt257.2.1 bt257.2.2.1)) else (laws_FnNumbers.j0 k t254 true bt257.1 bt257.2.1 bt257.2.2.1)) else (laws_FnNumbers.j0 k t254 true bt257.1 bt257.2.1 bt257.2.2.1)))) = some r := by rw [if_neg (show ¬ (false = true) by decide)] at H; exact H
  clear H
  have H := H1
  clear H1
  replace H := Option.bind_eq_some_iff.mp H
  obtain ⟨t254, A40, H⟩ := H
  replace H : ((impl_Enumerate.f k t254).bind fun bt257 => (if bt257.2.2.2 = true then (if (bt257.2.1.length : Int) = (t254.length : Int) then (if (bt257.2.2.1.length : Int) = (t254.length : Int) then (laws_FnNumbers.j0 k t254 ((bt257.1.length : Int) != (t254.length : Int)) bt257.1 bt257.2.1 bt257.2.2.1) else (laws_FnNumbers.j0 k t254 true bt257.1 bt257.2.1 bt257.2.2.1)) else (laws_FnNumbers.j0 k t254 true bt257.1 bt257.2.1 bt257.2.2.1)) else (laws_FnNumbers.j0 k t254 true bt257.1 bt257.2.1 bt257.2.2.1))) = some r := H
  have A4 := Aside0.mk A40
  clear A40
  replace H := Option.bind_eq_some_iff.mp H
  obtain ⟨⟨t257, t260, t263, t266⟩, A50, H⟩ := H
  replace H : (if t266 = true then (if (t260.length : Int) = (t254.length : Int) then (if (t263.length : Int) = (t254.length : Int) then (laws_FnNumbers.j0 k t254 ((t257.length : Int) != (t254.length : Int)) t257 t260 t263) else (laws_FnNumbers.j0 k t254 true t257 t260 t263)) else (laws_FnNumbers.j0 k t254 true t257 t260 t263)) else (laws_FnNumbers.j0 k t254 true t257 t260 t263)) = some r := H
  have A5 := Aside0.mk A50
  clear A50
  have HC6 := Aside0.mk H
  clear H
  go_enter Try.func8, Try.ntmps8
  go_upto_region 5 with (first | ((with_reducible refine gate_callee (f := 35) rfl ?_); refine goesL_ (some 12) rfl rfl Try.func35 (by kernel_rfl) rfl #[.slice A0 l0.length c0] rfl (by (try simp only [List.map_toArray, List.map_cons, List.map_nil]); first | done | rfl | (simp only [List.length_drop, List.length_take]; rfl)) ?_; (with_reducible refine (laws_big.calls _ _ l0 false _ ?side1 ?side2 A2.out).mono ?_); (case side1 => repeat (first | exact HR0.out | (with_reducible refine Kd.C_alloc ?_ _) | (with_reducible refine Kd.C_drewN ?_ _) | (with_reducible refine Kd.C_drew ?_))); (case side2 => exact HC0.out); rintro e w' ⟨rfl, ⟨nd, rfl⟩⟩; refine ⟨_, rfl, ?_⟩) | ((with_reducible refine gate_callee (f := 36) rfl ?_); refine goesL_ (some 14) rfl rfl Try.func36 (by kernel_rfl) rfl #[.slice A0 l0.length c0] rfl (by (try simp only [List.map_toArray, List.map_cons, List.map_nil]); first | done | rfl | (simp only [List.length_drop, List.length_take]; rfl)) ?_; (with_reducible refine (spec_DrawTree.calls k _ _ l0 t254 _ ?side1 ?side2 A4.out).mono ?_); (case side1 => repeat (first | exact HR0.out | (with_reducible refine Kd.C_alloc ?_ _) | (with_reducible refine Kd.C_drewN ?_ _) | (with_reducible refine Kd.C_drew ?_))); (case side2 => exact HC0.out); rintro e w7 ⟨v255, rfl, ho0, hb⟩; refine ⟨_, rfl, ?_⟩; have n0_ := Aside0.mk (Kd.R_lower ho0 (below_size bb)); have n1_ := Aside0.mk (below_step bb hb); clear HB; have HO256 := n0_; have HB := n1_; clear n0_ n1_; (try clear hb); (try clear hk); (try clear ho0); obtain ⟨Ao8, co8, eo8⟩ := Kd.R_slice HO256.out; subst eo8) | ((with_reducible refine gate_callee (f := 42) rfl ?_); refine goesL_ (some 17) rfl rfl Try.func42 (by kernel_rfl) rfl #[.slice Ao8 t254.length co8] rfl (by (try simp only [List.map_toArray, List.map_cons, List.map_nil]); first | done | rfl | (simp only [List.length_drop, List.length_take]; rfl)) ?_; (with_reducible refine (impl_Enumerate.calls k _ _ t254 t257 t260 t263 t266 _ ?side1 ?side2 A5.out).mono ?_); (case side1 => repeat (first | exact (Kd.R_reads' HO256.out).2.2 | (with_reducible refine Kd.C_alloc ?_ _) | (with_reducible refine Kd.C_drewN ?_ _) | (with_reducible refine Kd.C_drew ?_))); (case side2 => exact (Kd.R_reads' HO256.out).2.1); rintro e w9 ⟨v258, v261, v264, rfl, ho0, ho1, ho2, hb⟩; refine ⟨_, rfl, ?_⟩; have n0_ := Aside0.mk (Kd.R_below (by (with_reducible repeat (first | apply Kd.R_alloc | apply Kd.R_drewN | apply Kd.R_drew)); exact HO256.out) hb); have n1_ := Aside0.mk (Kd.R_lower ho0 (below_size bb)); have n2_ := Aside0.mk (Kd.R_lower ho1 (below_size bb)); have n3_ := Aside0.mk (Kd.R_lower ho2 (below_size bb)); have n4_ := Aside0.mk (below_step bb hb); clear HO256; clear HB; have HO256 := n0_; have HO259 := n1_; have HO262 := n2_; have HO265 := n3_; have HB := n4_; clear n0_ n1_ n2_ n3_ n4_; (try clear hb); (try clear hk); (try clear ho0); (try clear ho1); (try clear ho2)) | ((with_reducible refine gate_dst (N := 4) rfl ?_); (try (refine gate_guard (by rfl) ?_; dsimp only)); refine box_event ?hg (N := 4) ?hd (cs := #[.slice none 0 0, .slice none 0 0, .slice none 0 0]) (t := 31) ?hr ?_; (case hd => rfl); (case hg => rfl); (case hr => first | (go_simp; done) | (go_simp; rfl)); intro gb267 hg w10 hbox hb; have n0_ := Aside0.mk (Kd.R_below (by (with_reducible repeat (first | apply Kd.R_alloc | apply Kd.R_drewN | apply Kd.R_drew)); exact HO256.out) hb); have n1_ := Aside0.mk (Kd.R_below (by (with_reducible repeat (first | apply Kd.R_alloc | apply Kd.R_drewN | apply Kd.R_drew)); exact HO259.out) hb); have n2_ := Aside0.mk (Kd.R_below (by (with_reducible repeat (first | apply Kd.R_alloc | apply Kd.R_drewN | apply Kd.R_drew)); exact HO262.out) hb); have n3_ := Aside0.mk (Kd.R_below (by (with_reducible repeat (first | apply Kd.R_alloc | apply Kd.R_drewN | apply Kd.R_drew)); exact HO265.out) hb); have n4_ := Aside0.mk (below_step bb hb); have n5_ := Aside0.mk (hbox); have n6_ := Aside0.mk ((by rw [hg]; exact (below_size bb) : w.heap.size ≤ gb267)); have n7_ := Aside0.mk ((by rw [hg]; exact (below_size bb) : w.heap.size ≤ gb267)); clear HO256; clear HO259; clear HO262; clear HO265; clear HB; have HO256 := n0_; have HO259 := n1_; have HO262 := n2_; have HO265 := n3_; have HB := n4_; have BK267 := n5_; have GW267 := n6_; have GE267 := n7_; clear n0_ n1_ n2_ n3_ n4_ n5_ n6_ n7_; clear hb hbox hg; obtain ⟨Ao11, co11, eo11⟩ := Kd.R_slice HO259.out; subst eo11; obtain ⟨hcz12_0, hcz12_1, hcz12_2, hfz12_0, hfz12_1, hfz12_2⟩ := bx3 BK267.out; obtain ⟨Ao13, co13, eo13⟩ := Kd.R_slice HO262.out; subst eo13; obtain ⟨Ao14, co14, eo14⟩ := Kd.R_slice HO265.out; subst eo14))
  (try simp only [Act.put, List.setIfInBounds_toArray, List.set_cons_zero, List.set_cons_succ])
  go_cut [45] (fun v45 wc => ∃ (kq : Nat) (x45_5 : Bool), v45 = .bool x45_5 ∧ Aside0 (laws_FnNumbers.j0 kq t254 x45_5 t257 t260 t263 = some r) ∧ Aside0 (kq ≤ k) ∧ Aside0 (Kd.R k50 50 wc w.heap.size (fun _ => True) (.slice Ao8 t254.length co8) t254) ∧ Aside0 (Kd.R (Kd.int .i64) 3 wc w.heap.size (fun k_ => some k_ ≠ ((.slice Ao13 t260.length co13) : Value).ownBlock ∧ some k_ ≠ ((.slice Ao14 t263.length co14) : Value).ownBlock) (.slice Ao11 t257.length co11) t257) ∧ Aside0 (Kd.R (Kd.int .i64) 3 wc w.heap.size (fun k_ => some k_ ≠ ((.slice Ao11 t257.length co11) : Value).ownBlock ∧ some k_ ≠ ((.slice Ao14 t263.length co14) : Value).ownBlock) (.slice Ao13 t260.length co13) t260) ∧ Aside0 (Kd.R (Kd.int .i64) 3 wc w.heap.size (fun k_ => some k_ ≠ ((.slice Ao11 t257.length co11) : Value).ownBlock ∧ some k_ ≠ ((.slice Ao13 t260.length co13) : Value).ownBlock) (.slice Ao14 t263.length co14) t263) ∧ Aside0 (wc.heap[gb267]? = some (.cells #[(.slice Ao11 t257.length co11), (.slice Ao13 t260.length co13), (.slice Ao14 t263.length co14)] 31 (0, 0))) ∧ Aside0 (Below w.heap.size w wc))
  case first =>
   have H := HC6.out
   clear HC6
   by_cases c15 : t266 = true
   ·subst c15
    have H1 : (if (t260.length : Int) = (t254.length : Int) then (if (t263.length : Int) = (t254.length : Int) then (laws_FnNumbers.j0 k t254 ((t257.length : Int) != (t254.length : Int)) t257 t260 t263) else (laws_FnNumbers.j0 k t254 true t257 t260 t263)) else (laws_FnNumbers.j0 k t254 true t257 t260 t263)) = some r := by rw [if_pos rfl] at H; exact H
    clear H
    have H := H1
    clear H1
    by_cases c16 : (t260.length : Int) = (t254.length : Int)
    ·rw [if_pos c16] at H
     have c16b0 : ((t260.length : Int) == (t254.length : Int)) = true := beq_iff_eq.mpr c16
     have c16b1 : ((t260.length : Int) != (t254.length : Int)) = false := bne_eq_false_iff_eq.mpr c16
     have c16b2 : (t260.length == t254.length) = true := by first | simpa using c16 | (simp at c16 ⊢; omega)
     clear c16
     (first | rw [c16b0] | (simp only [i64_w, i32_w]; rw [c16b0]) | skip)
     by_cases c17 : (t263.length : Int) = (t254.length : Int)
     ·rw [if_pos c17] at H
      have c17b0 : ((t263.length : Int) == (t254.length : Int)) = true := beq_iff_eq.mpr c17
      have c17b1 : ((t263.length : Int) != (t254.length : Int)) = false := bne_eq_false_iff_eq.mpr c17
      have c17b2 : (t263.length == t254.length) = true := by first | simpa using c17 | (simp at c17 ⊢; omega)
      clear c17
      have H' := Aside0.mk H
      clear H
      obtain ⟨hcz18_0, hcz18_1, hcz18_2, hfz18_0, hfz18_1, hfz18_2⟩ := bx3 BK267.out
      go_wp2
      go_meet
      case rel => exact ⟨_, (((t257.length : Int) != (t254.length : Int))), (by first | rfl | (simp; done) | (simp [*]; done)), H', ⟨by first | omega | exact Nat.le_refl _⟩, ⟨by (with_reducible repeat (first | apply Kd.R_alloc | apply Kd.R_drewN | apply Kd.R_drew)); exact Kd.R_mono (Kd.R_far (p := ⟨gb267, 2, none⟩) (Kd.R_far (p := ⟨gb267, 1, none⟩) (Kd.R_far (p := ⟨gb267, 0, none⟩) (Kd.R_types HO256.out BK267.out (by decide)) (fun _ hk => by first | exact hk.2 | exact hk) (.slice Ao11 t257.length co11)) (fun _ hk => by first | exact hk.2 | exact hk) (.slice Ao13 t260.length co13)) (fun _ hk => by first | exact hk.2 | exact hk) (.slice Ao14 t263.length co14)) (fun _ hk => trivial)⟩, ⟨by (with_reducible repeat (first | apply Kd.R_alloc | apply Kd.R_drewN | apply Kd.R_drew)); exact Kd.R_mono (Kd.R_far (p := ⟨gb267, 2, none⟩) (Kd.R_far (p := ⟨gb267, 1, none⟩) (Kd.R_far (p := ⟨gb267, 0, none⟩) (Kd.R_types HO259.out BK267.out (by decide)) (fun _ hk => by first | exact hk.2 | exact hk) (.slice Ao11 t257.length co11)) (fun _ hk => by first | exact hk.2 | exact hk) (.slice Ao13 t260.length co13)) (fun _ hk => by first | exact hk.2 | exact hk) (.slice Ao14 t263.length co14)) (fun _ hk => (And.intro (hk.1.1) (hk.1.2)))⟩, ⟨by (with_reducible repeat (first | apply Kd.R_alloc | apply Kd.R_drewN | apply Kd.R_drew)); exact Kd.R_mono (Kd.R_far (p := ⟨gb267, 2, none⟩) (Kd.R_far (p := ⟨gb267, 1, none⟩) (Kd.R_far (p := ⟨gb267, 0, none⟩) (Kd.R_types HO262.out BK267.out (by decide)) (fun _ hk => by first | exact hk.2 | exact hk) (.slice Ao11 t257.length co11)) (fun _ hk => by first | exact hk.2 | exact hk) (.slice Ao13 t260.length co13)) (fun _ hk => by first | exact hk.2 | exact hk) (.slice Ao14 t263.length co14)) (fun _ hk => (And.intro (hk.1.1) (hk.1.2)))⟩, ⟨by (with_reducible repeat (first | apply Kd.R_alloc | apply Kd.R_drewN | apply Kd.R_drew)); exact Kd.R_mono (Kd.R_far (p := ⟨gb267, 2, none⟩) (Kd.R_far (p := ⟨gb267, 1, none⟩) (Kd.R_far (p := ⟨gb267, 0, none⟩) (Kd.R_types HO265.out BK267.out (by decide)) (fun _ hk => by first | exact hk.2 | exact hk) (.slice Ao11 t257.length co11)) (fun _ hk => by first | exact hk.2 | exact hk) (.slice Ao13 t260.length co13)) (fun _ hk => by first | exact hk.2 | exact hk) (.slice Ao14 t263.length co14)) (fun _ hk => (And.intro (hk.1.1) (hk.1.2)))⟩, ⟨by (with_reducible repeat (first | refine blk_drewN ?_ _ | refine blk_drew ?_ | refine blk_alloc ?_ _)); refine blk_put (cs := #[.slice Ao11 t257.length co11, .slice Ao13 t260.length co13, .slice none 0 0]) ?_ 2 _ rfl; (with_reducible repeat (first | refine blk_drewN ?_ _ | refine blk_drew ?_ | refine blk_alloc ?_ _)); refine blk_put (cs := #[.slice Ao11 t257.length co11, .slice none 0 0, .slice none 0 0]) ?_ 1 _ rfl; (with_reducible repeat (first | refine blk_drewN ?_ _ | refine blk_drew ?_ | refine blk_alloc ?_ _)); refine blk_put (cs := #[.slice none 0 0, .slice none 0 0, .slice none 0 0]) ?_ 0 _ rfl; exact bk⟩, ⟨bb⟩⟩
     ·rw [if_neg c17] at H
      exfalso; with_reducible first | exact laws_FnNumbers.no_ H hrT_ | exact laws_FnNumbers.j0_t H hrT_ | exact laws_FnNumbers.j2_t H hrT_
    ·rw [if_neg c16] at H
     exfalso; with_reducible first | exact laws_FnNumbers.no_ H hrT_ | exact laws_FnNumbers.j0_t H hrT_ | exact laws_FnNumbers.j2_t H hrT_
   ·replace c15 := Bool.eq_false_iff.mpr c15
    subst c15
    have H1 : (laws_FnNumbers.j0 k t254 true t257 t260 t263) = some r := by rw [if_neg (show ¬ (false = true) by decide)] at H; exact H
    clear H
    have H := H1
    exfalso; with_reducible first | exact laws_FnNumbers.no_ H hrT_ | exact laws_FnNumbers.j0_t H hrT_ | exact laws_FnNumbers.j2_t H hrT_
  case rest =>
   clear HC6
   try clear c1
   try clear p2
   try clear c3
   try clear c4
   try clear c8
   try clear c15
   try clear c16
   try clear c16b0
   try clear c16b1
   try clear c16b2
   try clear c17
   try clear c17b0
   try clear c17b1
   try clear c17b2
   try clear hcz12_0
   try clear hcz12_1
   try clear hcz12_2
   try clear hcz18_0
   try clear hcz18_1
   try clear hcz18_2
   try clear hcz19_0
   try clear hcz19_1
   try clear hcz19_2
   try clear hcz20_0
   try clear hcz20_1
   try clear hcz20_2
   try clear hfz12_0
   try clear hfz12_1
   try clear hfz12_2
   try clear hfz18_0
   try clear hfz18_1
   try clear hfz18_2
   try clear hfz19_0
   try clear hfz19_1
   try clear hfz19_2
   try clear hfz20_0
   try clear hfz20_1
   try clear hfz20_2
   obtain ⟨kq, x45_5, rfl, HA, HJ5, HO_3, HO_268000, HO_268001, HO_268002, BK267, HB⟩ := hcut
   cases kq with
   | zero => exact absurd HA.out (by simp [laws_FnNumbers.j0])
   | succ kj5 =>
    have H := HA.out
    clear HA
    simp only [laws_FnNumbers.j0] at H
    by_cases c21 : x45_5 = true
    ·subst c21
     have H1 : (some false) = some r := by rw [if_pos rfl] at H; exact H
     clear H
     have H := H1
     exfalso; with_reducible first | exact laws_FnNumbers.no_ H hrT_ | exact laws_FnNumbers.j0_t H hrT_ | exact laws_FnNumbers.j2_t H hrT_
    ·replace c21 := Bool.eq_false_iff.mpr c21
     subst c21
     have H1 : (laws_FnNumbers.l0 kj5 t254 1 t257 t260 t263) = some r := by rw [if_neg (show ¬ (false = true) by decide)] at H; exact H
     clear H
     have H := H1
     clear H1
     have H' := Aside0.mk H
     clear H
     go_wp2
     go_loopg [6] kj5 (fun kq v6 w' => ∃ (x6_2 : Int), v6 = .int .i64 x6_2 ∧ Aside0 (laws_FnNumbers.l0 kq t254 x6_2 t257 t260 t263 = some r) ∧ Aside0 (kq ≤ kj5) ∧ Aside0 (Kd.R k50 50 w' w.heap.size (fun _ => True) (.slice Ao8 t254.length co8) t254) ∧ Aside0 (Kd.R (Kd.int .i64) 3 w' w.heap.size (fun k_ => some k_ ≠ ((.slice Ao13 t260.length co13) : Value).ownBlock ∧ some k_ ≠ ((.slice Ao14 t263.length co14) : Value).ownBlock) (.slice Ao11 t257.length co11) t257) ∧ Aside0 (Kd.R (Kd.int .i64) 3 w' w.heap.size (fun k_ => some k_ ≠ ((.slice Ao11 t257.length co11) : Value).ownBlock ∧ some k_ ≠ ((.slice Ao14 t263.length co14) : Value).ownBlock) (.slice Ao13 t260.length co13) t260) ∧ Aside0 (Kd.R (Kd.int .i64) 3 w' w.heap.size (fun k_ => some k_ ≠ ((.slice Ao11 t257.length co11) : Value).ownBlock ∧ some k_ ≠ ((.slice Ao13 t260.length co13) : Value).ownBlock) (.slice Ao14 t263.length co14) t263) ∧ Aside0 (w'.heap[gb267]? = some (.cells #[(.slice Ao11 t257.length co11), (.slice Ao13 t260.length co13), (.slice Ao14 t263.length co14)] 31 (0, 0))) ∧ Aside0 (Below w.heap.size w w'))
     case atStart => exact ⟨(1), (by first | rfl | (simp; done) | (simp [*]; done)), H', ⟨Nat.le_refl _⟩, ⟨by (with_reducible repeat (first | apply Kd.R_alloc | apply Kd.R_drewN | apply Kd.R_drew)); exact HO_3.out⟩, ⟨by (with_reducible repeat (first | apply Kd.R_alloc | apply Kd.R_drewN | apply Kd.R_drew)); exact HO_268000.out⟩, ⟨by (with_reducible repeat (first | apply Kd.R_alloc | apply Kd.R_drewN | apply Kd.R_drew)); exact HO_268001.out⟩, ⟨by (with_reducible repeat (first | apply Kd.R_alloc | apply Kd.R_drewN | apply Kd.R_drew)); exact HO_268002.out⟩, ⟨by exact bk⟩, ⟨bb⟩⟩
     case round =>
      clear H'
      try clear c1
      try clear c2
      try clear p2
      try clear c3
      try clear c4
      try clear c8
      try clear c15
      try clear c16
      try clear c16b0
      try clear c16b1
      try clear c16b2
      try clear c17
      try clear c17b0
      try clear c17b1
      try clear c17b2
      try clear c21
      try clear hcz12_0
      try clear hcz12_1
      try clear hcz12_2
      try clear hcz18_0
      try clear hcz18_1
      try clear hcz18_2
      try clear hcz19_0
      try clear hcz19_1
      try clear hcz19_2
      try clear hcz20_0
      try clear hcz20_1
      try clear hcz20_2
      try clear hfz12_0
      try clear hfz12_1
      try clear hfz12_2
      try clear hfz18_0
      try clear hfz18_1
      try clear hfz18_2
      try clear hfz19_0
      try clear hfz19_1
      try clear hfz19_2
      try clear hfz20_0
      try clear hfz20_1
      try clear hfz20_2
      try clear p2
      obtain ⟨x6_2, rfl, HA, HK2, HO_3, HO_268000, HO_268001, HO_268002, BK267, HB⟩ := hrel
      cases gk with
      | zero => exact absurd HA.out (by simp [laws_FnNumbers.l0])
      | succ k2 =>
       have H := HA.out
       clear HA
       simp only [laws_FnNumbers.l0] at H
       by_cases c22 : x6_2 < (t254.length : Int)
       ·rw [if_pos c22] at H
        have c22b0 : decide (x6_2 < (t254.length : Int)) = true := decide_eq_true c22
        clear c22
        by_cases c23 : 0 ≤ x6_2
        ·rw [if_pos c23] at H
         have c23b0 : decide (0 ≤ x6_2) = true := decide_eq_true c23
         clear c23
         by_cases c24 : x6_2 < (t257.length : Int)
         ·rw [if_pos c24] at H
          have c24b0 : decide (x6_2 < (t257.length : Int)) = true := decide_eq_true c24
          clear c24
          by_cases c25 : 0 ≤ ((rd_T50 t254 x6_2).f0)
          ·rw [if_pos c25] at H
           have c25b0 : decide (0 ≤ ((rd_T50 t254 x6_2).f0)) = true := decide_eq_true c25
           clear c25
           by_cases c26 : ((rd_T50 t254 x6_2).f0) < (t260.length : Int)
           ·rw [if_pos c26] at H
            have c26b0 : decide (((rd_T50 t254 x6_2).f0) < (t260.length : Int)) = true := decide_eq_true c26
            clear c26
            by_cases c27 : (rd t257 x6_2) = (rd t260 ((rd_T50 t254 x6_2).f0))
            ·rw [if_pos c27] at H
             have c27b0 : ((rd t257 x6_2) == (rd t260 ((rd_T50 t254 x6_2).f0))) = true := beq_iff_eq.mpr c27
             have c27b1 : ((rd t257 x6_2) != (rd t260 ((rd_T50 t254 x6_2).f0))) = false := bne_eq_false_iff_eq.mpr c27
             clear c27
             by_cases c28 : ((rd_T50 t254 x6_2).f2) > 0
             ·rw [if_pos c28] at H
              as_aux_lemma =>
               have c28b0 : decide (0 < ((rd_T50 t254 x6_2).f2)) = true := decide_eq_true c28
               clear c28
               by_cases c29 : x6_2 < (t260.length : Int)
               ·rw [if_pos c29] at H
                have c29b0 : decide (x6_2 < (t260.length : Int)) = true := decide_eq_true c29
                clear c29
                by_cases c30 : (rd t260 x6_2) = (-1)
                ·rw [if_pos c30] at H
                 have c30b0 : ((rd t260 x6_2) == (-1)) = true := beq_iff_eq.mpr c30
                 have c30b1 : ((rd t260 x6_2) != (-1)) = false := bne_eq_false_iff_eq.mpr c30
                 clear c30
                 by_cases c31 : x6_2 < (t263.length : Int)
                 ·rw [if_pos c31] at H
                  have c31b0 : decide (x6_2 < (t263.length : Int)) = true := decide_eq_true c31
                  clear c31
                  by_cases c32 : (rd t263 x6_2) = (-1)
                  ·rw [if_pos c32] at H
                   have c32b0 : ((rd t263 x6_2) == (-1)) = true := beq_iff_eq.mpr c32
                   have c32b1 : ((rd t263 x6_2) != (-1)) = false := bne_eq_false_iff_eq.mpr c32
                   clear c32
                   have H' := Aside0.mk H
                   clear H
                   have p268 : 0 ≤ (x6_2 : Int) := of_decide_eq_true (by first | (with_reducible assumption) | assumption)
                   have q268 : x6_2 < (t254.length : Int) := of_decide_eq_true (by first | (with_reducible assumption) | assumption)
                   obtain ⟨ad268, e268, hx268_0, hx268_1, hx268_2⟩ := at_T50 (Kd.R_reads' HO_3.out).2.2 x6_2 p268 q268
                   cases e268
                   replace p268 := eq_true p268
                   replace q268 := eq_true q268
                   try go_wp2
                   have n0_ := Aside0.mk (Kd.R_drew HO_3.out)
                   have n1_ := Aside0.mk (Kd.R_drew HO_268000.out)
                   have n2_ := Aside0.mk (Kd.R_drew HO_268001.out)
                   have n3_ := Aside0.mk (Kd.R_drew HO_268002.out)
                   have n4_ := Aside0.mk (blk_drew BK267.out)
                   have n5_ := Aside0.mk (below_drew1 HB.out)
                   clear HO_3
                   clear HO_268000
                   clear HO_268001
                   clear HO_268002
                   clear BK267
                   clear HB
                   have HO_3 := n0_
                   have HO_268000 := n1_
                   have HO_268001 := n2_
                   have HO_268002 := n3_
                   have BK267 := n4_
                   have HB := n5_
                   clear n0_ n1_ n2_ n3_ n4_ n5_
                   have p269 : 0 ≤ (x6_2 : Int) := of_decide_eq_true (by first | (with_reducible assumption) | assumption)
                   have q269 : x6_2 < (t257.length : Int) := of_decide_eq_true (by first | (with_reducible assumption) | assumption)
                   obtain ⟨ad269, e269, hx269_0⟩ := Kd.at_int (Kd.R_reads' HO_268000.out).2.2 x6_2 p269 q269
                   cases e269
                   replace p269 := eq_true p269
                   replace q269 := eq_true q269
                   have p270 : 0 ≤ (((rd_T50 t254 x6_2).f0) : Int) := of_decide_eq_true (by first | (with_reducible assumption) | assumption)
                   have q270 : ((rd_T50 t254 x6_2).f0) < (t260.length : Int) := of_decide_eq_true (by first | (with_reducible assumption) | assumption)
                   obtain ⟨ad270, e270, hx270_0⟩ := Kd.at_int (Kd.R_reads' HO_268001.out).2.2 ((rd_T50 t254 x6_2).f0) p270 q270
                   cases e270
                   replace p270 := eq_true p270
                   replace q270 := eq_true q270
                   refine start_ (n := 11) (S := fun w' => w'.cell? ⟨gb267, 0, none⟩ = some (.slice (some ad269) t257.length co11) ∧ w'.cell? ⟨gb267, 1, none⟩ = some (.slice (some ad270) t260.length co13) ∧ w'.cell? ⟨gb267, 2, none⟩ = some (.slice Ao14 t263.length co14) ∧ w'.cell? (ad269.add (x6_2).toNat) = some (.int .i64 (rd t257 x6_2)) ∧ w'.cell? (ad270.add (((rd_T50 t254 x6_2).f0)).toNat) = some (.int .i64 (rd t260 ((rd_T50 t254 x6_2).f0)))) (ds := []) (bz 11 0) (by kernel_rfl) rfl (by kernel_rfl) ⟨(blk_cell BK267.out 0).trans rfl, (blk_cell BK267.out 1).trans rfl, (blk_cell BK267.out 2).trans rfl, hx269_0, hx270_0⟩ (fun hHeld => ?_); refine with_tabW laws_FnNumbers.tab11 laws_FnNumbers.bits11 (fun HT_ HW_ => ?_)
                   generalize wr.drew = w33 at HO_3 HO_268000 HO_268001 HO_268002 BK267 HB hx269_0 hx270_0 hHeld ⊢
                   refine pv 0 57 (bz 11 1) HT_ (h := ?_)
                   refine pv 2 59 (bz 11 5) HT_ (h := ?_)
                   refine pv 5 62 (bz 11 37) HT_ (h := ?_)
                   refine pv 7 64 (bz 11 165) HT_ (h := ?_)
                   refine tv5 1 58 (bz 11 167) HT_ HW_ hHeld (h := ?_)
                   refine pv 3 60 (bz 11 175) HT_ (h := ?_)
                   refine tv5 4 61 (bz 11 191) HT_ HW_ hHeld (h := ?_)
                   refine tv5 6 63 (bz 11 255) HT_ HW_ hHeld (h := ?_)
                   refine pv 8 65 (bz 11 511) HT_ (h := ?_)
                   refine tv5 9 66 (bz 11 1023) HT_ HW_ hHeld (h := ?_)
                   refine pv 10 67 (bz 11 2047) HT_ (h := ?_)
                   refine done_ (done_of HT_.out (by kernel_rfl)) ?_
                   have p271 : 0 ≤ (x6_2 : Int) := of_decide_eq_true (by first | (with_reducible assumption) | assumption)
                   have q271 : x6_2 < (t254.length : Int) := of_decide_eq_true (by first | (with_reducible assumption) | assumption)
                   obtain ⟨ad271, e271, hx271_0, hx271_1, hx271_2⟩ := at_T50 (Kd.R_reads' HO_3.out).2.2 x6_2 p271 q271
                   obtain rfl : ad268 = ad271 := (by injection e271)
                   replace p271 := eq_true p271
                   replace q271 := eq_true q271
                   obtain ⟨hcz34_0, hcz34_1, hcz34_2, hfz34_0, hfz34_1, hfz34_2⟩ := bx3 BK267.out
                   have p272 : 0 ≤ (x6_2 : Int) := of_decide_eq_true (by first | (with_reducible assumption) | assumption)
                   have q272 : x6_2 < (t260.length : Int) := of_decide_eq_true (by first | (with_reducible assumption) | assumption)
                   obtain ⟨ad272, e272, hx272_0⟩ := Kd.at_int (Kd.R_reads' HO_268001.out).2.2 x6_2 p272 q272
                   obtain rfl : ad270 = ad272 := (by injection e272)
                   replace p272 := eq_true p272
                   replace q272 := eq_true q272
                   have p273 : 0 ≤ (x6_2 : Int) := of_decide_eq_true (by first | (with_reducible assumption) | assumption)
                   have q273 : x6_2 < (t263.length : Int) := of_decide_eq_true (by first | (with_reducible assumption) | assumption)
                   obtain ⟨ad273, e273, hx273_0⟩ := Kd.at_int (Kd.R_reads' HO_268002.out).2.2 x6_2 p273 q273
                   cases e273
                   replace p273 := eq_true p273
                   replace q273 := eq_true q273
                   try go_wp2
                   go_roundg k2
                   case measure => have := HJ5.out; have := HK2.out; omega
                   case rel => exact ⟨(wrap64 (x6_2 + 1)), (by first | rfl | (simp; done) | (simp [*]; done)), H', ⟨by have := HJ5.out; have := HK2.out; omega⟩, ⟨by (with_reducible repeat (first | apply Kd.R_alloc | apply Kd.R_drewN | apply Kd.R_drew)); exact HO_3.out⟩, ⟨by (with_reducible repeat (first | apply Kd.R_alloc | apply Kd.R_drewN | apply Kd.R_drew)); exact HO_268000.out⟩, ⟨by (with_reducible repeat (first | apply Kd.R_alloc | apply Kd.R_drewN | apply Kd.R_drew)); exact HO_268001.out⟩, ⟨by (with_reducible repeat (first | apply Kd.R_alloc | apply Kd.R_drewN | apply Kd.R_drew)); exact HO_268002.out⟩, ⟨by exact bk⟩, ⟨bb⟩⟩
                  ·rw [if_neg c32] at H
                   exfalso; with_reducible first | exact laws_FnNumbers.no_ H hrT_ | exact laws_FnNumbers.j0_t H hrT_ | exact laws_FnNumbers.j2_t H hrT_
                 ·rw [if_neg c31] at H
                  exact absurd H (by simp)
                ·rw [if_neg c30] at H
                 exfalso; with_reducible first | exact laws_FnNumbers.no_ H hrT_ | exact laws_FnNumbers.j0_t H hrT_ | exact laws_FnNumbers.j2_t H hrT_
               ·rw [if_neg c29] at H
                exact absurd H (by simp)
             ·rw [if_neg c28] at H
              have c28b0 : decide (0 < ((rd_T50 t254 x6_2).f2)) = false := decide_eq_false c28
              clear c28
              have HC39 := Aside0.mk H
              clear H
              have p268 : 0 ≤ (x6_2 : Int) := of_decide_eq_true (by first | (with_reducible assumption) | assumption)
              have q268 : x6_2 < (t254.length : Int) := of_decide_eq_true (by first | (with_reducible assumption) | assumption)
              obtain ⟨ad268, e268, hx268_0, hx268_1, hx268_2⟩ := at_T50 (Kd.R_reads' HO_3.out).2.2 x6_2 p268 q268
              cases e268
              replace p268 := eq_true p268
              replace q268 := eq_true q268
              try go_wp2
              have n0_ := Aside0.mk (Kd.R_drew HO_3.out)
              have n1_ := Aside0.mk (Kd.R_drew HO_268000.out)
              have n2_ := Aside0.mk (Kd.R_drew HO_268001.out)
              have n3_ := Aside0.mk (Kd.R_drew HO_268002.out)
              have n4_ := Aside0.mk (blk_drew BK267.out)
              have n5_ := Aside0.mk (below_drew1 HB.out)
              clear HO_3
              clear HO_268000
              clear HO_268001
              clear HO_268002
              clear BK267
              clear HB
              have HO_3 := n0_
              have HO_268000 := n1_
              have HO_268001 := n2_
              have HO_268002 := n3_
              have BK267 := n4_
              have HB := n5_
              clear n0_ n1_ n2_ n3_ n4_ n5_
              have p269 : 0 ≤ (x6_2 : Int) := of_decide_eq_true (by first | (with_reducible assumption) | assumption)
              have q269 : x6_2 < (t257.length : Int) := of_decide_eq_true (by first | (with_reducible assumption) | assumption)
              obtain ⟨ad269, e269, hx269_0⟩ := Kd.at_int (Kd.R_reads' HO_268000.out).2.2 x6_2 p269 q269
              cases e269
              replace p269 := eq_true p269
              replace q269 := eq_true q269
              have p270 : 0 ≤ (((rd_T50 t254 x6_2).f0) : Int) := of_decide_eq_true (by first | (with_reducible assumption) | assumption)
              have q270 : ((rd_T50 t254 x6_2).f0) < (t260.length : Int) := of_decide_eq_true (by first | (with_reducible assumption) | assumption)
              obtain ⟨ad270, e270, hx270_0⟩ := Kd.at_int (Kd.R_reads' HO_268001.out).2.2 ((rd_T50 t254 x6_2).f0) p270 q270
              cases e270
              replace p270 := eq_true p270
              replace q270 := eq_true q270
              refine start_ (n := 11) (S := fun w' => w'.cell? ⟨gb267, 0, none⟩ = some (.slice (some ad269) t257.length co11) ∧ w'.cell? ⟨gb267, 1, none⟩ = some (.slice (some ad270) t260.length co13) ∧ w'.cell? ⟨gb267, 2, none⟩ = some (.slice Ao14 t263.length co14) ∧ w'.cell? (ad269.add (x6_2).toNat) = some (.int .i64 (rd t257 x6_2)) ∧ w'.cell? (ad270.add (((rd_T50 t254 x6_2).f0)).toNat) = some (.int .i64 (rd t260 ((rd_T50 t254 x6_2).f0)))) (ds := []) (bz 11 0) (by kernel_rfl) rfl (by kernel_rfl) ⟨(blk_cell BK267.out 0).trans rfl, (blk_cell BK267.out 1).trans rfl, (blk_cell BK267.out 2).trans rfl, hx269_0, hx270_0⟩ (fun hHeld => ?_); refine with_tabW laws_FnNumbers.tab11 laws_FnNumbers.bits11 (fun HT_ HW_ => ?_)
              generalize wr.drew = w40 at HO_3 HO_268000 HO_268001 HO_268002 BK267 HB hx269_0 hx270_0 hHeld ⊢
              refine pv 0 57 (bz 11 1) HT_ (h := ?_)
              refine pv 2 59 (bz 11 5) HT_ (h := ?_)
              refine pv 5 62 (bz 11 37) HT_ (h := ?_)
              refine pv 7 64 (bz 11 165) HT_ (h := ?_)
              refine tv5 1 58 (bz 11 167) HT_ HW_ hHeld (h := ?_)
              refine pv 3 60 (bz 11 175) HT_ (h := ?_)
              refine tv5 4 61 (bz 11 191) HT_ HW_ hHeld (h := ?_)
              refine tv5 6 63 (bz 11 255) HT_ HW_ hHeld (h := ?_)
              refine pv 8 65 (bz 11 511) HT_ (h := ?_)
              refine tv5 9 66 (bz 11 1023) HT_ HW_ hHeld (h := ?_)
              refine pv 10 67 (bz 11 2047) HT_ (h := ?_)
              refine done_ (done_of HT_.out (by kernel_rfl)) ?_
              have p271 : 0 ≤ (x6_2 : Int) := of_decide_eq_true (by first | (with_reducible assumption) | assumption)
              have q271 : x6_2 < (t254.length : Int) := of_decide_eq_true (by first | (with_reducible assumption) | assumption)
              obtain ⟨ad271, e271, hx271_0, hx271_1, hx271_2⟩ := at_T50 (Kd.R_reads' HO_3.out).2.2 x6_2 p271 q271
              obtain rfl : ad268 = ad271 := (by injection e271)
              replace p271 := eq_true p271
              replace q271 := eq_true q271
              go_upto_region 16 with (fail)
              go_cut [135] (fun v135 wc => ∃ (kq : Nat) (x135_38 : Bool), v135 = .bool x135_38 ∧ Aside0 (laws_FnNumbers.j2 kq t254 x6_2 ((rd_T50 t254 x6_2).f0) x135_38 t257 t260 t263 = some r) ∧ Aside0 (kq ≤ k2) ∧ Aside0 (Kd.R k50 50 wc w.heap.size (fun _ => True) (.slice (some ad268) t254.length co8) t254) ∧ Aside0 (Kd.R (Kd.int .i64) 3 wc w.heap.size (fun k_ => some k_ ≠ ((.slice (some ad270) t260.length co13) : Value).ownBlock ∧ some k_ ≠ ((.slice Ao14 t263.length co14) : Value).ownBlock) (.slice (some ad269) t257.length co11) t257) ∧ Aside0 (Kd.R (Kd.int .i64) 3 wc w.heap.size (fun k_ => some k_ ≠ ((.slice (some ad269) t257.length co11) : Value).ownBlock ∧ some k_ ≠ ((.slice Ao14 t263.length co14) : Value).ownBlock) (.slice (some ad270) t260.length co13) t260) ∧ Aside0 (Kd.R (Kd.int .i64) 3 wc w.heap.size (fun k_ => some k_ ≠ ((.slice (some ad269) t257.length co11) : Value).ownBlock ∧ some k_ ≠ ((.slice (some ad270) t260.length co13) : Value).ownBlock) (.slice Ao14 t263.length co14) t263) ∧ Aside0 (wc.heap[gb267]? = some (.cells #[(.slice (some ad269) t257.length co11), (.slice (some ad270) t260.length co13), (.slice Ao14 t263.length co14)] 31 (0, 0))) ∧ Aside0 (Below w.heap.size w wc))
              case first =>
               have H := HC39.out
               clear HC39
               by_cases c41 : x6_2 < (t260.length : Int)
               ·rw [if_pos c41] at H
                have c41b0 : decide (x6_2 < (t260.length : Int)) = true := decide_eq_true c41
                clear c41
                (first | rw [c41b0] | (simp only [i64_w, i32_w]; rw [c41b0]) | skip)
                by_cases c42 : (rd t260 x6_2) ≤ (rd t260 ((rd_T50 t254 x6_2).f0))
                ·rw [if_pos c42] at H
                 exfalso; with_reducible first | exact laws_FnNumbers.no_ H hrT_ | exact laws_FnNumbers.j0_t H hrT_ | exact laws_FnNumbers.j2_t H hrT_
                ·rw [if_neg c42] at H
                 as_aux_lemma =>
                  have c42b0 : decide ((rd t260 x6_2) ≤ (rd t260 ((rd_T50 t254 x6_2).f0))) = false := decide_eq_false c42
                  clear c42
                  by_cases c44 : x6_2 < (t263.length : Int)
                  ·rw [if_pos c44] at H
                   have c44b0 : decide (x6_2 < (t263.length : Int)) = true := decide_eq_true c44
                   clear c44
                   by_cases c45 : ((rd_T50 t254 x6_2).f0) < (t263.length : Int)
                   ·rw [if_pos c45] at H
                    have c45b0 : decide (((rd_T50 t254 x6_2).f0) < (t263.length : Int)) = true := decide_eq_true c45
                    clear c45
                    by_cases c46 : (rd t263 x6_2) > (rd t263 ((rd_T50 t254 x6_2).f0))
                    ·rw [if_pos c46] at H
                     exfalso; with_reducible first | exact laws_FnNumbers.no_ H hrT_ | exact laws_FnNumbers.j0_t H hrT_ | exact laws_FnNumbers.j2_t H hrT_
                    ·rw [if_neg c46] at H
                     have c46b0 : decide ((rd t263 ((rd_T50 t254 x6_2).f0)) < (rd t263 x6_2)) = false := decide_eq_false c46
                     clear c46
                     by_cases c48 : (rd t260 x6_2) > (rd t263 x6_2)
                     ·rw [if_pos c48] at H
                      exfalso; with_reducible first | exact laws_FnNumbers.no_ H hrT_ | exact laws_FnNumbers.j0_t H hrT_ | exact laws_FnNumbers.j2_t H hrT_
                     ·rw [if_neg c48] at H
                      have c48b0 : decide ((rd t263 x6_2) < (rd t260 x6_2)) = false := decide_eq_false c48
                      clear c48
                      replace H := Option.bind_eq_some_iff.mp H
                      obtain ⟨t281, A500, H⟩ := H
                      replace H : (laws_FnNumbers.j2 k2 t254 x6_2 ((rd_T50 t254 x6_2).f0) (!t281) t257 t260 t263) = some r := H
                      have A50 := Aside0.mk A500
                      clear A500
                      have H' := Aside0.mk H
                      clear H
                      try go_wp2
                      have n0_ := Aside0.mk (Kd.R_drew HO_3.out)
                      have n1_ := Aside0.mk (Kd.R_drew HO_268000.out)
                      have n2_ := Aside0.mk (Kd.R_drew HO_268001.out)
                      have n3_ := Aside0.mk (Kd.R_drew HO_268002.out)
                      have n4_ := Aside0.mk (blk_drew BK267.out)
                      have n5_ := Aside0.mk (below_drew1 HB.out)
                      clear HO_3
                      clear HO_268000
                      clear HO_268001
                      clear HO_268002
                      clear BK267
                      clear HB
                      have HO_3 := n0_
                      have HO_268000 := n1_
                      have HO_268001 := n2_
                      have HO_268002 := n3_
                      have BK267 := n4_
                      have HB := n5_
                      clear n0_ n1_ n2_ n3_ n4_ n5_
                      have p274 : 0 ≤ (x6_2 : Int) := of_decide_eq_true (by first | (with_reducible assumption) | assumption)
                      have q274 : x6_2 < (t260.length : Int) := of_decide_eq_true (by first | (with_reducible assumption) | assumption)
                      obtain ⟨ad274, e274, hx274_0⟩ := Kd.at_int (Kd.R_reads' HO_268001.out).2.2 x6_2 p274 q274
                      obtain rfl : ad270 = ad274 := (by injection e274)
                      replace p274 := eq_true p274
                      replace q274 := eq_true q274
                      have p275 : 0 ≤ (((rd_T50 t254 x6_2).f0) : Int) := of_decide_eq_true (by first | (with_reducible assumption) | assumption)
                      have q275 : ((rd_T50 t254 x6_2).f0) < (t260.length : Int) := of_decide_eq_true (by first | (with_reducible assumption) | assumption)
                      obtain ⟨ad275, e275, hx275_0⟩ := Kd.at_int (Kd.R_reads' HO_268001.out).2.2 ((rd_T50 t254 x6_2).f0) p275 q275
                      obtain rfl : ad270 = ad275 := (by injection e275)
                      replace p275 := eq_true p275
                      replace q275 := eq_true q275
                      have p276 : 0 ≤ (x6_2 : Int) := of_decide_eq_true (by first | (with_reducible assumption) | assumption)
                      have q276 : x6_2 < (t263.length : Int) := of_decide_eq_true (by first | (with_reducible assumption) | assumption)
                      obtain ⟨ad276, e276, hx276_0⟩ := Kd.at_int (Kd.R_reads' HO_268002.out).2.2 x6_2 p276 q276
                      cases e276
                      replace p276 := eq_true p276
                      replace q276 := eq_true q276
                      have p277 : 0 ≤ (((rd_T50 t254 x6_2).f0) : Int) := of_decide_eq_true (by first | (with_reducible assumption) | assumption)
                      have q277 : ((rd_T50 t254 x6_2).f0) < (t263.length : Int) := of_decide_eq_true (by first | (with_reducible assumption) | assumption)
                      obtain ⟨ad277, e277, hx277_0⟩ := Kd.at_int (Kd.R_reads' HO_268002.out).2.2 ((rd_T50 t254 x6_2).f0) p277 q277
                      obtain rfl : ad276 = ad277 := (by injection e277)
                      replace p277 := eq_true p277
                      replace q277 := eq_true q277
                      have p278 : 0 ≤ (x6_2 : Int) := of_decide_eq_true (by first | (with_reducible assumption) | assumption)
                      have q278 : x6_2 < (t260.length : Int) := of_decide_eq_true (by first | (with_reducible assumption) | assumption)
                      obtain ⟨ad278, e278, hx278_0⟩ := Kd.at_int (Kd.R_reads' HO_268001.out).2.2 x6_2 p278 q278
                      obtain rfl : ad270 = ad278 := (by injection e278)
                      replace p278 := eq_true p278
                      replace q278 := eq_true q278
                      have p279 : 0 ≤ (x6_2 : Int) := of_decide_eq_true (by first | (with_reducible assumption) | assumption)
                      have q279 : x6_2 < (t263.length : Int) := of_decide_eq_true (by first | (with_reducible assumption) | assumption)
                      obtain ⟨ad279, e279, hx279_0⟩ := Kd.at_int (Kd.R_reads' HO_268002.out).2.2 x6_2 p279 q279
                      obtain rfl : ad276 = ad279 := (by injection e279)
                      replace p279 := eq_true p279
                      replace q279 := eq_true q279
                      have p280 : 0 ≤ (x6_2 : Int) := of_decide_eq_true (by first | (with_reducible assumption) | assumption)
                      have q280 : x6_2 < (t260.length : Int) := of_decide_eq_true (by first | (with_reducible assumption) | assumption)
                      obtain ⟨ad280, e280, hx280_0⟩ := Kd.at_int (Kd.R_reads' HO_268001.out).2.2 x6_2 p280 q280
                      obtain rfl : ad270 = ad280 := (by injection e280)
                      replace p280 := eq_true p280
                      replace q280 := eq_true q280
                      refine start_ (n := 48) (S := fun w' => w'.cell? ⟨gb267, 0, none⟩ = some (.slice (some ad269) t257.length co11) ∧ w'.cell? ⟨gb267, 1, none⟩ = some (.slice (some ad270) t260.length co13) ∧ w'.cell? ⟨gb267, 2, none⟩ = some (.slice (some ad276) t263.length co14) ∧ w'.cell? (ad270.add (x6_2).toNat) = some (.int .i64 (rd t260 x6_2)) ∧ w'.cell? (ad270.add (((rd_T50 t254 x6_2).f0)).toNat) = some (.int .i64 (rd t260 ((rd_T50 t254 x6_2).f0))) ∧ w'.cell? (ad276.add (x6_2).toNat) = some (.int .i64 (rd t263 x6_2)) ∧ w'.cell? (ad276.add (((rd_T50 t254 x6_2).f0)).toNat) = some (.int .i64 (rd t263 ((rd_T50 t254 x6_2).f0))) ∧ w'.cell? (ad270.add (x6_2).toNat) = some (.int .i64 (rd t260 x6_2)) ∧ w'.cell? (ad276.add (x6_2).toNat) = some (.int .i64 (rd t263 x6_2)) ∧ w'.cell? (ad270.add (x6_2).toNat) = some (.int .i64 (rd t260 x6_2))) (ds := []) (bz 48 0) (by kernel_rfl) rfl (by kernel_rfl) ⟨(blk_cell BK267.out 0).trans rfl, (blk_cell BK267.out 1).trans rfl, (blk_cell BK267.out 2).trans rfl, hx274_0, hx275_0, hx276_0, hx277_0, hx278_0, hx279_0, hx280_0⟩ (fun hHeld => ?_); refine with_tabW laws_FnNumbers.tab16 laws_FnNumbers.bits16 (fun HT_ HW_ => ?_)
                      generalize w40.drew = w51 at HO_3 HO_268000 HO_268001 HO_268002 BK267 HB hx274_0 hx275_0 hx276_0 hx277_0 hx278_0 hx279_0 hx280_0 hHeld ⊢
                      refine pv 0 88 (bz 48 1) HT_ (h := ?_)
                      refine pv 2 90 (bz 48 5) HT_ (h := ?_)
                      refine pv 5 93 (bz 48 37) HT_ (h := ?_)
                      refine pv 7 95 (bz 48 165) HT_ (h := ?_)
                      refine tv10 1 89 (bz 48 167) HT_ HW_ hHeld (h := ?_)
                      refine pv 3 91 (bz 48 175) HT_ (h := ?_)
                      refine tv10 4 92 (bz 48 191) HT_ HW_ hHeld (h := ?_)
                      refine tv10 6 94 (bz 48 255) HT_ HW_ hHeld (h := ?_)
                      refine pv 8 96 (bz 48 511) HT_ (h := ?_)
                      refine tv10 9 97 (bz 48 1023) HT_ HW_ hHeld (h := ?_)
                      refine pv 10 98 (bz 48 2047) HT_ (h := ?_)
                      refine pv 11 99 (bz 48 4095) HT_ (h := ?_)
                      refine pv 12 100 (bz 48 8191) HT_ (h := ?_)
                      refine pv 14 102 (bz 48 24575) HT_ (h := ?_)
                      refine pv 17 105 (bz 48 155647) HT_ (h := ?_)
                      refine pv 19 107 (bz 48 679935) HT_ (h := ?_)
                      refine tv10 13 101 (bz 48 688127) HT_ HW_ hHeld (h := ?_)
                      refine pv 15 103 (bz 48 720895) HT_ (h := ?_)
                      refine tv10 16 104 (bz 48 786431) HT_ HW_ hHeld (h := ?_)
                      refine tv10 18 106 (bz 48 1048575) HT_ HW_ hHeld (h := ?_)
                      refine pv 20 108 (bz 48 2097151) HT_ (h := ?_)
                      refine tv10 21 109 (bz 48 4194303) HT_ HW_ hHeld (h := ?_)
                      refine pv 22 110 (bz 48 8388607) HT_ (h := ?_)
                      refine pv 23 111 (bz 48 16777215) HT_ (h := ?_)
                      refine pv 24 112 (bz 48 33554431) HT_ (h := ?_)
                      refine pv 25 113 (bz 48 67108863) HT_ (h := ?_)
                      refine pv 27 115 (bz 48 201326591) HT_ (h := ?_)
                      refine pv 30 118 (bz 48 1275068415) HT_ (h := ?_)
                      refine pv 32 120 (bz 48 5570035711) HT_ (h := ?_)
                      refine tv10 26 114 (bz 48 5637144575) HT_ HW_ hHeld (h := ?_)
                      refine pv 28 116 (bz 48 5905580031) HT_ (h := ?_)
                      refine tv10 29 117 (bz 48 6442450943) HT_ HW_ hHeld (h := ?_)
                      refine tv10 31 119 (bz 48 8589934591) HT_ HW_ hHeld (h := ?_)
                      refine pv 33 121 (bz 48 17179869183) HT_ (h := ?_)
                      refine tv10 34 122 (bz 48 34359738367) HT_ HW_ hHeld (h := ?_)
                      refine pv 35 123 (bz 48 68719476735) HT_ (h := ?_)
                      refine pv 36 124 (bz 48 137438953471) HT_ (h := ?_)
                      refine pv 37 125 (bz 48 274877906943) HT_ (h := ?_)
                      refine pv 39 127 (bz 48 824633720831) HT_ (h := ?_)
                      refine pv 40 128 (bz 48 1924145348607) HT_ (h := ?_)
                      refine pv 42 130 (bz 48 6322191859711) HT_ (h := ?_)
                      refine tv10 38 126 (bz 48 6597069766655) HT_ HW_ hHeld (h := ?_)
                      refine tv10 41 129 (bz 48 8796093022207) HT_ HW_ hHeld (h := ?_)
                      refine pv 43 131 (bz 48 17592186044415) HT_ (h := ?_)
                      refine tv10 44 132 (bz 48 35184372088831) HT_ HW_ hHeld (h := ?_)
                      refine one_ (i := 45) (N := some 133) (bz 48 70368744177663) rfl rfl (one_of HT_.out (by kernel_rfl)) (by decide) (fun K hK => ?_)
                      refine goes_ Try.func43 (by kernel_rfl) rfl #[.agg #[.slice (some ad269) t257.length co11, .slice (some ad270) t260.length co13, .slice (some ad276) t263.length co14], .int .i64 ((rd_T50 t254 x6_2).f0), .int .i64 (rd t260 x6_2)] (by rfl) rfl rfl (by (try simp only [List.map_toArray, List.map_cons, List.map_nil]); first | done | rfl | (simp only [List.length_drop, List.length_take]; rfl)) ?_
                      with_reducible refine (impl_IsUnder.calls _ _ t257 _ _ t260 _ _ t263 ((rd_T50 t254 x6_2).f0) (rd t260 x6_2) t281 _ ?side1 ?side2 ?side3 ?side4 ?side5 ?side6 A50.out).mono ?_
                      (case side1 => repeat (first | exact (Kd.R_reads' HO_268000.out).2.2 | (with_reducible refine Kd.C_alloc ?_ _) | (with_reducible refine Kd.C_drewN ?_ _) | (with_reducible refine Kd.C_drew ?_)))
                      (case side2 => exact (Kd.R_reads' HO_268000.out).2.1)
                      (case side3 => repeat (first | exact (Kd.R_reads' HO_268001.out).2.2 | (with_reducible refine Kd.C_alloc ?_ _) | (with_reducible refine Kd.C_drewN ?_ _) | (with_reducible refine Kd.C_drew ?_)))
                      (case side4 => exact (Kd.R_reads' HO_268001.out).2.1)
                      (case side5 => repeat (first | exact (Kd.R_reads' HO_268002.out).2.2 | (with_reducible refine Kd.C_alloc ?_ _) | (with_reducible refine Kd.C_drewN ?_ _) | (with_reducible refine Kd.C_drew ?_)))
                      (case side6 => exact (Kd.R_reads' HO_268002.out).2.1)
                      rintro e w52 ⟨rfl, hb⟩
                      have HS3_ := (hb.cell (World.block_lt_of_cell? _ _ (hHeld.2.2.2.1))).trans (hHeld.2.2.2.1)
                      have HS4_ := (hb.cell (World.block_lt_of_cell? _ _ (hHeld.2.2.2.2.1))).trans (hHeld.2.2.2.2.1)
                      have HS5_ := (hb.cell (World.block_lt_of_cell? _ _ (hHeld.2.2.2.2.2.1))).trans (hHeld.2.2.2.2.2.1)
                      have HS6_ := (hb.cell (World.block_lt_of_cell? _ _ (hHeld.2.2.2.2.2.2.1))).trans (hHeld.2.2.2.2.2.2.1)
                      have HS7_ := (hb.cell (World.block_lt_of_cell? _ _ (hHeld.2.2.2.2.2.2.2.1))).trans (hHeld.2.2.2.2.2.2.2.1)
                      have HS8_ := (hb.cell (World.block_lt_of_cell? _ _ (hHeld.2.2.2.2.2.2.2.2.1))).trans (hHeld.2.2.2.2.2.2.2.2.1)
                      have HS9_ := (hb.cell (World.block_lt_of_cell? _ _ (hHeld.2.2.2.2.2.2.2.2.2))).trans (hHeld.2.2.2.2.2.2.2.2.2)
                      refine ⟨_, rfl, ?_⟩
                      have n0_ := Aside0.mk (Kd.R_below (by (with_reducible repeat (first | apply Kd.R_alloc | apply Kd.R_drewN | apply Kd.R_drew)); exact HO_3.out) hb)
                      have n1_ := Aside0.mk (Kd.R_below (by (with_reducible repeat (first | apply Kd.R_alloc | apply Kd.R_drewN | apply Kd.R_drew)); exact HO_268000.out) hb)
                      have n2_ := Aside0.mk (Kd.R_below (by (with_reducible repeat (first | apply Kd.R_alloc | apply Kd.R_drewN | apply Kd.R_drew)); exact HO_268001.out) hb)
                      have n3_ := Aside0.mk (Kd.R_below (by (with_reducible repeat (first | apply Kd.R_alloc | apply Kd.R_drewN | apply Kd.R_drew)); exact HO_268002.out) hb)
                      have n4_ := Aside0.mk (blk_below (g := gb267) (o := .cells #[.slice (some ad269) t257.length co11, .slice (some ad270) t260.length co13, .slice (some ad276) t263.length co14] 31 (0, 0)) bk hb)
                      have n5_ := Aside0.mk (below_step bb hb)
                      clear HO_3
                      clear HO_268000
                      clear HO_268001
                      clear HO_268002
                      clear BK267
                      clear HB
                      have HO_3 := n0_
                      have HO_268000 := n1_
                      have HO_268001 := n2_
                      have HO_268002 := n3_
                      have BK267 := n4_
                      have HB := n5_
                      clear n0_ n1_ n2_ n3_ n4_ n5_
                      (try clear hb)
                      (try clear hb2)
                      (try clear hk)
                      (try clear hi)
                      refine hK.out _ _ ⟨(blk_cell BK267.out 0).trans rfl, (blk_cell BK267.out 1).trans rfl, (blk_cell BK267.out 2).trans rfl, HS3_, HS4_, HS5_, HS6_, HS7_, HS8_, HS9_⟩ (fun hHeld => ?_)
                      clear hK K
                      refine norm_ (a' := ?_) ?_ ?_
                      rotate_left
                      ·show Act.put _ (some 133) _ = _
                       simp only [Act.put, List.setIfInBounds_toArray, List.set_cons_zero, List.set_cons_succ, i64_w, i32_w]
                       rfl
                      refine pv 46 134 (bz 48 140737488355327) HT_ (h := ?_)
                      refine pv 47 135 (bz 48 281474976710655) HT_ (h := ?_)
                      refine done_ (done_of HT_.out (by kernel_rfl)) ?_
                      try go_wp2
                      go_meet
                      case rel => exact ⟨_, (!t281), (by first | rfl | (simp; done) | (simp [*]; done)), H', ⟨by have := HJ5.out; have := HK2.out; first | omega | exact Nat.le_refl _⟩, ⟨by (with_reducible repeat (first | apply Kd.R_alloc | apply Kd.R_drewN | apply Kd.R_drew)); exact HO_3.out⟩, ⟨by (with_reducible repeat (first | apply Kd.R_alloc | apply Kd.R_drewN | apply Kd.R_drew)); exact HO_268000.out⟩, ⟨by (with_reducible repeat (first | apply Kd.R_alloc | apply Kd.R_drewN | apply Kd.R_drew)); exact HO_268001.out⟩, ⟨by (with_reducible repeat (first | apply Kd.R_alloc | apply Kd.R_drewN | apply Kd.R_drew)); exact HO_268002.out⟩, ⟨by exact bk⟩, ⟨bb⟩⟩
                   ·rw [if_neg c45] at H
                    exact absurd H (by simp)
                  ·rw [if_neg c44] at H
                   exact absurd H (by simp)
               ·rw [if_neg c41] at H
                exact absurd H (by simp)
              case rest =>
               clear HC39
               try clear p2
               try clear q2
               try clear hx2
               try clear c4
               try clear p27
               try clear q27
               try clear hx27
               try clear p28
               try clear q28
               try clear hx28
               try clear c41
               try clear c43
               try clear c44
               try clear c45
               try clear c48
               try clear c48b0
               try clear hx274_0
               try clear hx275_0
               try clear hx276_0
               try clear hx277_0
               try clear hx278_0
               try clear hx279_0
               try clear hx280_0
               try clear p274
               try clear p275
               try clear p276
               try clear p277
               try clear p278
               try clear p279
               try clear p280
               try clear q274
               try clear q275
               try clear q276
               try clear q277
               try clear q278
               try clear q279
               try clear q280
               obtain ⟨kq, x135_38, rfl, HA, HJ38, HO_3, HO_268000, HO_268001, HO_268002, BK267, HB⟩ := hcut
               cases kq with
               | zero => exact absurd HA.out (by simp [laws_FnNumbers.j2])
               | succ kj38 =>
                have H := HA.out
                clear HA
                simp only [laws_FnNumbers.j2] at H
                by_cases c53 : x135_38 = true
                ·subst c53
                 have H1 : (some false) = some r := by rw [if_pos rfl] at H; exact H
                 clear H
                 have H := H1
                 exfalso; with_reducible first | exact laws_FnNumbers.no_ H hrT_ | exact laws_FnNumbers.j0_t H hrT_ | exact laws_FnNumbers.j2_t H hrT_
                ·replace c53 := Bool.eq_false_iff.mpr c53
                 subst c53
                 have H1 : (laws_FnNumbers.l1 kj38 t254 x6_2 ((rd_T50 t254 x6_2).f0) 1 t257 t260 t263) = some r := by rw [if_neg (show ¬ (false = true) by decide)] at H; exact H
                 clear H
                 have H := H1
                 clear H1
                 have H' := Aside0.mk H
                 clear H
                 go_wp2
                 go_loopg [8] kj38 (fun kq v8 w' => ∃ (x8_4 : Int), v8 = .int .i64 x8_4 ∧ Aside0 (laws_FnNumbers.l1 kq t254 x6_2 ((rd_T50 t254 x6_2).f0) x8_4 t257 t260 t263 = some r) ∧ Aside0 (kq ≤ kj38) ∧ Aside0 (Kd.R k50 50 w' w.heap.size (fun _ => True) (.slice (some ad268) t254.length co8) t254) ∧ Aside0 (Kd.R (Kd.int .i64) 3 w' w.heap.size (fun k_ => some k_ ≠ ((.slice (some ad270) t260.length co13) : Value).ownBlock ∧ some k_ ≠ ((.slice Ao14 t263.length co14) : Value).ownBlock) (.slice (some ad269) t257.length co11) t257) ∧ Aside0 (Kd.R (Kd.int .i64) 3 w' w.heap.size (fun k_ => some k_ ≠ ((.slice (some ad269) t257.length co11) : Value).ownBlock ∧ some k_ ≠ ((.slice Ao14 t263.length co14) : Value).ownBlock) (.slice (some ad270) t260.length co13) t260) ∧ Aside0 (Kd.R (Kd.int .i64) 3 w' w.heap.size (fun k_ => some k_ ≠ ((.slice (some ad269) t257.length co11) : Value).ownBlock ∧ some k_ ≠ ((.slice (some ad270) t260.length co13) : Value).ownBlock) (.slice Ao14 t263.length co14) t263) ∧ Aside0 (w'.heap[gb267]? = some (.cells #[(.slice (some ad269) t257.length co11), (.slice (some ad270) t260.length co13), (.slice Ao14 t263.length co14)] 31 (0, 0))) ∧ Aside0 (Below w.heap.size w w'))
                 case atStart => exact ⟨(1), (by first | rfl | (simp; done) | (simp [*]; done)), H', ⟨Nat.le_refl _⟩, ⟨by (with_reducible repeat (first | apply Kd.R_alloc | apply Kd.R_drewN | apply Kd.R_drew)); exact HO_3.out⟩, ⟨by (with_reducible repeat (first | apply Kd.R_alloc | apply Kd.R_drewN | apply Kd.R_drew)); exact HO_268000.out⟩, ⟨by (with_reducible repeat (first | apply Kd.R_alloc | apply Kd.R_drewN | apply Kd.R_drew)); exact HO_268001.out⟩, ⟨by (with_reducible repeat (first | apply Kd.R_alloc | apply Kd.R_drewN | apply Kd.R_drew)); exact HO_268002.out⟩, ⟨by exact bk⟩, ⟨bb⟩⟩
                 case round =>
                  clear H'
                  try clear p2
                  try clear q2
                  try clear hx2
                  try clear c4
                  try clear c5
                  try clear p27
                  try clear q27
                  try clear hx27
                  try clear p28
                  try clear q28
                  try clear hx28
                  try clear c41
                  try clear c43
                  try clear c44
                  try clear c45
                  try clear c48
                  try clear c48b0
                  try clear c53
                  try clear hx274_0
                  try clear hx275_0
                  try clear hx276_0
                  try clear hx277_0
                  try clear hx278_0
                  try clear hx279_0
                  try clear hx280_0
                  try clear p2
                  try clear p27
                  try clear p274
                  try clear p275
                  try clear p276
                  try clear p277
                  try clear p278
                  try clear p279
                  try clear p28
                  try clear p280
                  try clear q2
                  try clear q27
                  try clear q274
                  try clear q275
                  try clear q276
                  try clear q277
                  try clear q278
                  try clear q279
                  try clear q28
                  try clear q280
                  obtain ⟨x8_4, rfl, HA, HK4, HO_3, HO_268000, HO_268001, HO_268002, BK267, HB⟩ := hrel
                  cases gk with
                  | zero => exact absurd HA.out (by simp [laws_FnNumbers.l1])
                  | succ k4 =>
                   have H := HA.out
                   clear HA
                   simp only [laws_FnNumbers.l1] at H
                   by_cases c54 : x8_4 < x6_2
                   ·rw [if_pos c54] at H
                    have c54b0 : decide (x8_4 < x6_2) = true := decide_eq_true c54
                    clear c54
                    by_cases c55 : 0 ≤ x8_4
                    ·rw [if_pos c55] at H
                     have c55b0 : decide (0 ≤ x8_4) = true := decide_eq_true c55
                     clear c55
                     by_cases c56 : x8_4 < (t254.length : Int)
                     ·rw [if_pos c56] at H
                      have c56b0 : decide (x8_4 < (t254.length : Int)) = true := decide_eq_true c56
                      clear c56
                      by_cases c57 : ((rd_T50 t254 x8_4).f0) = ((rd_T50 t254 x6_2).f0)
                      ·rw [if_pos c57] at H
                       have c57b0 : (((rd_T50 t254 x8_4).f0) == ((rd_T50 t254 x6_2).f0)) = true := beq_iff_eq.mpr c57
                       have c57b1 : (((rd_T50 t254 x8_4).f0) != ((rd_T50 t254 x6_2).f0)) = false := bne_eq_false_iff_eq.mpr c57
                       clear c57
                       by_cases c58 : ((rd_T50 t254 x8_4).f2) = 0
                       ·rw [if_pos c58] at H
                        as_aux_lemma =>
                         have c58b0 : (((rd_T50 t254 x8_4).f2) == 0) = true := beq_iff_eq.mpr c58
                         have c58b1 : (((rd_T50 t254 x8_4).f2) != 0) = false := bne_eq_false_iff_eq.mpr c58
                         clear c58
                         by_cases c59 : x8_4 < (t260.length : Int)
                         ·rw [if_pos c59] at H
                          have c59b0 : decide (x8_4 < (t260.length : Int)) = true := decide_eq_true c59
                          clear c59
                          by_cases c60 : 0 ≤ x6_2
                          ·rw [if_pos c60] at H
                           have c60b0 : decide (0 ≤ x6_2) = true := decide_eq_true c60
                           clear c60
                           by_cases c61 : x6_2 < (t263.length : Int)
                           ·rw [if_pos c61] at H
                            have c61b0 : decide (x6_2 < (t263.length : Int)) = true := decide_eq_true c61
                            clear c61
                            by_cases c62 : (rd t260 x8_4) ≤ (rd t263 x6_2)
                            ·rw [if_pos c62] at H
                             have c62b0 : decide ((rd t260 x8_4) ≤ (rd t263 x6_2)) = true := decide_eq_true c62
                             clear c62
                             by_cases c63 : x6_2 < (t260.length : Int)
                             ·rw [if_pos c63] at H
                              have c63b0 : decide (x6_2 < (t260.length : Int)) = true := decide_eq_true c63
                              clear c63
                              by_cases c64 : x8_4 < (t263.length : Int)
                              ·rw [if_pos c64] at H
                               have c64b0 : decide (x8_4 < (t263.length : Int)) = true := decide_eq_true c64
                               clear c64
                               by_cases c65 : (rd t260 x6_2) ≤ (rd t263 x8_4)
                               ·rw [if_pos c65] at H
                                exfalso; with_reducible first | exact laws_FnNumbers.no_ H hrT_ | exact laws_FnNumbers.j0_t H hrT_ | exact laws_FnNumbers.j2_t H hrT_
                               ·rw [if_neg c65] at H
                                have c65b0 : decide ((rd t260 x6_2) ≤ (rd t263 x8_4)) = false := decide_eq_false c65
                                clear c65
                                have H' := Aside0.mk H
                                clear H
                                try go_wp2
                                have n0_ := Aside0.mk (Kd.R_drew HO_3.out)
                                have n1_ := Aside0.mk (Kd.R_drew HO_268000.out)
                                have n2_ := Aside0.mk (Kd.R_drew HO_268001.out)
                                have n3_ := Aside0.mk (Kd.R_drew HO_268002.out)
                                have n4_ := Aside0.mk (blk_drew BK267.out)
                                have n5_ := Aside0.mk (below_drew1 HB.out)
                                clear HO_3
                                clear HO_268000
                                clear HO_268001
                                clear HO_268002
                                clear BK267
                                clear HB
                                have HO_3 := n0_
                                have HO_268000 := n1_
                                have HO_268001 := n2_
                                have HO_268002 := n3_
                                have BK267 := n4_
                                have HB := n5_
                                clear n0_ n1_ n2_ n3_ n4_ n5_
                                have p282 : 0 ≤ (x8_4 : Int) := of_decide_eq_true (by first | (with_reducible assumption) | assumption)
                                have q282 : x8_4 < (t254.length : Int) := of_decide_eq_true (by first | (with_reducible assumption) | assumption)
                                obtain ⟨ad282, e282, hx282_0, hx282_1, hx282_2⟩ := at_T50 (Kd.R_reads' HO_3.out).2.2 x8_4 p282 q282
                                obtain rfl : ad268 = ad282 := (by injection e282)
                                replace p282 := eq_true p282
                                replace q282 := eq_true q282
                                have p283 : 0 ≤ (x8_4 : Int) := of_decide_eq_true (by first | (with_reducible assumption) | assumption)
                                have q283 : x8_4 < (t254.length : Int) := of_decide_eq_true (by first | (with_reducible assumption) | assumption)
                                obtain ⟨ad283, e283, hx283_0, hx283_1, hx283_2⟩ := at_T50 (Kd.R_reads' HO_3.out).2.2 x8_4 p283 q283
                                obtain rfl : ad268 = ad283 := (by injection e283)
                                replace p283 := eq_true p283
                                replace q283 := eq_true q283
                                have p284 : 0 ≤ (x8_4 : Int) := of_decide_eq_true (by first | (with_reducible assumption) | assumption)
                                have q284 : x8_4 < (t260.length : Int) := of_decide_eq_true (by first | (with_reducible assumption) | assumption)
                                obtain ⟨ad284, e284, hx284_0⟩ := Kd.at_int (Kd.R_reads' HO_268001.out).2.2 x8_4 p284 q284
                                obtain rfl : ad270 = ad284 := (by injection e284)
                                replace p284 := eq_true p284
                                replace q284 := eq_true q284
                                have p285 : 0 ≤ (x6_2 : Int) := of_decide_eq_true (by first | (with_reducible assumption) | assumption)
                                have q285 : x6_2 < (t263.length : Int) := of_decide_eq_true (by first | (with_reducible assumption) | assumption)
                                obtain ⟨ad285, e285, hx285_0⟩ := Kd.at_int (Kd.R_reads' HO_268002.out).2.2 x6_2 p285 q285
                                cases e285
                                replace p285 := eq_true p285
                                replace q285 := eq_true q285
                                have p286 : 0 ≤ (x6_2 : Int) := of_decide_eq_true (by first | (with_reducible assumption) | assumption)
                                have q286 : x6_2 < (t260.length : Int) := of_decide_eq_true (by first | (with_reducible assumption) | assumption)
                                obtain ⟨ad286, e286, hx286_0⟩ := Kd.at_int (Kd.R_reads' HO_268001.out).2.2 x6_2 p286 q286
                                obtain rfl : ad270 = ad286 := (by injection e286)
                                replace p286 := eq_true p286
                                replace q286 := eq_true q286
                                have p287 : 0 ≤ (x8_4 : Int) := of_decide_eq_true (by first | (with_reducible assumption) | assumption)
                                have q287 : x8_4 < (t263.length : Int) := of_decide_eq_true (by first | (with_reducible assumption) | assumption)
                                obtain ⟨ad287, e287, hx287_0⟩ := Kd.at_int (Kd.R_reads' HO_268002.out).2.2 x8_4 p287 q287
                                obtain rfl : ad285 = ad287 := (by injection e287)
                                replace p287 := eq_true p287
                                replace q287 := eq_true q287
                                refine start_ (n := 41) (S := fun w' => w'.cell? ⟨gb267, 0, none⟩ = some (.slice (some ad269) t257.length co11) ∧ w'.cell? ⟨gb267, 1, none⟩ = some (.slice (some ad270) t260.length co13) ∧ w'.cell? ⟨gb267, 2, none⟩ = some (.slice (some ad285) t263.length co14) ∧ w'.cell? (ad268.add ((x8_4).toNat * 3)) = some (.int .i64 ((rd_T50 t254 x8_4).f0)) ∧ w'.cell? ⟨(ad268.add ((x8_4).toNat * 3)).block, (ad268.add ((x8_4).toNat * 3)).off + 1, none⟩ = some (.int .i64 ((rd_T50 t254 x8_4).f1)) ∧ w'.cell? ⟨(ad268.add ((x8_4).toNat * 3)).block, (ad268.add ((x8_4).toNat * 3)).off + 2, none⟩ = some (.int .i64 ((rd_T50 t254 x8_4).f2)) ∧ w'.cell? (ad268.add ((x8_4).toNat * 3)) = some (.int .i64 ((rd_T50 t254 x8_4).f0)) ∧ w'.cell? ⟨(ad268.add ((x8_4).toNat * 3)).block, (ad268.add ((x8_4).toNat * 3)).off + 1, none⟩ = some (.int .i64 ((rd_T50 t254 x8_4).f1)) ∧ w'.cell? ⟨(ad268.add ((x8_4).toNat * 3)).block, (ad268.add ((x8_4).toNat * 3)).off + 2, none⟩ = some (.int .i64 ((rd_T50 t254 x8_4).f2)) ∧ w'.cell? (ad270.add (x8_4).toNat) = some (.int .i64 (rd t260 x8_4)) ∧ w'.cell? (ad285.add (x6_2).toNat) = some (.int .i64 (rd t263 x6_2)) ∧ w'.cell? (ad270.add (x6_2).toNat) = some (.int .i64 (rd t260 x6_2)) ∧ w'.cell? (ad285.add (x8_4).toNat) = some (.int .i64 (rd t263 x8_4))) (ds := []) (bz 41 0) (by kernel_rfl) rfl (by kernel_rfl) ⟨(blk_cell BK267.out 0).trans rfl, (blk_cell BK267.out 1).trans rfl, (blk_cell BK267.out 2).trans rfl, hx282_0, hx282_1, hx282_2, hx283_0, hx283_1, hx283_2, hx284_0, hx285_0, hx286_0, hx287_0⟩ (fun hHeld => ?_); refine with_tabW laws_FnNumbers.tab21 laws_FnNumbers.bits21 (fun HT_ HW_ => ?_)
                                generalize wr.drew = w67 at HO_3 HO_268000 HO_268001 HO_268002 BK267 HB hx282_0 hx282_1 hx282_2 hx283_0 hx283_1 hx283_2 hx284_0 hx285_0 hx286_0 hx287_0 hHeld ⊢
                                refine pv 0 141 (bz 41 1) HT_ (h := ?_)
                                refine pv 1 142 (bz 41 3) HT_ (h := ?_)
                                refine pv 2 143 (bz 41 7) HT_ (h := ?_)
                                refine pv 3 144 (bz 41 15) HT_ (h := ?_)
                                refine pv 5 146 (bz 41 47) HT_ (h := ?_)
                                refine tv13 4 145 (bz 41 63) HT_ HW_ hHeld (h := ?_)
                                refine pv 6 147 (bz 41 127) HT_ (h := ?_)
                                refine pv 7 148 (bz 41 255) HT_ (h := ?_)
                                refine pv 8 149 (bz 41 511) HT_ (h := ?_)
                                refine pv 9 150 (bz 41 1023) HT_ (h := ?_)
                                refine pv 10 151 (bz 41 2047) HT_ (h := ?_)
                                refine pv 11 152 (bz 41 4095) HT_ (h := ?_)
                                refine tv13 12 153 (bz 41 8191) HT_ HW_ hHeld (h := ?_)
                                refine pv 13 154 (bz 41 16383) HT_ (h := ?_)
                                refine pv 14 155 (bz 41 32767) HT_ (h := ?_)
                                refine pv 15 156 (bz 41 65535) HT_ (h := ?_)
                                refine pv 16 157 (bz 41 131071) HT_ (h := ?_)
                                refine pv 18 159 (bz 41 393215) HT_ (h := ?_)
                                refine pv 21 162 (bz 41 2490367) HT_ (h := ?_)
                                refine pv 23 164 (bz 41 10878975) HT_ (h := ?_)
                                refine tv13 17 158 (bz 41 11010047) HT_ HW_ hHeld (h := ?_)
                                refine pv 19 160 (bz 41 11534335) HT_ (h := ?_)
                                refine tv13 20 161 (bz 41 12582911) HT_ HW_ hHeld (h := ?_)
                                refine tv13 22 163 (bz 41 16777215) HT_ HW_ hHeld (h := ?_)
                                refine pv 24 165 (bz 41 33554431) HT_ (h := ?_)
                                refine tv13 25 166 (bz 41 67108863) HT_ HW_ hHeld (h := ?_)
                                refine pv 26 167 (bz 41 134217727) HT_ (h := ?_)
                                refine pv 27 168 (bz 41 268435455) HT_ (h := ?_)
                                refine pv 28 169 (bz 41 536870911) HT_ (h := ?_)
                                refine pv 29 170 (bz 41 1073741823) HT_ (h := ?_)
                                refine pv 31 172 (bz 41 3221225471) HT_ (h := ?_)
                                refine pv 34 175 (bz 41 20401094655) HT_ (h := ?_)
                                refine pv 36 177 (bz 41 89120571391) HT_ (h := ?_)
                                refine tv13 30 171 (bz 41 90194313215) HT_ HW_ hHeld (h := ?_)
                                refine pv 32 173 (bz 41 94489280511) HT_ (h := ?_)
                                refine tv13 33 174 (bz 41 103079215103) HT_ HW_ hHeld (h := ?_)
                                refine tv13 35 176 (bz 41 137438953471) HT_ HW_ hHeld (h := ?_)
                                refine pv 37 178 (bz 41 274877906943) HT_ (h := ?_)
                                refine tv13 38 179 (bz 41 549755813887) HT_ HW_ hHeld (h := ?_)
                                refine pv 39 180 (bz 41 1099511627775) HT_ (h := ?_)
                                refine pv 40 181 (bz 41 2199023255551) HT_ (h := ?_)
                                refine done_ (done_of HT_.out (by kernel_rfl)) ?_
                                try go_wp2
                                go_roundg k4
                                case measure => have := HJ5.out; have := HK2.out; have := HJ38.out; have := HK4.out; omega
                                case rel => exact ⟨(wrap64 (x8_4 + 1)), (by first | rfl | (simp; done) | (simp [*]; done)), H', ⟨by have := HJ5.out; have := HK2.out; have := HJ38.out; have := HK4.out; omega⟩, ⟨by (with_reducible repeat (first | apply Kd.R_alloc | apply Kd.R_drewN | apply Kd.R_drew)); exact HO_3.out⟩, ⟨by (with_reducible repeat (first | apply Kd.R_alloc | apply Kd.R_drewN | apply Kd.R_drew)); exact HO_268000.out⟩, ⟨by (with_reducible repeat (first | apply Kd.R_alloc | apply Kd.R_drewN | apply Kd.R_drew)); exact HO_268001.out⟩, ⟨by (with_reducible repeat (first | apply Kd.R_alloc | apply Kd.R_drewN | apply Kd.R_drew)); exact HO_268002.out⟩, ⟨by exact bk⟩, ⟨bb⟩⟩
                              ·rw [if_neg c64] at H
                               exact absurd H (by simp)
                             ·rw [if_neg c63] at H
                              exact absurd H (by simp)
                            ·rw [if_neg c62] at H
                             have c62b0 : decide ((rd t260 x8_4) ≤ (rd t263 x6_2)) = false := decide_eq_false c62
                             clear c62
                             have H' := Aside0.mk H
                             clear H
                             try go_wp2
                             have n0_ := Aside0.mk (Kd.R_drew HO_3.out)
                             have n1_ := Aside0.mk (Kd.R_drew HO_268000.out)
                             have n2_ := Aside0.mk (Kd.R_drew HO_268001.out)
                             have n3_ := Aside0.mk (Kd.R_drew HO_268002.out)
                             have n4_ := Aside0.mk (blk_drew BK267.out)
                             have n5_ := Aside0.mk (below_drew1 HB.out)
                             clear HO_3
                             clear HO_268000
                             clear HO_268001
                             clear HO_268002
                             clear BK267
                             clear HB
                             have HO_3 := n0_
                             have HO_268000 := n1_
                             have HO_268001 := n2_
                             have HO_268002 := n3_
                             have BK267 := n4_
                             have HB := n5_
                             clear n0_ n1_ n2_ n3_ n4_ n5_
                             have p282 : 0 ≤ (x8_4 : Int) := of_decide_eq_true (by first | (with_reducible assumption) | assumption)
                             have q282 : x8_4 < (t254.length : Int) := of_decide_eq_true (by first | (with_reducible assumption) | assumption)
                             obtain ⟨ad282, e282, hx282_0, hx282_1, hx282_2⟩ := at_T50 (Kd.R_reads' HO_3.out).2.2 x8_4 p282 q282
                             obtain rfl : ad268 = ad282 := (by injection e282)
                             replace p282 := eq_true p282
                             replace q282 := eq_true q282
                             have p283 : 0 ≤ (x8_4 : Int) := of_decide_eq_true (by first | (with_reducible assumption) | assumption)
                             have q283 : x8_4 < (t254.length : Int) := of_decide_eq_true (by first | (with_reducible assumption) | assumption)
                             obtain ⟨ad283, e283, hx283_0, hx283_1, hx283_2⟩ := at_T50 (Kd.R_reads' HO_3.out).2.2 x8_4 p283 q283
                             obtain rfl : ad268 = ad283 := (by injection e283)
                             replace p283 := eq_true p283
                             replace q283 := eq_true q283
                             have p284 : 0 ≤ (x8_4 : Int) := of_decide_eq_true (by first | (with_reducible assumption) | assumption)
                             have q284 : x8_4 < (t260.length : Int) := of_decide_eq_true (by first | (with_reducible assumption) | assumption)
                             obtain ⟨ad284, e284, hx284_0⟩ := Kd.at_int (Kd.R_reads' HO_268001.out).2.2 x8_4 p284 q284
                             obtain rfl : ad270 = ad284 := (by injection e284)
                             replace p284 := eq_true p284
                             replace q284 := eq_true q284
                             have p285 : 0 ≤ (x6_2 : Int) := of_decide_eq_true (by first | (with_reducible assumption) | assumption)
                             have q285 : x6_2 < (t263.length : Int) := of_decide_eq_true (by first | (with_reducible assumption) | assumption)
                             obtain ⟨ad285, e285, hx285_0⟩ := Kd.at_int (Kd.R_reads' HO_268002.out).2.2 x6_2 p285 q285
                             cases e285
                             replace p285 := eq_true p285
                             replace q285 := eq_true q285
                             refine start_ (n := 41) (S := fun w' => w'.cell? ⟨gb267, 0, none⟩ = some (.slice (some ad269) t257.length co11) ∧ w'.cell? ⟨gb267, 1, none⟩ = some (.slice (some ad270) t260.length co13) ∧ w'.cell? ⟨gb267, 2, none⟩ = some (.slice (some ad285) t263.length co14) ∧ w'.cell? (ad268.add ((x8_4).toNat * 3)) = some (.int .i64 ((rd_T50 t254 x8_4).f0)) ∧ w'.cell? ⟨(ad268.add ((x8_4).toNat * 3)).block, (ad268.add ((x8_4).toNat * 3)).off + 1, none⟩ = some (.int .i64 ((rd_T50 t254 x8_4).f1)) ∧ w'.cell? ⟨(ad268.add ((x8_4).toNat * 3)).block, (ad268.add ((x8_4).toNat * 3)).off + 2, none⟩ = some (.int .i64 ((rd_T50 t254 x8_4).f2)) ∧ w'.cell? (ad268.add ((x8_4).toNat * 3)) = some (.int .i64 ((rd_T50 t254 x8_4).f0)) ∧ w'.cell? ⟨(ad268.add ((x8_4).toNat * 3)).block, (ad268.add ((x8_4).toNat * 3)).off + 1, none⟩ = some (.int .i64 ((rd_T50 t254 x8_4).f1)) ∧ w'.cell? ⟨(ad268.add ((x8_4).toNat * 3)).block, (ad268.add ((x8_4).toNat * 3)).off + 2, none⟩ = some (.int .i64 ((rd_T50 t254 x8_4).f2)) ∧ w'.cell? (ad270.add (x8_4).toNat) = some (.int .i64 (rd t260 x8_4)) ∧ w'.cell? (ad285.add (x6_2).toNat) = some (.int .i64 (rd t263 x6_2))) (ds := []) (bz 41 0) (by kernel_rfl) rfl (by kernel_rfl) ⟨(blk_cell BK267.out 0).trans rfl, (blk_cell BK267.out 1).trans rfl, (blk_cell BK267.out 2).trans rfl, hx282_0, hx282_1, hx282_2, hx283_0, hx283_1, hx283_2, hx284_0, hx285_0⟩ (fun hHeld => ?_); refine with_tabW laws_FnNumbers.tab21 laws_FnNumbers.bits21 (fun HT_ HW_ => ?_)
                             generalize wr.drew = w68 at HO_3 HO_268000 HO_268001 HO_268002 BK267 HB hx282_0 hx282_1 hx282_2 hx283_0 hx283_1 hx283_2 hx284_0 hx285_0 hHeld ⊢
                             refine pv 0 141 (bz 41 1) HT_ (h := ?_)
                             refine pv 1 142 (bz 41 3) HT_ (h := ?_)
                             refine pv 2 143 (bz 41 7) HT_ (h := ?_)
                             refine pv 3 144 (bz 41 15) HT_ (h := ?_)
                             refine pv 5 146 (bz 41 47) HT_ (h := ?_)
                             refine tv11 4 145 (bz 41 63) HT_ HW_ hHeld (h := ?_)
                             refine pv 6 147 (bz 41 127) HT_ (h := ?_)
                             refine pv 7 148 (bz 41 255) HT_ (h := ?_)
                             refine pv 8 149 (bz 41 511) HT_ (h := ?_)
                             refine pv 9 150 (bz 41 1023) HT_ (h := ?_)
                             refine pv 10 151 (bz 41 2047) HT_ (h := ?_)
                             refine pv 11 152 (bz 41 4095) HT_ (h := ?_)
                             refine tv11 12 153 (bz 41 8191) HT_ HW_ hHeld (h := ?_)
                             refine pv 13 154 (bz 41 16383) HT_ (h := ?_)
                             refine pv 14 155 (bz 41 32767) HT_ (h := ?_)
                             refine pv 15 156 (bz 41 65535) HT_ (h := ?_)
                             refine pv 16 157 (bz 41 131071) HT_ (h := ?_)
                             refine pv 18 159 (bz 41 393215) HT_ (h := ?_)
                             refine pv 21 162 (bz 41 2490367) HT_ (h := ?_)
                             refine pv 23 164 (bz 41 10878975) HT_ (h := ?_)
                             refine tv11 17 158 (bz 41 11010047) HT_ HW_ hHeld (h := ?_)
                             refine pv 19 160 (bz 41 11534335) HT_ (h := ?_)
                             refine tv11 20 161 (bz 41 12582911) HT_ HW_ hHeld (h := ?_)
                             refine tv11 22 163 (bz 41 16777215) HT_ HW_ hHeld (h := ?_)
                             refine pv 24 165 (bz 41 33554431) HT_ (h := ?_)
                             refine tv11 25 166 (bz 41 67108863) HT_ HW_ hHeld (h := ?_)
                             refine pv 26 167 (bz 41 134217727) HT_ (h := ?_)
                             refine pv 27 168 (bz 41 268435455) HT_ (h := ?_)
                             refine pv 28 169 (bz 41 536870911) HT_ (h := ?_)
                             refine pu 29 170 (bz 41 1073741823) HT_ (h := ?_)
                             refine pu 30 171 (bz 41 2147483647) HT_ (h := ?_)
                             refine pu 31 172 (bz 41 4294967295) HT_ (h := ?_)
                             refine pu 32 173 (bz 41 8589934591) HT_ (h := ?_)
                             refine pu 33 174 (bz 41 17179869183) HT_ (h := ?_)
                             refine pu 34 175 (bz 41 34359738367) HT_ (h := ?_)
                             refine pu 35 176 (bz 41 68719476735) HT_ (h := ?_)
                             refine pu 36 177 (bz 41 137438953471) HT_ (h := ?_)
                             refine pu 37 178 (bz 41 274877906943) HT_ (h := ?_)
                             refine pu 38 179 (bz 41 549755813887) HT_ (h := ?_)
                             refine pu 39 180 (bz 41 1099511627775) HT_ (h := ?_)
                             refine pv 40 181 (bz 41 2199023255551) HT_ (h := ?_)
                             refine done_ (done_of HT_.out (by kernel_rfl)) ?_
                             try go_wp2
                             go_roundg k4
                             case measure => have := HJ5.out; have := HK2.out; have := HJ38.out; have := HK4.out; omega
                             case rel => exact ⟨(wrap64 (x8_4 + 1)), (by first | rfl | (simp; done) | (simp [*]; done)), H', ⟨by have := HJ5.out; have := HK2.out; have := HJ38.out; have := HK4.out; omega⟩, ⟨by (with_reducible repeat (first | apply Kd.R_alloc | apply Kd.R_drewN | apply Kd.R_drew)); exact HO_3.out⟩, ⟨by (with_reducible repeat (first | apply Kd.R_alloc | apply Kd.R_drewN | apply Kd.R_drew)); exact HO_268000.out⟩, ⟨by (with_reducible repeat (first | apply Kd.R_alloc | apply Kd.R_drewN | apply Kd.R_drew)); exact HO_268001.out⟩, ⟨by (with_reducible repeat (first | apply Kd.R_alloc | apply Kd.R_drewN | apply Kd.R_drew)); exact HO_268002.out⟩, ⟨by exact bk⟩, ⟨bb⟩⟩
                           ·rw [if_neg c61] at H
                            exact absurd H (by simp)
                          ·rw [if_neg c60] at H
                           exact absurd H (by simp)
                         ·rw [if_neg c59] at H
                          exact absurd H (by simp)
                       ·rw [if_neg c58] at H
                        have c58b0 : (((rd_T50 t254 x8_4).f2) == 0) = false := beq_eq_false_iff_ne.mpr c58
                        have c58b1 : (((rd_T50 t254 x8_4).f2) != 0) = true := bne_iff_ne.mpr c58
                        have H' := Aside0.mk H
                        clear H
                        try go_wp2
                        have n0_ := Aside0.mk (Kd.R_drew HO_3.out)
                        have n1_ := Aside0.mk (Kd.R_drew HO_268000.out)
                        have n2_ := Aside0.mk (Kd.R_drew HO_268001.out)
                        have n3_ := Aside0.mk (Kd.R_drew HO_268002.out)
                        have n4_ := Aside0.mk (blk_drew BK267.out)
                        have n5_ := Aside0.mk (below_drew1 HB.out)
                        clear HO_3
                        clear HO_268000
                        clear HO_268001
                        clear HO_268002
                        clear BK267
                        clear HB
                        have HO_3 := n0_
                        have HO_268000 := n1_
                        have HO_268001 := n2_
                        have HO_268002 := n3_
                        have BK267 := n4_
                        have HB := n5_
                        clear n0_ n1_ n2_ n3_ n4_ n5_
                        have p282 : 0 ≤ (x8_4 : Int) := of_decide_eq_true (by first | (with_reducible assumption) | assumption)
                        have q282 : x8_4 < (t254.length : Int) := of_decide_eq_true (by first | (with_reducible assumption) | assumption)
                        obtain ⟨ad282, e282, hx282_0, hx282_1, hx282_2⟩ := at_T50 (Kd.R_reads' HO_3.out).2.2 x8_4 p282 q282
                        obtain rfl : ad268 = ad282 := (by injection e282)
                        replace p282 := eq_true p282
                        replace q282 := eq_true q282
                        have p283 : 0 ≤ (x8_4 : Int) := of_decide_eq_true (by first | (with_reducible assumption) | assumption)
                        have q283 : x8_4 < (t254.length : Int) := of_decide_eq_true (by first | (with_reducible assumption) | assumption)
                        obtain ⟨ad283, e283, hx283_0, hx283_1, hx283_2⟩ := at_T50 (Kd.R_reads' HO_3.out).2.2 x8_4 p283 q283
                        obtain rfl : ad268 = ad283 := (by injection e283)
                        replace p283 := eq_true p283
                        replace q283 := eq_true q283
                        refine start_ (n := 41) (S := fun w' => w'.cell? (ad268.add ((x8_4).toNat * 3)) = some (.int .i64 ((rd_T50 t254 x8_4).f0)) ∧ w'.cell? ⟨(ad268.add ((x8_4).toNat * 3)).block, (ad268.add ((x8_4).toNat * 3)).off + 1, none⟩ = some (.int .i64 ((rd_T50 t254 x8_4).f1)) ∧ w'.cell? ⟨(ad268.add ((x8_4).toNat * 3)).block, (ad268.add ((x8_4).toNat * 3)).off + 2, none⟩ = some (.int .i64 ((rd_T50 t254 x8_4).f2)) ∧ w'.cell? (ad268.add ((x8_4).toNat * 3)) = some (.int .i64 ((rd_T50 t254 x8_4).f0)) ∧ w'.cell? ⟨(ad268.add ((x8_4).toNat * 3)).block, (ad268.add ((x8_4).toNat * 3)).off + 1, none⟩ = some (.int .i64 ((rd_T50 t254 x8_4).f1)) ∧ w'.cell? ⟨(ad268.add ((x8_4).toNat * 3)).block, (ad268.add ((x8_4).toNat * 3)).off + 2, none⟩ = some (.int .i64 ((rd_T50 t254 x8_4).f2))) (ds := []) (bz 41 0) (by kernel_rfl) rfl (by kernel_rfl) ⟨hx282_0, hx282_1, hx282_2, hx283_0, hx283_1, hx283_2⟩ (fun hHeld => ?_); refine with_tabW laws_FnNumbers.tab21 laws_FnNumbers.bits21 (fun HT_ HW_ => ?_)
                        generalize wr.drew = w69 at HO_3 HO_268000 HO_268001 HO_268002 BK267 HB hx282_0 hx282_1 hx282_2 hx283_0 hx283_1 hx283_2 hHeld ⊢
                        refine pv 0 141 (bz 41 1) HT_ (h := ?_)
                        refine pv 1 142 (bz 41 3) HT_ (h := ?_)
                        refine pv 2 143 (bz 41 7) HT_ (h := ?_)
                        refine pv 3 144 (bz 41 15) HT_ (h := ?_)
                        refine pv 5 146 (bz 41 47) HT_ (h := ?_)
                        refine tv6 4 145 (bz 41 63) HT_ HW_ hHeld (h := ?_)
                        refine pv 6 147 (bz 41 127) HT_ (h := ?_)
                        refine pv 7 148 (bz 41 255) HT_ (h := ?_)
                        refine pv 8 149 (bz 41 511) HT_ (h := ?_)
                        refine pv 9 150 (bz 41 1023) HT_ (h := ?_)
                        refine pv 10 151 (bz 41 2047) HT_ (h := ?_)
                        refine pv 11 152 (bz 41 4095) HT_ (h := ?_)
                        refine tv6 12 153 (bz 41 8191) HT_ HW_ hHeld (h := ?_)
                        refine pv 13 154 (bz 41 16383) HT_ (h := ?_)
                        refine pv 14 155 (bz 41 32767) HT_ (h := ?_)
                        refine pv 15 156 (bz 41 65535) HT_ (h := ?_)
                        refine pu 16 157 (bz 41 131071) HT_ (h := ?_)
                        refine pu 17 158 (bz 41 262143) HT_ (h := ?_)
                        refine pu 18 159 (bz 41 524287) HT_ (h := ?_)
                        refine pu 19 160 (bz 41 1048575) HT_ (h := ?_)
                        refine pu 20 161 (bz 41 2097151) HT_ (h := ?_)
                        refine pu 21 162 (bz 41 4194303) HT_ (h := ?_)
                        refine pu 22 163 (bz 41 8388607) HT_ (h := ?_)
                        refine pu 23 164 (bz 41 16777215) HT_ (h := ?_)
                        refine pu 24 165 (bz 41 33554431) HT_ (h := ?_)
                        refine pu 25 166 (bz 41 67108863) HT_ (h := ?_)
                        refine pu 26 167 (bz 41 134217727) HT_ (h := ?_)
                        refine pv 27 168 (bz 41 268435455) HT_ (h := ?_)
                        refine pv 28 169 (bz 41 536870911) HT_ (h := ?_)
                        refine pu 29 170 (bz 41 1073741823) HT_ (h := ?_)
                        refine pu 30 171 (bz 41 2147483647) HT_ (h := ?_)
                        refine pu 31 172 (bz 41 4294967295) HT_ (h := ?_)
                        refine pu 32 173 (bz 41 8589934591) HT_ (h := ?_)
                        refine pu 33 174 (bz 41 17179869183) HT_ (h := ?_)
                        refine pu 34 175 (bz 41 34359738367) HT_ (h := ?_)
                        refine pu 35 176 (bz 41 68719476735) HT_ (h := ?_)
                        refine pu 36 177 (bz 41 137438953471) HT_ (h := ?_)
                        refine pu 37 178 (bz 41 274877906943) HT_ (h := ?_)
                        refine pu 38 179 (bz 41 549755813887) HT_ (h := ?_)
                        refine pu 39 180 (bz 41 1099511627775) HT_ (h := ?_)
                        refine pv 40 181 (bz 41 2199023255551) HT_ (h := ?_)
                        refine done_ (done_of HT_.out (by kernel_rfl)) ?_
                        try go_wp2
                        go_roundg k4
                        case measure => have := HJ5.out; have := HK2.out; have := HJ38.out; have := HK4.out; omega
                        case rel => exact ⟨(wrap64 (x8_4 + 1)), (by first | rfl | (simp; done) | (simp [*]; done)), H', ⟨by have := HJ5.out; have := HK2.out; have := HJ38.out; have := HK4.out; omega⟩, ⟨by (with_reducible repeat (first | apply Kd.R_alloc | apply Kd.R_drewN | apply Kd.R_drew)); exact HO_3.out⟩, ⟨by (with_reducible repeat (first | apply Kd.R_alloc | apply Kd.R_drewN | apply Kd.R_drew)); exact HO_268000.out⟩, ⟨by (with_reducible repeat (first | apply Kd.R_alloc | apply Kd.R_drewN | apply Kd.R_drew)); exact HO_268001.out⟩, ⟨by (with_reducible repeat (first | apply Kd.R_alloc | apply Kd.R_drewN | apply Kd.R_drew)); exact HO_268002.out⟩, ⟨by exact bk⟩, ⟨bb⟩⟩
                      ·rw [if_neg c57] at H
                       have c57b0 : (((rd_T50 t254 x8_4).f0) == ((rd_T50 t254 x6_2).f0)) = false := beq_eq_false_iff_ne.mpr c57
                       have c57b1 : (((rd_T50 t254 x8_4).f0) != ((rd_T50 t254 x6_2).f0)) = true := bne_iff_ne.mpr c57
                       have H' := Aside0.mk H
                       clear H
                       try go_wp2
                       have n0_ := Aside0.mk (Kd.R_drew HO_3.out)
                       have n1_ := Aside0.mk (Kd.R_drew HO_268000.out)
                       have n2_ := Aside0.mk (Kd.R_drew HO_268001.out)
                       have n3_ := Aside0.mk (Kd.R_drew HO_268002.out)
                       have n4_ := Aside0.mk (blk_drew BK267.out)
                       have n5_ := Aside0.mk (below_drew1 HB.out)
                       clear HO_3
                       clear HO_268000
                       clear HO_268001
                       clear HO_268002
                       clear BK267
                       clear HB
                       have HO_3 := n0_
                       have HO_268000 := n1_
                       have HO_268001 := n2_
                       have HO_268002 := n3_
                       have BK267 := n4_
                       have HB := n5_
                       clear n0_ n1_ n2_ n3_ n4_ n5_
                       have p282 : 0 ≤ (x8_4 : Int) := of_decide_eq_true (by first | (with_reducible assumption) | assumption)
                       have q282 : x8_4 < (t254.length : Int) := of_decide_eq_true (by first | (with_reducible assumption) | assumption)
                       obtain ⟨ad282, e282, hx282_0, hx282_1, hx282_2⟩ := at_T50 (Kd.R_reads' HO_3.out).2.2 x8_4 p282 q282
                       obtain rfl : ad268 = ad282 := (by injection e282)
                       replace p282 := eq_true p282
                       replace q282 := eq_true q282
                       refine start_ (n := 41) (S := fun w' => w'.cell? (ad268.add ((x8_4).toNat * 3)) = some (.int .i64 ((rd_T50 t254 x8_4).f0)) ∧ w'.cell? ⟨(ad268.add ((x8_4).toNat * 3)).block, (ad268.add ((x8_4).toNat * 3)).off + 1, none⟩ = some (.int .i64 ((rd_T50 t254 x8_4).f1)) ∧ w'.cell? ⟨(ad268.add ((x8_4).toNat * 3)).block, (ad268.add ((x8_4).toNat * 3)).off + 2, none⟩ = some (.int .i64 ((rd_T50 t254 x8_4).f2))) (ds := []) (bz 41 0) (by kernel_rfl) rfl (by kernel_rfl) ⟨hx282_0, hx282_1, hx282_2⟩ (fun hHeld => ?_); refine with_tabW laws_FnNumbers.tab21 laws_FnNumbers.bits21 (fun HT_ HW_ => ?_)
                       generalize wr.drew = w70 at HO_3 HO_268000 HO_268001 HO_268002 BK267 HB hx282_0 hx282_1 hx282_2 hHeld ⊢
                       refine pv 0 141 (bz 41 1) HT_ (h := ?_)
                       refine pv 1 142 (bz 41 3) HT_ (h := ?_)
                       refine pv 2 143 (bz 41 7) HT_ (h := ?_)
                       refine pv 3 144 (bz 41 15) HT_ (h := ?_)
                       refine pv 5 146 (bz 41 47) HT_ (h := ?_)
                       refine tv3 4 145 (bz 41 63) HT_ HW_ hHeld (h := ?_)
                       refine pv 6 147 (bz 41 127) HT_ (h := ?_)
                       refine pv 7 148 (bz 41 255) HT_ (h := ?_)
                       refine pu 8 149 (bz 41 511) HT_ (h := ?_)
                       refine pu 9 150 (bz 41 1023) HT_ (h := ?_)
                       refine pu 10 151 (bz 41 2047) HT_ (h := ?_)
                       refine pu 11 152 (bz 41 4095) HT_ (h := ?_)
                       refine pu 12 153 (bz 41 8191) HT_ (h := ?_)
                       refine pu 13 154 (bz 41 16383) HT_ (h := ?_)
                       refine pv 14 155 (bz 41 32767) HT_ (h := ?_)
                       refine pv 15 156 (bz 41 65535) HT_ (h := ?_)
                       refine pu 16 157 (bz 41 131071) HT_ (h := ?_)
                       refine pu 17 158 (bz 41 262143) HT_ (h := ?_)
                       refine pu 18 159 (bz 41 524287) HT_ (h := ?_)
                       refine pu 19 160 (bz 41 1048575) HT_ (h := ?_)
                       refine pu 20 161 (bz 41 2097151) HT_ (h := ?_)
                       refine pu 21 162 (bz 41 4194303) HT_ (h := ?_)
                       refine pu 22 163 (bz 41 8388607) HT_ (h := ?_)
                       refine pu 23 164 (bz 41 16777215) HT_ (h := ?_)
                       refine pu 24 165 (bz 41 33554431) HT_ (h := ?_)
                       refine pu 25 166 (bz 41 67108863) HT_ (h := ?_)
                       refine pu 26 167 (bz 41 134217727) HT_ (h := ?_)
                       refine pv 27 168 (bz 41 268435455) HT_ (h := ?_)
                       refine pv 28 169 (bz 41 536870911) HT_ (h := ?_)
                       refine pu 29 170 (bz 41 1073741823) HT_ (h := ?_)
                       refine pu 30 171 (bz 41 2147483647) HT_ (h := ?_)
                       refine pu 31 172 (bz 41 4294967295) HT_ (h := ?_)
                       refine pu 32 173 (bz 41 8589934591) HT_ (h := ?_)
                       refine pu 33 174 (bz 41 17179869183) HT_ (h := ?_)
                       refine pu 34 175 (bz 41 34359738367) HT_ (h := ?_)
                       refine pu 35 176 (bz 41 68719476735) HT_ (h := ?_)
                       refine pu 36 177 (bz 41 137438953471) HT_ (h := ?_)
                       refine pu 37 178 (bz 41 274877906943) HT_ (h := ?_)
                       refine pu 38 179 (bz 41 549755813887) HT_ (h := ?_)
                       refine pu 39 180 (bz 41 1099511627775) HT_ (h := ?_)
                       refine pv 40 181 (bz 41 2199023255551) HT_ (h := ?_)
                       refine done_ (done_of HT_.out (by kernel_rfl)) ?_
                       try go_wp2
                       go_roundg k4
                       case measure => have := HJ5.out; have := HK2.out; have := HJ38.out; have := HK4.out; omega
                       case rel => exact ⟨(wrap64 (x8_4 + 1)), (by first | rfl | (simp; done) | (simp [*]; done)), H', ⟨by have := HJ5.out; have := HK2.out; have := HJ38.out; have := HK4.out; omega⟩, ⟨by (with_reducible repeat (first | apply Kd.R_alloc | apply Kd.R_drewN | apply Kd.R_drew)); exact HO_3.out⟩, ⟨by (with_reducible repeat (first | apply Kd.R_alloc | apply Kd.R_drewN | apply Kd.R_drew)); exact HO_268000.out⟩, ⟨by (with_reducible repeat (first | apply Kd.R_alloc | apply Kd.R_drewN | apply Kd.R_drew)); exact HO_268001.out⟩, ⟨by (with_reducible repeat (first | apply Kd.R_alloc | apply Kd.R_drewN | apply Kd.R_drew)); exact HO_268002.out⟩, ⟨by exact bk⟩, ⟨bb⟩⟩
                     ·rw [if_neg c56] at H
                      exact absurd H (by simp)
                    ·rw [if_neg c55] at H
                     exact absurd H (by simp)
                   ·rw [if_neg c54] at H
                    have c54b0 : decide (x8_4 < x6_2) = false := decide_eq_false c54
                    clear c54
                    have H' := Aside0.mk H
                    clear H
                    go_wp2
                    go_roundg k4
                    case measure => have := HJ5.out; have := HK2.out; have := HJ38.out; have := HK4.out; omega
                    case rel => exact ⟨(wrap64 (x6_2 + 1)), (by first | rfl | (simp; done) | (simp [*]; done)), H', ⟨by have := HJ5.out; have := HK2.out; have := HJ38.out; have := HK4.out; omega⟩, ⟨by (with_reducible repeat (first | apply Kd.R_alloc | apply Kd.R_drewN | apply Kd.R_drew)); exact HO_3.out⟩, ⟨by (with_reducible repeat (first | apply Kd.R_alloc | apply Kd.R_drewN | apply Kd.R_drew)); exact HO_268000.out⟩, ⟨by (with_reducible repeat (first | apply Kd.R_alloc | apply Kd.R_drewN | apply Kd.R_drew)); exact HO_268001.out⟩, ⟨by (with_reducible repeat (first | apply Kd.R_alloc | apply Kd.R_drewN | apply Kd.R_drew)); exact HO_268002.out⟩, ⟨by exact bk⟩, ⟨bb⟩⟩
            ·rw [if_neg c27] at H
             exfalso; with_reducible first | exact laws_FnNumbers.no_ H hrT_ | exact laws_FnNumbers.j0_t H hrT_ | exact laws_FnNumbers.j2_t H hrT_
           ·rw [if_neg c26] at H
            exact absurd H (by simp)
          ·rw [if_neg c25] at H
           exact absurd H (by simp)
         ·rw [if_neg c24] at H
          exact absurd H (by simp)
        ·rw [if_neg c23] at H
         exact absurd H (by simp)
       ·rw [if_neg c22] at H
        as_aux_lemma =>
         have c22b0 : decide (x6_2 < (t254.length : Int)) = false := decide_eq_false c22
         clear c22
         have H' := Aside0.mk H
         clear H
         go_wp2
         go_loopg [9, 10] k2 (fun kq v9 v10 w' => ∃ (x9_3 : Int) (x10_3 : Int), v9 = .int .i64 x9_3 ∧ v10 = .int .i64 x10_3 ∧ Aside0 (laws_FnNumbers.l2 kq t254 x9_3 x10_3 t257 t260 t263 = some r) ∧ Aside0 (kq ≤ k2) ∧ Aside0 (Kd.R k50 50 w' w.heap.size (fun _ => True) (.slice Ao8 t254.length co8) t254) ∧ Aside0 (Kd.R (Kd.int .i64) 3 w' w.heap.size (fun k_ => some k_ ≠ ((.slice Ao13 t260.length co13) : Value).ownBlock ∧ some k_ ≠ ((.slice Ao14 t263.length co14) : Value).ownBlock) (.slice Ao11 t257.length co11) t257) ∧ Aside0 (Kd.R (Kd.int .i64) 3 w' w.heap.size (fun k_ => some k_ ≠ ((.slice Ao11 t257.length co11) : Value).ownBlock ∧ some k_ ≠ ((.slice Ao14 t263.length co14) : Value).ownBlock) (.slice Ao13 t260.length co13) t260) ∧ Aside0 (Kd.R (Kd.int .i64) 3 w' w.heap.size (fun k_ => some k_ ≠ ((.slice Ao11 t257.length co11) : Value).ownBlock ∧ some k_ ≠ ((.slice Ao13 t260.length co13) : Value).ownBlock) (.slice Ao14 t263.length co14) t263) ∧ Aside0 (w'.heap[gb267]? = some (.cells #[(.slice Ao11 t257.length co11), (.slice Ao13 t260.length co13), (.slice Ao14 t263.length co14)] 31 (0, 0))) ∧ Aside0 (Below w.heap.size w w'))
         case atStart => exact ⟨(0), (0), (by first | rfl | (simp; done) | (simp [*]; done)), (by first | rfl | (simp; done) | (simp [*]; done)), H', ⟨Nat.le_refl _⟩, ⟨by (with_reducible repeat (first | apply Kd.R_alloc | apply Kd.R_drewN | apply Kd.R_drew)); exact HO_3.out⟩, ⟨by (with_reducible repeat (first | apply Kd.R_alloc | apply Kd.R_drewN | apply Kd.R_drew)); exact HO_268000.out⟩, ⟨by (with_reducible repeat (first | apply Kd.R_alloc | apply Kd.R_drewN | apply Kd.R_drew)); exact HO_268001.out⟩, ⟨by (with_reducible repeat (first | apply Kd.R_alloc | apply Kd.R_drewN | apply Kd.R_drew)); exact HO_268002.out⟩, ⟨by exact bk⟩, ⟨bb⟩⟩
         case round =>
          clear H'
          try clear c2
          try clear p2
          try clear q2
          try clear hx2
          try clear c5
          try clear p6
          try clear c22
          try clear c22b0
          try clear c23
          try clear c24
          try clear c25
          try clear c26
          try clear p26
          try clear q26
          try clear hx26
          try clear c27
          try clear c27b0
          try clear c27b1
          try clear p27
          try clear q27
          try clear hx27
          try clear p28
          try clear q28
          try clear hx28
          try clear c54
          try clear c54b0
          try clear c55
          try clear c56
          try clear c57
          try clear c57b0
          try clear c57b1
          try clear p64
          try clear hx268_0
          try clear hx268_1
          try clear hx268_2
          try clear hx269_0
          try clear hx270_0
          try clear hx282_0
          try clear hx282_1
          try clear hx282_2
          try clear p268
          try clear p269
          try clear p270
          try clear p282
          try clear q268
          try clear q269
          try clear q270
          try clear q282
          obtain ⟨x9_3, x10_3, rfl, rfl, HA, HK3, HO_3, HO_268000, HO_268001, HO_268002, BK267, HB⟩ := hrel
          cases gk with
          | zero => exact absurd HA.out (by simp [laws_FnNumbers.l2])
          | succ k3 =>
           have H := HA.out
           clear HA
           simp only [laws_FnNumbers.l2] at H
           by_cases c72 : x10_3 < (t254.length : Int)
           ·rw [if_pos c72] at H
            have c72b0 : decide (x10_3 < (t254.length : Int)) = true := decide_eq_true c72
            clear c72
            by_cases c73 : 0 ≤ x10_3
            ·rw [if_pos c73] at H
             have c73b0 : decide (0 ≤ x10_3) = true := decide_eq_true c73
             clear c73
             replace H := Option.bind_eq_some_iff.mp H
             obtain ⟨t289, A740, H⟩ := H
             replace H : (laws_FnNumbers.l2 k3 t254 (wrap64 (x9_3 + t289)) (wrap64 (x10_3 + 1)) t257 t260 t263) = some r := H
             have A74 := Aside0.mk A740
             clear A740
             have H' := Aside0.mk H
             clear H
             have p288 : 0 ≤ (x10_3 : Int) := of_decide_eq_true (by first | (with_reducible assumption) | assumption)
             have q288 : x10_3 < (t254.length : Int) := of_decide_eq_true (by first | (with_reducible assumption) | assumption)
             obtain ⟨ad288, e288, hx288_0, hx288_1, hx288_2⟩ := at_T50 (Kd.R_reads' HO_3.out).2.2 x10_3 p288 q288
             cases e288
             replace p288 := eq_true p288
             replace q288 := eq_true q288
             go_wp2_with (first | ((with_reducible refine gate_callee (f := 44) rfl ?_); refine goesL_ (some 195) rfl rfl Try.func44 (by kernel_rfl) rfl #[.bool (((rd_T50 t254 x10_3).f2) == 0)] rfl (by (try simp only [List.map_toArray, List.map_cons, List.map_nil]); first | done | rfl | (simp only [List.length_drop, List.length_take]; rfl)) ?_; (with_reducible refine (laws_btoi.calls (((rd_T50 t254 x10_3).f2) == 0) t289 _ A74.out).mono ?_); rintro e w' ⟨rfl, ⟨nd, rfl⟩⟩; refine ⟨_, rfl, ?_⟩))
             go_roundg k3
             case measure => have := HJ5.out; have := HK2.out; have := HK3.out; omega
             case rel => exact ⟨(wrap64 (x9_3 + t289)), (wrap64 (x10_3 + 1)), (by first | rfl | (simp; done) | (simp [*]; done)), (by first | rfl | (simp; done) | (simp [*]; done)), H', ⟨by have := HJ5.out; have := HK2.out; have := HK3.out; omega⟩, ⟨by (with_reducible repeat (first | apply Kd.R_alloc | apply Kd.R_drewN | apply Kd.R_drew)); exact HO_3.out⟩, ⟨by (with_reducible repeat (first | apply Kd.R_alloc | apply Kd.R_drewN | apply Kd.R_drew)); exact HO_268000.out⟩, ⟨by (with_reducible repeat (first | apply Kd.R_alloc | apply Kd.R_drewN | apply Kd.R_drew)); exact HO_268001.out⟩, ⟨by (with_reducible repeat (first | apply Kd.R_alloc | apply Kd.R_drewN | apply Kd.R_drew)); exact HO_268002.out⟩, ⟨by exact bk⟩, ⟨bb⟩⟩
            ·rw [if_neg c73] at H
             exact absurd H (by simp)
           ·rw [if_neg c72] at H
            have c72b0 : decide (x10_3 < (t254.length : Int)) = false := decide_eq_false c72
            clear c72
            by_cases c75 : 0 < (t260.length : Int)
            ·rw [if_pos c75] at H
             have c75b0 : decide (0 < (t260.length : Int)) = true := decide_eq_true c75
             have c75b1 : decide (0 < t260.length) = true := decide_eq_true (by omega)
             clear c75
             by_cases c76 : (rd t260 0) = 0
             ·rw [if_pos c76] at H
              have c76b0 : ((rd t260 0) == 0) = true := beq_iff_eq.mpr c76
              have c76b1 : ((rd t260 0) != 0) = false := bne_eq_false_iff_eq.mpr c76
              clear c76
              by_cases c77 : 0 < (t263.length : Int)
              ·rw [if_pos c77] at H
               have c77b0 : decide (0 < (t263.length : Int)) = true := decide_eq_true c77
               have c77b1 : decide (0 < t263.length) = true := decide_eq_true (by omega)
               clear c77
               obtain rfl := Option.some.inj H
               obtain ⟨hcz78_0, hcz78_1, hcz78_2, hfz78_0, hfz78_1, hfz78_2⟩ := bx3 BK267.out
               have p290 : 0 ≤ (0 : Int) := (by omega)
               have q290 : 0 < (t260.length : Int) := of_decide_eq_true (by first | (with_reducible assumption) | assumption)
               obtain ⟨ad290, e290, hx290_0⟩ := Kd.at_int (Kd.R_reads' HO_268001.out).2.2 0 p290 q290
               cases e290
               have qi290 : (0 < t260.length) = True := eq_true (by omega)
               (try rw [show ((0 : Int)).toNat = 0 from rfl] at hx290_0)
               (try rw [Addr.add_zero'] at hx290_0)
               replace p290 := eq_true p290
               replace q290 := eq_true q290
               have p291 : 0 ≤ (0 : Int) := (by omega)
               have q291 : 0 < (t263.length : Int) := of_decide_eq_true (by first | (with_reducible assumption) | assumption)
               obtain ⟨ad291, e291, hx291_0⟩ := Kd.at_int (Kd.R_reads' HO_268002.out).2.2 0 p291 q291
               cases e291
               have qi291 : (0 < t263.length) = True := eq_true (by omega)
               (try rw [show ((0 : Int)).toNat = 0 from rfl] at hx291_0)
               (try rw [Addr.add_zero'] at hx291_0)
               replace p291 := eq_true p291
               replace q291 := eq_true q291
               go_wp2
               go_ret
               exact ⟨by first | rfl | (simp [errW_none, errW_some] <;> rfl) | (simp [*, errW_none, errW_some] <;> rfl), bb⟩
              ·rw [if_neg c77] at H
               exact absurd H (by simp)
             ·rw [if_neg c76] at H
              exfalso; with_reducible first | exact laws_FnNumbers.no_ H hrT_ | exact laws_FnNumbers.j0_t H hrT_ | exact laws_FnNumbers.j2_t H hrT_
            ·rw [if_neg c75] at H
             exact absurd H (by simp)

/-- THE ONE PURE STATEMENT of laws_FnNumbers: yours. -/
def laws_FnNumbers.Pure : Prop := ∀ (l0 : List Int), l0.length ≤ maxLen → l0.length * 1 ≤ 140737488351232 → (∀ x ∈ l0, (Lit.int .u8 x).wf = true) → ∃ k, laws_FnNumbers.f k l0 = some true
theorem laws_FnNumbers.walk (P : laws_FnNumbers.Pure) (a0 : Option Addr) (len0 cap0 : Nat) (z0 : List Int) (w : World) (w0 : (a0 = none ∧ len0 = 0 ∧ cap0 = 0 ∧ z0 = []) ∨ ∃ x, a0 = some x ∧ len0 ≤ cap0 ∧ cap0 ≤ maxLen ∧ z0.length = cap0 ∧ (∀ i, i < z0.length → w.cell? (x.add i) = some (.int .u8 (z0.getD i 0))) ∧ ∀ n ∈ z0, (Lit.int .u8 n).wf = true) (y0 : len0 * 1 ≤ 140737488351232) :
  Calls Try.prog 8 #[.slice a0 len0 cap0] w fun e w' => e = .returned (.bool true) ∧ Below w.heap.size w w' := by
 obtain ⟨l0, rfl, hr0, hm0, hw0, hc0⟩ := ReadsInt.ofRowC w0
 obtain ⟨k, h⟩ := P l0 hm0 y0 hw0
 refine (laws_FnNumbers.calls k _ _ l0 true w (Kd.C_of_reads (d := (0 : Int)) (h1 := fun _ => rfl) hr0) hc0 h).mono ?_
 rintro e w' ⟨rfl, hd⟩
 exact ⟨rfl, hd⟩

end Go.Proofs.Ytbbppknnkghkjaa.PFnNumbers
