/- Printed by a program of this session out of the translation: each Go function as a Lean function, with the proof that Go comes to just its answer (no condition beyond what each theorem says). (squeezed) -/
import Derived.Test.YtbbppknnkghkjaaPFnExactWindowSizex0
import Derived.Test.YtbbppknnkghkjaaPFnExactWindowSizex1
import Derived.Test.YtbbppknnkghkjaaPFnExactWindowSizex5
namespace Go.Proofs.Ytbbppknnkghkjaa.PFnExactWindowSize
open Go.RowKit Go.Proofs.YtbbppknnkghkjaaW.PrintWords Go.Proofs.YtbbppknnkghkjaaW.PrintLast Go.Proofs.YtbbppknnkghkjaaW.PrintMore Go.Proofs.Ytbbppknnkghkjaa.Kit
attribute [local go_sem] max2_int min2_int max_two min_two max_three min_three max_four min_four   -- for this text's walks alone
set_option linter.unusedVariables false
set_option linter.unusedSimpArgs false

attribute [local go_sem high] eqA50
/-! ### impl_TreeOk: function 40 -/
mutual
def impl_TreeOk.j0 : Nat → List (S50) → Bool → Option (Bool)
 | 0, _, _ => none
 | k + 1, x0, x16 => if x16 = true then (some false) else (if 1 ≤ (x0.length : Int) then ((some (x0.drop 1 : List (S50))).bind fun y164 => (impl_TreeOk.l0 k x0 y164 (y164.length : Int) 0)) else (none))
def impl_TreeOk.l0 : Nat → List (S50) → List (S50) → Int → Int → Option (Bool)
 | 0, _, _, _, _ => none
 | k + 1, x0, x18, x19, x20 => if x20 < x19 then (if 0 ≤ x20 then (if x20 < (x18.length : Int) then (if 0 ≤ (wrap64 (x20 + 1)) then (if (wrap64 (x20 + 1)) ≤ (x0.length : Int) then ((some (x0.take ((wrap64 (x20 + 1)) : Int).toNat : List (S50))).bind fun y170 => ((impl_within.f ((rd_T50 x18 x20).f0) 0 x20).bind fun t174 => (if t174 = true then (if 0 ≤ ((rd_T50 x18 x20).f0) then (if ((rd_T50 x18 x20).f0) < (y170.length : Int) then (if ((rd_T50 y170 ((rd_T50 x18 x20).f0)).f2) = 0 then ((impl_within.f ((rd_T50 x18 x20).f1) 0 3).bind fun t176 => (if t176 = true then ((impl_within.f ((rd_T50 x18 x20).f2) 0 4).bind fun t177 => (impl_TreeOk.j2 k x0 y170 x18 x19 x20 (!t177) ((rd_T50 x18 x20).f0) ((rd_T50 x18 x20).f1) ((rd_T50 x18 x20).f2))) else (impl_TreeOk.j2 k x0 y170 x18 x19 x20 true ((rd_T50 x18 x20).f0) ((rd_T50 x18 x20).f1) ((rd_T50 x18 x20).f2)))) else (impl_TreeOk.j2 k x0 y170 x18 x19 x20 true ((rd_T50 x18 x20).f0) ((rd_T50 x18 x20).f1) ((rd_T50 x18 x20).f2))) else (none)) else (none)) else (impl_TreeOk.j2 k x0 y170 x18 x19 x20 true ((rd_T50 x18 x20).f0) ((rd_T50 x18 x20).f1) ((rd_T50 x18 x20).f2))))) else (none)) else (none)) else (none)) else (none)) else (some true)
def impl_TreeOk.j2 : Nat → List (S50) → List (S50) → List (S50) → Int → Int → Bool → Int → Int → Int → Option (Bool)
 | 0, _, _, _, _, _, _, _, _, _ => none
 | k + 1, x0, x5, x18, x19, x20, x54, x170000, x170001, x170002 => if x54 = true then (some false) else ((impl_Node_impl_TreeOk_1.f x5 x170000 x170001 x170002).bind fun t178 => (if t178 = true then (some false) else (impl_TreeOk.l0 k x0 x18 x19 (wrap64 (x20 + 1)))))
end
def impl_TreeOk.f (k : Nat) (l0 : List (S50)) : Option (Bool) := (impl_within.f (l0.length : Int) 1 12).bind fun t162 => (if t162 = true then (if 0 < (l0.length : Int) then (impl_TreeOk.j0 k l0 (!(((rd_T50 l0 0).f0) == (-1)) || (!(((rd_T50 l0 0).f1) == 0) || (!(((rd_T50 l0 0).f2) == 0))))) else (none)) else (impl_TreeOk.j0 k l0 true))
set_option maxHeartbeats 8000000 in
set_option maxRecDepth 100000 in
theorem impl_TreeOk.calls (k : Nat) (A0 : Option Addr) (c0 : Nat) (l0 : List (S50)) (r : Bool) (w : World) (hr0 : Kd.C k50 w A0 l0.length l0) (hc0 : l0.length ≤ c0) (h : impl_TreeOk.f k l0 = some r) :
  Calls Try.prog 40 #[.slice A0 l0.length c0] w fun e w' => e = .returned (.bool r) ∧ Below w.heap.size w w' := by
 have hu50 := Try.underlying50
 have HR0 := Aside0.mk hr0
 have HC0 := Aside0.mk hc0
 clear hr0 hc0
 have HB := Aside0.mk (Below.refl w.heap.size w)
 have H : ((impl_within.f (l0.length : Int) 1 12).bind fun t162 => (if t162 = true then (if 0 < (l0.length : Int) then (impl_TreeOk.j0 k l0 (!(((rd_T50 l0 0).f0) == (-1)) || (!(((rd_T50 l0 0).f1) == 0) || (!(((rd_T50 l0 0).f2) == 0))))) else (none)) else (impl_TreeOk.j0 k l0 true))) = some r := h
 clear h
 have HC2 := Aside0.mk H
 clear H
 go_enter Try.func40, Try.ntmps40
 go_upto_region 1 with (fail)
 go_cut [16] (fun v16 wc => ∃ (kq : Nat) (x16_1 : Bool), v16 = .bool x16_1 ∧ Aside0 (impl_TreeOk.j0 kq l0 x16_1 = some r) ∧ Aside0 (kq ≤ k) ∧ Aside0 (Below w.heap.size w wc))
 case first =>
  have H := HC2.out
  clear HC2
  replace H := Option.bind_eq_some_iff.mp H
  obtain ⟨t162, A30, H⟩ := H
  replace H : (if t162 = true then (if 0 < (l0.length : Int) then (impl_TreeOk.j0 k l0 (!(((rd_T50 l0 0).f0) == (-1)) || (!(((rd_T50 l0 0).f1) == 0) || (!(((rd_T50 l0 0).f2) == 0))))) else (none)) else (impl_TreeOk.j0 k l0 true)) = some r := H
  have A3 := Aside0.mk A30
  clear A30
  by_cases c4 : t162 = true
  ·subst c4
   have H1 : (if 0 < (l0.length : Int) then (impl_TreeOk.j0 k l0 (!(((rd_T50 l0 0).f0) == (-1)) || (!(((rd_T50 l0 0).f1) == 0) || (!(((rd_T50 l0 0).f2) == 0))))) else (none)) = some r := by rw [if_pos rfl] at H; exact H
   clear H
   have H := H1
   clear H1
   by_cases c5 : 0 < (l0.length : Int)
   ·rw [if_pos c5] at H
    have c5b0 : decide (0 < (l0.length : Int)) = true := decide_eq_true c5
    have c5b1 : decide (0 < l0.length) = true := decide_eq_true (by omega)
    clear c5
    (first | rw [c5b0] | (simp only [i64_w, i32_w]; rw [c5b0]) | skip)
    have H' := Aside0.mk H
    clear H
    go_wp2_with (first | ((with_reducible refine gate_callee (f := 94) rfl ?_); refine goesL_ (some 8) rfl rfl Try.func94 (by kernel_rfl) rfl #[.int .i64 (l0.length : Int), .int .i64 1, .int .i64 12] rfl (by (try simp only [List.map_toArray, List.map_cons, List.map_nil]); first | done | rfl | (simp only [List.length_drop, List.length_take]; rfl)) ?_; (with_reducible refine (impl_within.calls (l0.length : Int) 1 12 true _ A3.out).mono ?_); rintro e w' ⟨rfl, ⟨nd, rfl⟩⟩; refine ⟨_, rfl, ?_⟩; have p163 : 0 ≤ (0 : Int) := (by omega); have q163 : 0 < (l0.length : Int) := of_decide_eq_true (by first | (with_reducible assumption) | assumption); obtain ⟨ad163, e163, hx163_0, hx163_1, hx163_2⟩ := at_T50 HR0.out 0 p163 q163; cases e163; have qi163 : (0 < l0.length) = True := eq_true (by omega); (try rw [show ((0 : Int)).toNat = 0 from rfl] at hx163_0); (try rw [show 0 * 3 = 0 from rfl] at hx163_0); (try rw [Addr.add_zero'] at hx163_0); (try rw [show ((0 : Int)).toNat = 0 from rfl] at hx163_1); (try rw [show 0 * 3 = 0 from rfl] at hx163_1); (try rw [Addr.add_zero'] at hx163_1); (try rw [show ((0 : Int)).toNat = 0 from rfl] at hx163_2); (try rw [show 0 * 3 = 0 from rfl] at hx163_2); (try rw [Addr.add_zero'] at hx163_2); replace hx163_0 := pw_cell_below HB.out hx163_0; replace hx163_1 := pw_cell_below HB.out hx163_1; replace hx163_2 := pw_cell_below HB.out hx163_2; replace p163 := eq_true p163; replace q163 := eq_true q163))
    go_meet
    case rel => exact ⟨_, ((!(((rd_T50 l0 0).f0) == (-1)) || (!(((rd_T50 l0 0).f1) == 0) || (!(((rd_T50 l0 0).f2) == 0))))), (by first | rfl | (simp; done) | (simp [*]; done)), H', ⟨by first | omega | exact Nat.le_refl _⟩, ⟨bb⟩⟩
   ·rw [if_neg c5] at H
    exact absurd H (by simp)
  ·replace c4 := Bool.eq_false_iff.mpr c4
   subst c4
   have H1 : (impl_TreeOk.j0 k l0 true) = some r := by rw [if_neg (show ¬ (false = true) by decide)] at H; exact H
   clear H
   have H := H1
   clear H1
   have H' := Aside0.mk H
   clear H
   go_wp2_with (first | ((with_reducible refine gate_callee (f := 94) rfl ?_); refine goesL_ (some 8) rfl rfl Try.func94 (by kernel_rfl) rfl #[.int .i64 (l0.length : Int), .int .i64 1, .int .i64 12] rfl (by (try simp only [List.map_toArray, List.map_cons, List.map_nil]); first | done | rfl | (simp only [List.length_drop, List.length_take]; rfl)) ?_; (with_reducible refine (impl_within.calls (l0.length : Int) 1 12 false _ A3.out).mono ?_); rintro e w' ⟨rfl, ⟨nd, rfl⟩⟩; refine ⟨_, rfl, ?_⟩))
   go_meet
   case rel => exact ⟨_, (true), (by first | rfl | (simp; done) | (simp [*]; done)), H', ⟨by first | omega | exact Nat.le_refl _⟩, ⟨bb⟩⟩
 case rest =>
  clear HC2
  try clear p1
  try clear q1
  try clear hx1
  try clear qi1
  try clear p2
  try clear c4
  try clear c5
  try clear c5b0
  try clear c5b1
  try clear hx163_0
  try clear hx163_1
  try clear hx163_2
  try clear p163
  try clear q163
  obtain ⟨kq, x16_1, rfl, HA, HJ1, HB⟩ := hcut
  cases kq with
  | zero => exact absurd HA.out (by simp [impl_TreeOk.j0])
  | succ kj1 =>
   have H := HA.out
   clear HA
   simp only [impl_TreeOk.j0] at H
   by_cases c6 : x16_1 = true
   ·subst c6
    have H1 : (some false) = some r := by rw [if_pos rfl] at H; exact H
    clear H
    have H := H1
    clear H1
    obtain rfl := Option.some.inj H
    go_wp2
    go_ret
    exact ⟨by first | rfl | (simp [errW_none, errW_some] <;> rfl) | (simp [*, errW_none, errW_some] <;> rfl), bb⟩
   ·replace c6 := Bool.eq_false_iff.mpr c6
    subst c6
    have H1 : (if 1 ≤ (l0.length : Int) then ((some (l0.drop 1 : List (S50))).bind fun y164 => (impl_TreeOk.l0 kj1 l0 y164 (y164.length : Int) 0)) else (none)) = some r := by rw [if_neg (show ¬ (false = true) by decide)] at H; exact H
    clear H
    have H := H1
    clear H1
    by_cases c7 : 1 ≤ (l0.length : Int)
    ·rw [if_pos c7] at H
     have c7b0 := eq_true c7
     have c7b1 : decide (1 ≤ (l0.length : Int)) = true := decide_eq_true c7
     clear c7
     obtain ⟨y164, hy164⟩ : ∃ y_ : List (S50), y_ = (l0.drop 1) := ⟨_, rfl⟩
     replace H : (impl_TreeOk.l0 kj1 l0 y164 (y164.length : Int) 0) = some r := by first | (rw [hy164]; with_reducible exact H) | (have H2_ := (Option.bind_some _ _).symm.trans H; rw [hy164]; with_reducible exact H2_) | (have H2_ := (Option.bind_some _ _).symm.trans H; with_reducible exact H2_) | with_reducible exact H | (rw [hy164]; exact H) | exact H
     have Ny164 := Aside0.mk hy164
     clear hy164
     have H' := Aside0.mk H
     clear H
     have q8 : (1 : Int) ≤ ((l0.length : Int) : Int) := of_decide_eq_true (by first | (with_reducible assumption) | assumption)
     obtain ⟨i08, hi08, _, hsz8, _⟩ := info_parts info50
     have hroom8 : l0.length ≤ c0 := HC0.out
     have hC8 : Kd.C k50 _ A0 l0.length l0 := HR0.out
     have hcut8 := cut_from (P := Try.prog) 29 50 .i64 Try.underlying29 hi08 3 hsz8 A0 l0.length c0 1 (by omega) q8
     have hr8 := Kd.C_drop (m := (1 : Int).toNat) (c := c0) hC8 (by omega) hroom8
     obtain ⟨A8, hA8⟩ : ∃ A1, A1 = (if c0 = (1 : Int).toNat then A0 else (A0 : Option Addr).map (·.add ((1 : Int).toNat * 3))) := ⟨_, rfl⟩
     obtain ⟨c8, hc8⟩ : ∃ c1, c1 = c0 - (1 : Int).toNat := ⟨_, rfl⟩
     have hy8 : y164.length = l0.length - (1 : Int).toNat := (by rw [Ny164.out, List.length_drop] <;> omega)
     rw [show (l0).drop (1 : Int).toNat = y164 from Ny164.out.symm] at hr8
     replace hr8 : Kd.C k50 _ A8 y164.length y164 := (by rw [hA8]; exact hr8)
     rw [← hy8, ← hA8, ← hc8] at hcut8
     have HR167 := Aside0.mk hr8
     have HC167 := Aside0.mk (show y164.length ≤ c8 from by rw [hy8, hc8]; exact Nat.sub_le_sub_right hroom8 _)
     clear hr8 hC8 hroom8 hi08 hsz8 hc8
     have KY8 := Aside0.mk hy8
     have KA8 := Aside0.mk hA8
     clear hy8 hA8
     replace q8 := eq_true q8
     go_wp2
     go_loopg [20] kj1 (fun kq v20 w' => ∃ (x20_2 : Int), v20 = .int .i64 x20_2 ∧ Aside0 (impl_TreeOk.l0 kq l0 y164 (y164.length : Int) x20_2 = some r) ∧ Aside0 (kq ≤ kj1) ∧ Aside0 (Below w.heap.size w w'))
     case atStart => exact ⟨(0), (by first | rfl | (simp; done) | (simp [*]; done)), H', ⟨Nat.le_refl _⟩, ⟨bb⟩⟩
     case round =>
      clear H'
      try clear c1
      try clear p1
      try clear q1
      try clear hx1
      try clear qi1
      try clear p2
      try clear c4
      try clear c5
      try clear c5b0
      try clear c5b1
      try clear c6
      try clear c7
      try clear c7b0
      try clear c7b1
      try clear c8
      try clear q8
      try clear hx163_0
      try clear hx163_1
      try clear hx163_2
      try clear p1
      try clear p163
      try clear p2
      try clear q1
      try clear q163
      try clear q8
      obtain ⟨x20_2, rfl, HA, HK2, HB⟩ := hrel
      cases gk with
      | zero => exact absurd HA.out (by simp [impl_TreeOk.l0])
      | succ k2 =>
       have H := HA.out
       clear HA
       simp only [impl_TreeOk.l0] at H
       by_cases c9 : x20_2 < (y164.length : Int)
       ·rw [if_pos c9] at H
        have c9b0 : decide (x20_2 < (y164.length : Int)) = true := decide_eq_true c9
        clear c9
        by_cases c10 : 0 ≤ x20_2
        ·rw [if_pos c10] at H
         have c10b0 : decide (0 ≤ x20_2) = true := decide_eq_true c10
         clear c10
         by_cases c11 : x20_2 < (y164.length : Int)
         ·rw [if_pos c11] at H
          have c11b0 : decide (x20_2 < (y164.length : Int)) = true := decide_eq_true c11
          clear c11
          obtain ⟨ji12, hji12⟩ : ∃ j_ : Int, (wrap64 (x20_2 + 1)) = j_ := ⟨_, rfl⟩
          replace H : (if 0 ≤ (ji12) then (if (ji12) ≤ (l0.length : Int) then ((some (l0.take ((ji12) : Int).toNat : List (S50))).bind fun y170 => ((impl_within.f ((rd_T50 y164 x20_2).f0) 0 x20_2).bind fun t174 => (if t174 = true then (if 0 ≤ ((rd_T50 y164 x20_2).f0) then (if ((rd_T50 y164 x20_2).f0) < (y170.length : Int) then (if ((rd_T50 y170 ((rd_T50 y164 x20_2).f0)).f2) = 0 then ((impl_within.f ((rd_T50 y164 x20_2).f1) 0 3).bind fun t176 => (if t176 = true then ((impl_within.f ((rd_T50 y164 x20_2).f2) 0 4).bind fun t177 => (impl_TreeOk.j2 k2 l0 y170 y164 (y164.length : Int) x20_2 (!t177) ((rd_T50 y164 x20_2).f0) ((rd_T50 y164 x20_2).f1) ((rd_T50 y164 x20_2).f2))) else (impl_TreeOk.j2 k2 l0 y170 y164 (y164.length : Int) x20_2 true ((rd_T50 y164 x20_2).f0) ((rd_T50 y164 x20_2).f1) ((rd_T50 y164 x20_2).f2)))) else (impl_TreeOk.j2 k2 l0 y170 y164 (y164.length : Int) x20_2 true ((rd_T50 y164 x20_2).f0) ((rd_T50 y164 x20_2).f1) ((rd_T50 y164 x20_2).f2))) else (none)) else (none)) else (impl_TreeOk.j2 k2 l0 y170 y164 (y164.length : Int) x20_2 true ((rd_T50 y164 x20_2).f0) ((rd_T50 y164 x20_2).f1) ((rd_T50 y164 x20_2).f2))))) else (none)) else (none)) = some r := by first | (rw [hji12] at H; exact H) | (simp only [hji12] at H ⊢; exact H)
          have hji12w : (IntKind.i64.wrap (x20_2 + 1)) = ji12 := (i64_w _).trans hji12
          by_cases c13 : 0 ≤ (ji12)
          ·rw [if_pos c13] at H
           have c13b0 := eq_true c13
           have c13b1 : decide (0 ≤ (ji12)) = true := decide_eq_true c13
           clear c13
           by_cases c14 : (ji12) ≤ (l0.length : Int)
           ·rw [if_pos c14] at H
            have c14b0 := eq_true c14
            have c14b1 : decide ((ji12) ≤ (l0.length : Int)) = true := decide_eq_true c14
            clear c14
            obtain ⟨y170, hy170⟩ : ∃ y_ : List (S50), y_ = (l0.take ((ji12) : Int).toNat) := ⟨_, rfl⟩
            replace H : ((impl_within.f ((rd_T50 y164 x20_2).f0) 0 x20_2).bind fun t174 => (if t174 = true then (if 0 ≤ ((rd_T50 y164 x20_2).f0) then (if ((rd_T50 y164 x20_2).f0) < (y170.length : Int) then (if ((rd_T50 y170 ((rd_T50 y164 x20_2).f0)).f2) = 0 then ((impl_within.f ((rd_T50 y164 x20_2).f1) 0 3).bind fun t176 => (if t176 = true then ((impl_within.f ((rd_T50 y164 x20_2).f2) 0 4).bind fun t177 => (impl_TreeOk.j2 k2 l0 y170 y164 (y164.length : Int) x20_2 (!t177) ((rd_T50 y164 x20_2).f0) ((rd_T50 y164 x20_2).f1) ((rd_T50 y164 x20_2).f2))) else (impl_TreeOk.j2 k2 l0 y170 y164 (y164.length : Int) x20_2 true ((rd_T50 y164 x20_2).f0) ((rd_T50 y164 x20_2).f1) ((rd_T50 y164 x20_2).f2)))) else (impl_TreeOk.j2 k2 l0 y170 y164 (y164.length : Int) x20_2 true ((rd_T50 y164 x20_2).f0) ((rd_T50 y164 x20_2).f1) ((rd_T50 y164 x20_2).f2))) else (none)) else (none)) else (impl_TreeOk.j2 k2 l0 y170 y164 (y164.length : Int) x20_2 true ((rd_T50 y164 x20_2).f0) ((rd_T50 y164 x20_2).f1) ((rd_T50 y164 x20_2).f2)))) = some r := by first | (rw [hy170]; with_reducible exact H) | (have H2_ := (Option.bind_some _ _).symm.trans H; rw [hy170]; with_reducible exact H2_) | (have H2_ := (Option.bind_some _ _).symm.trans H; with_reducible exact H2_) | with_reducible exact H | (rw [hy170]; exact H) | exact H
            have Ny170 := Aside0.mk hy170
            clear hy170
            have HC15 := Aside0.mk H
            clear H
            have p168 : 0 ≤ (x20_2 : Int) := of_decide_eq_true (by first | (with_reducible assumption) | assumption)
            have q168 : x20_2 < (y164.length : Int) := of_decide_eq_true (by first | (with_reducible assumption) | assumption)
            obtain ⟨ad168, e168, hx168_0, hx168_1, hx168_2⟩ := at_T50 HR167.out x20_2 p168 q168
            cases e168
            replace hx168_0 := pw_cell_below HB.out hx168_0
            replace hx168_1 := pw_cell_below HB.out hx168_1
            replace hx168_2 := pw_cell_below HB.out hx168_2
            replace p168 := eq_true p168
            replace q168 := eq_true q168
            go_upto_region 7 with (first | ((with_reducible refine gate_dst (N := 4) rfl ?_); refine box_event ?hg (N := 4) ?hd (cs := #[.int .i64 0, .int .i64 0, .int .i64 0]) (t := 50) ?hr ?_; (case hd => rfl); (case hg => rfl); (case hr => first | (go_simp; done) | (go_simp; rfl)); intro gb169 hg w16 hbox hb; have n0_ := Aside0.mk (below_step bb hb); have n1_ := Aside0.mk (hbox); have n2_ := Aside0.mk ((by rw [hg]; exact (below_size bb) : w.heap.size ≤ gb169)); have n3_ := Aside0.mk ((by rw [hg]; exact (below_size bb) : w.heap.size ≤ gb169)); clear HB; have HB := n0_; have BK169 := n1_; have GW169 := n2_; have GE169 := n3_; clear n0_ n1_ n2_ n3_; clear hb hbox hg; obtain ⟨hcz17_0, hcz17_1, hcz17_2, hfz17_0, hfz17_1, hfz17_2⟩ := bx3 BK169.out) | ((with_reducible refine gate_store (t := 50) (p := 4) rfl ?_); refine store_event (t := 50) (p := 4) (v := ?vo_w18) (w1 := (((w16.setCell ⟨gb169, 0, none⟩ (.int .i64 ((rd_T50 y164 x20_2).f0))).setCell ⟨gb169, 1, none⟩ (.int .i64 ((rd_T50 y164 x20_2).f1))).setCell ⟨gb169, 2, none⟩ (.int .i64 ((rd_T50 y164 x20_2).f2)))) ?hg ?ho ?hn ?hr ?_; (case ho => rfl); (case hg => rfl); (case hn => rfl); (case hr => first | (go_simp; done) | (go_simp; rfl)); intro w18 hw; have n0_ : Aside0 (w18.heap[gb169]? = some (.cells #[.int .i64 ((rd_T50 y164 x20_2).f0), .int .i64 ((rd_T50 y164 x20_2).f1), .int .i64 ((rd_T50 y164 x20_2).f2)] 50 (0, 0))) := ⟨(by rw [hw]; exact (by (with_reducible repeat (first | refine blk_drewN ?_ _ | refine blk_drew ?_ | refine blk_alloc ?_ _)); refine blk_put (cs := #[.int .i64 ((rd_T50 y164 x20_2).f0), .int .i64 ((rd_T50 y164 x20_2).f1), .int .i64 0]) ?_ 2 _ rfl; (with_reducible repeat (first | refine blk_drewN ?_ _ | refine blk_drew ?_ | refine blk_alloc ?_ _)); refine blk_put (cs := #[.int .i64 ((rd_T50 y164 x20_2).f0), .int .i64 0, .int .i64 0]) ?_ 1 _ rfl; (with_reducible repeat (first | refine blk_drewN ?_ _ | refine blk_drew ?_ | refine blk_alloc ?_ _)); refine blk_put (cs := #[.int .i64 0, .int .i64 0, .int .i64 0]) ?_ 0 _ rfl; exact bk))⟩; have n1_ : Aside0 (Below w.heap.size w w18) := ⟨(by rw [hw]; exact bb)⟩; clear hw; clear BK169; clear HB; have BK169 := n0_; have HB := n1_; clear n0_ n1_; have q19 : ((ji12) : Int) ≤ ((l0.length : Int) : Int) := of_decide_eq_true (by first | (with_reducible assumption) | assumption); obtain ⟨i019, hi019, _, hsz19, _⟩ := info_parts info50; have hroom19 : l0.length ≤ c0 := HC0.out; have hC19 : Kd.C k50 _ A0 l0.length l0 := HR0.out; have hcut19 := cut_to (P := Try.prog) 29 50 .i64 Try.underlying29 hi019 A0 l0.length c0 (ji12) (of_decide_eq_true (by first | (with_reducible assumption) | assumption)) q19 hroom19; have hr19 := Kd.C_take (m := ((ji12) : Int).toNat) hC19 (by omega); have hy19 : y170.length = ((ji12) : Int).toNat := (by rw [Ny170.out, List.length_take]; omega); rw [← Ny170.out] at hr19; rw [← hy19] at hcut19; have HR173 := Aside0.mk hr19; have HC173 := Aside0.mk (show y170.length ≤ c0 from by omega); clear hr19 hC19 hroom19 hi019 hsz19; have KY19 := Aside0.mk hy19; clear hy19; replace q19 := eq_true q19))
            (try simp only [Act.put, List.setIfInBounds_toArray, List.set_cons_zero, List.set_cons_succ])
            go_cut [54] (fun v54 wc => ∃ (kq : Nat) (x54_14 : Bool), v54 = .bool x54_14 ∧ Aside0 (impl_TreeOk.j2 kq l0 y170 y164 (y164.length : Int) x20_2 x54_14 ((rd_T50 y164 x20_2).f0) ((rd_T50 y164 x20_2).f1) ((rd_T50 y164 x20_2).f2) = some r) ∧ Aside0 (kq ≤ k2) ∧ Aside0 (wc.heap[gb169]? = some (.cells #[.int .i64 ((rd_T50 y164 x20_2).f0), .int .i64 ((rd_T50 y164 x20_2).f1), .int .i64 ((rd_T50 y164 x20_2).f2)] 50 (0, 0))) ∧ Aside0 (Below w.heap.size w wc))
            case first =>
             have H := HC15.out
             clear HC15
             replace H := Option.bind_eq_some_iff.mp H
             obtain ⟨t174, A200, H⟩ := H
             replace H : (if t174 = true then (if 0 ≤ ((rd_T50 y164 x20_2).f0) then (if ((rd_T50 y164 x20_2).f0) < (y170.length : Int) then (if ((rd_T50 y170 ((rd_T50 y164 x20_2).f0)).f2) = 0 then ((impl_within.f ((rd_T50 y164 x20_2).f1) 0 3).bind fun t176 => (if t176 = true then ((impl_within.f ((rd_T50 y164 x20_2).f2) 0 4).bind fun t177 => (impl_TreeOk.j2 k2 l0 y170 y164 (y164.length : Int) x20_2 (!t177) ((rd_T50 y164 x20_2).f0) ((rd_T50 y164 x20_2).f1) ((rd_T50 y164 x20_2).f2))) else (impl_TreeOk.j2 k2 l0 y170 y164 (y164.length : Int) x20_2 true ((rd_T50 y164 x20_2).f0) ((rd_T50 y164 x20_2).f1) ((rd_T50 y164 x20_2).f2)))) else (impl_TreeOk.j2 k2 l0 y170 y164 (y164.length : Int) x20_2 true ((rd_T50 y164 x20_2).f0) ((rd_T50 y164 x20_2).f1) ((rd_T50 y164 x20_2).f2))) else (none)) else (none)) else (impl_TreeOk.j2 k2 l0 y170 y164 (y164.length : Int) x20_2 true ((rd_T50 y164 x20_2).f0) ((rd_T50 y164 x20_2).f1) ((rd_T50 y164 x20_2).f2))) = some r := H
             have A20 := Aside0.mk A200
             clear A200
             by_cases c21 : t174 = true
             ·subst c21
              have H1 : (if 0 ≤ ((rd_T50 y164 x20_2).f0) then (if ((rd_T50 y164 x20_2).f0) < (y170.length : Int) then (if ((rd_T50 y170 ((rd_T50 y164 x20_2).f0)).f2) = 0 then ((impl_within.f ((rd_T50 y164 x20_2).f1) 0 3).bind fun t176 => (if t176 = true then ((impl_within.f ((rd_T50 y164 x20_2).f2) 0 4).bind fun t177 => (impl_TreeOk.j2 k2 l0 y170 y164 (y164.length : Int) x20_2 (!t177) ((rd_T50 y164 x20_2).f0) ((rd_T50 y164 x20_2).f1) ((rd_T50 y164 x20_2).f2))) else (impl_TreeOk.j2 k2 l0 y170 y164 (y164.length : Int) x20_2 true ((rd_T50 y164 x20_2).f0) ((rd_T50 y164 x20_2).f1) ((rd_T50 y164 x20_2).f2)))) else (impl_TreeOk.j2 k2 l0 y170 y164 (y164.length : Int) x20_2 true ((rd_T50 y164 x20_2).f0) ((rd_T50 y164 x20_2).f1) ((rd_T50 y164 x20_2).f2))) else (none)) else (none)) = some r := by rw [if_pos rfl] at H; exact H
              clear H
              have H := H1
              clear H1
              by_cases c22 : 0 ≤ ((rd_T50 y164 x20_2).f0)
              ·rw [if_pos c22] at H
               have c22b0 : decide (0 ≤ ((rd_T50 y164 x20_2).f0)) = true := decide_eq_true c22
               clear c22
               (first | rw [c22b0] | (simp only [i64_w, i32_w]; rw [c22b0]) | skip)
               by_cases c23 : ((rd_T50 y164 x20_2).f0) < (y170.length : Int)
               ·rw [if_pos c23] at H
                have c23b0 : decide (((rd_T50 y164 x20_2).f0) < (y170.length : Int)) = true := decide_eq_true c23
                clear c23
                by_cases c24 : ((rd_T50 y170 ((rd_T50 y164 x20_2).f0)).f2) = 0
                ·rw [if_pos c24] at H
                 have c24b0 : (((rd_T50 y170 ((rd_T50 y164 x20_2).f0)).f2) == 0) = true := beq_iff_eq.mpr c24
                 have c24b1 : (((rd_T50 y170 ((rd_T50 y164 x20_2).f0)).f2) != 0) = false := bne_eq_false_iff_eq.mpr c24
                 clear c24
                 replace H := Option.bind_eq_some_iff.mp H
                 obtain ⟨t176, A250, H⟩ := H
                 replace H : (if t176 = true then ((impl_within.f ((rd_T50 y164 x20_2).f2) 0 4).bind fun t177 => (impl_TreeOk.j2 k2 l0 y170 y164 (y164.length : Int) x20_2 (!t177) ((rd_T50 y164 x20_2).f0) ((rd_T50 y164 x20_2).f1) ((rd_T50 y164 x20_2).f2))) else (impl_TreeOk.j2 k2 l0 y170 y164 (y164.length : Int) x20_2 true ((rd_T50 y164 x20_2).f0) ((rd_T50 y164 x20_2).f1) ((rd_T50 y164 x20_2).f2))) = some r := H
                 have A25 := Aside0.mk A250
                 clear A250
                 by_cases c26 : t176 = true
                 ·subst c26
                  have H1 : ((impl_within.f ((rd_T50 y164 x20_2).f2) 0 4).bind fun t177 => (impl_TreeOk.j2 k2 l0 y170 y164 (y164.length : Int) x20_2 (!t177) ((rd_T50 y164 x20_2).f0) ((rd_T50 y164 x20_2).f1) ((rd_T50 y164 x20_2).f2))) = some r := by rw [if_pos rfl] at H; exact H
                  clear H
                  have H := H1
                  clear H1
                  replace H := Option.bind_eq_some_iff.mp H
                  obtain ⟨t177, A270, H⟩ := H
                  replace H : (impl_TreeOk.j2 k2 l0 y170 y164 (y164.length : Int) x20_2 (!t177) ((rd_T50 y164 x20_2).f0) ((rd_T50 y164 x20_2).f1) ((rd_T50 y164 x20_2).f2)) = some r := H
                  have A27 := Aside0.mk A270
                  clear A270
                  have H' := Aside0.mk H
                  clear H
                  obtain ⟨hcz28_0, hcz28_1, hcz28_2, hfz28_0, hfz28_1, hfz28_2⟩ := bx3 BK169.out
                  go_wp2_with (first | ((with_reducible refine gate_callee (f := 94) rfl ?_); refine goesL_ (some 32) rfl rfl Try.func94 (by kernel_rfl) rfl #[.int .i64 ((rd_T50 y164 x20_2).f0), .int .i64 0, .int .i64 x20_2] rfl (by (try simp only [List.map_toArray, List.map_cons, List.map_nil]); first | done | rfl | (simp only [List.length_drop, List.length_take]; rfl)) ?_; (with_reducible refine (impl_within.calls ((rd_T50 y164 x20_2).f0) 0 x20_2 true _ A20.out).mono ?_); rintro e w' ⟨rfl, ⟨nd, rfl⟩⟩; refine ⟨_, rfl, ?_⟩; have p175 : 0 ≤ (((rd_T50 y164 x20_2).f0) : Int) := of_decide_eq_true (by first | (with_reducible assumption) | assumption); have q175 : ((rd_T50 y164 x20_2).f0) < (y170.length : Int) := of_decide_eq_true (by first | (with_reducible assumption) | assumption); obtain ⟨ad175, e175, hx175_0, hx175_1, hx175_2⟩ := at_T50 HR173.out ((rd_T50 y164 x20_2).f0) p175 q175; cases e175; replace hx175_0 := pw_cell_below HB.out hx175_0; replace hx175_1 := pw_cell_below HB.out hx175_1; replace hx175_2 := pw_cell_below HB.out hx175_2; replace p175 := eq_true p175; replace q175 := eq_true q175) | (go_at_call 94; (with_reducible refine (impl_within.calls ((rd_T50 y164 x20_2).f1) 0 3 true _ A25.out).mono ?_); rintro e w' ⟨rfl, ⟨nd, rfl⟩⟩) | (go_at_call 94; (with_reducible refine (impl_within.calls ((rd_T50 y164 x20_2).f2) 0 4 t177 _ A27.out).mono ?_); rintro e w' ⟨rfl, ⟨nd, rfl⟩⟩))
                  go_meet
                  case rel => exact ⟨_, (!t177), (by first | rfl | (simp; done) | (simp [*]; done)), H', ⟨by have := HJ1.out; have := HK2.out; first | omega | exact Nat.le_refl _⟩, ⟨by exact bk⟩, ⟨bb⟩⟩
                 ·replace c26 := Bool.eq_false_iff.mpr c26
                  subst c26
                  have H1 : (impl_TreeOk.j2 k2 l0 y170 y164 (y164.length : Int) x20_2 true ((rd_T50 y164 x20_2).f0) ((rd_T50 y164 x20_2).f1) ((rd_T50 y164 x20_2).f2)) = some r := by rw [if_neg (show ¬ (false = true) by decide)] at H; exact H
                  clear H
                  have H := H1
                  clear H1
                  have H' := Aside0.mk H
                  clear H
                  obtain ⟨hcz29_0, hcz29_1, hcz29_2, hfz29_0, hfz29_1, hfz29_2⟩ := bx3 BK169.out
                  go_wp2_with (first | ((with_reducible refine gate_callee (f := 94) rfl ?_); refine goesL_ (some 32) rfl rfl Try.func94 (by kernel_rfl) rfl #[.int .i64 ((rd_T50 y164 x20_2).f0), .int .i64 0, .int .i64 x20_2] rfl (by (try simp only [List.map_toArray, List.map_cons, List.map_nil]); first | done | rfl | (simp only [List.length_drop, List.length_take]; rfl)) ?_; (with_reducible refine (impl_within.calls ((rd_T50 y164 x20_2).f0) 0 x20_2 true _ A20.out).mono ?_); rintro e w' ⟨rfl, ⟨nd, rfl⟩⟩; refine ⟨_, rfl, ?_⟩; have p175 : 0 ≤ (((rd_T50 y164 x20_2).f0) : Int) := of_decide_eq_true (by first | (with_reducible assumption) | assumption); have q175 : ((rd_T50 y164 x20_2).f0) < (y170.length : Int) := of_decide_eq_true (by first | (with_reducible assumption) | assumption); obtain ⟨ad175, e175, hx175_0, hx175_1, hx175_2⟩ := at_T50 HR173.out ((rd_T50 y164 x20_2).f0) p175 q175; cases e175; replace hx175_0 := pw_cell_below HB.out hx175_0; replace hx175_1 := pw_cell_below HB.out hx175_1; replace hx175_2 := pw_cell_below HB.out hx175_2; replace p175 := eq_true p175; replace q175 := eq_true q175) | (go_at_call 94; (with_reducible refine (impl_within.calls ((rd_T50 y164 x20_2).f1) 0 3 false _ A25.out).mono ?_); rintro e w' ⟨rfl, ⟨nd, rfl⟩⟩))
                  go_meet
                  case rel => exact ⟨_, (true), (by first | rfl | (simp; done) | (simp [*]; done)), H', ⟨by have := HJ1.out; have := HK2.out; first | omega | exact Nat.le_refl _⟩, ⟨by exact bk⟩, ⟨bb⟩⟩
                ·rw [if_neg c24] at H
                 have c24b0 : (((rd_T50 y170 ((rd_T50 y164 x20_2).f0)).f2) == 0) = false := beq_eq_false_iff_ne.mpr c24
                 have c24b1 : (((rd_T50 y170 ((rd_T50 y164 x20_2).f0)).f2) != 0) = true := bne_iff_ne.mpr c24
                 have H' := Aside0.mk H
                 clear H
                 obtain ⟨hcz30_0, hcz30_1, hcz30_2, hfz30_0, hfz30_1, hfz30_2⟩ := bx3 BK169.out
                 go_wp2_with (first | ((with_reducible refine gate_callee (f := 94) rfl ?_); refine goesL_ (some 32) rfl rfl Try.func94 (by kernel_rfl) rfl #[.int .i64 ((rd_T50 y164 x20_2).f0), .int .i64 0, .int .i64 x20_2] rfl (by (try simp only [List.map_toArray, List.map_cons, List.map_nil]); first | done | rfl | (simp only [List.length_drop, List.length_take]; rfl)) ?_; (with_reducible refine (impl_within.calls ((rd_T50 y164 x20_2).f0) 0 x20_2 true _ A20.out).mono ?_); rintro e w' ⟨rfl, ⟨nd, rfl⟩⟩; refine ⟨_, rfl, ?_⟩; have p175 : 0 ≤ (((rd_T50 y164 x20_2).f0) : Int) := of_decide_eq_true (by first | (with_reducible assumption) | assumption); have q175 : ((rd_T50 y164 x20_2).f0) < (y170.length : Int) := of_decide_eq_true (by first | (with_reducible assumption) | assumption); obtain ⟨ad175, e175, hx175_0, hx175_1, hx175_2⟩ := at_T50 HR173.out ((rd_T50 y164 x20_2).f0) p175 q175; cases e175; replace hx175_0 := pw_cell_below HB.out hx175_0; replace hx175_1 := pw_cell_below HB.out hx175_1; replace hx175_2 := pw_cell_below HB.out hx175_2; replace p175 := eq_true p175; replace q175 := eq_true q175))
                 go_meet
                 case rel => exact ⟨_, (true), (by first | rfl | (simp; done) | (simp [*]; done)), H', ⟨by have := HJ1.out; have := HK2.out; first | omega | exact Nat.le_refl _⟩, ⟨by exact bk⟩, ⟨bb⟩⟩
               ·rw [if_neg c23] at H
                exact absurd H (by simp)
              ·rw [if_neg c22] at H
               exact absurd H (by simp)
             ·replace c21 := Bool.eq_false_iff.mpr c21
              subst c21
              have H1 : (impl_TreeOk.j2 k2 l0 y170 y164 (y164.length : Int) x20_2 true ((rd_T50 y164 x20_2).f0) ((rd_T50 y164 x20_2).f1) ((rd_T50 y164 x20_2).f2)) = some r := by rw [if_neg (show ¬ (false = true) by decide)] at H; exact H
              clear H
              have H := H1
              clear H1
              have H' := Aside0.mk H
              clear H
              obtain ⟨hcz31_0, hcz31_1, hcz31_2, hfz31_0, hfz31_1, hfz31_2⟩ := bx3 BK169.out
              go_wp2_with (first | ((with_reducible refine gate_callee (f := 94) rfl ?_); refine goesL_ (some 32) rfl rfl Try.func94 (by kernel_rfl) rfl #[.int .i64 ((rd_T50 y164 x20_2).f0), .int .i64 0, .int .i64 x20_2] rfl (by (try simp only [List.map_toArray, List.map_cons, List.map_nil]); first | done | rfl | (simp only [List.length_drop, List.length_take]; rfl)) ?_; (with_reducible refine (impl_within.calls ((rd_T50 y164 x20_2).f0) 0 x20_2 false _ A20.out).mono ?_); rintro e w' ⟨rfl, ⟨nd, rfl⟩⟩; refine ⟨_, rfl, ?_⟩))
              go_meet
              case rel => exact ⟨_, (true), (by first | rfl | (simp; done) | (simp [*]; done)), H', ⟨by have := HJ1.out; have := HK2.out; first | omega | exact Nat.le_refl _⟩, ⟨by exact bk⟩, ⟨bb⟩⟩
            case rest =>
             clear HC15
             try clear c1
             try clear p1
             try clear q1
             try clear hx1
             try clear qi1
             try clear c2
             try clear p2
             try clear c4
             try clear c5
             try clear c5b0
             try clear c5b1
             try clear c6
             try clear p6
             try clear c7
             try clear c7b0
             try clear c7b1
             try clear c8
             try clear q8
             try clear c9
             try clear c9b0
             try clear c10
             try clear c10b0
             try clear c11
             try clear c11b0
             try clear c13
             try clear c13b0
             try clear c13b1
             try clear c14
             try clear c14b0
             try clear c14b1
             try clear p16
             try clear q16
             try clear hx16
             try clear qi16
             try clear p17
             try clear q17
             try clear hx17
             try clear q19
             try clear c21
             try clear c22
             try clear c22b0
             try clear c23
             try clear c23b0
             try clear c24
             try clear c24b0
             try clear c24b1
             try clear c26
             try clear hcz17_0
             try clear hcz17_1
             try clear hcz17_2
             try clear hcz28_0
             try clear hcz28_1
             try clear hcz28_2
             try clear hcz29_0
             try clear hcz29_1
             try clear hcz29_2
             try clear hcz30_0
             try clear hcz30_1
             try clear hcz30_2
             try clear hcz31_0
             try clear hcz31_1
             try clear hcz31_2
             try clear hfz17_0
             try clear hfz17_1
             try clear hfz17_2
             try clear hfz28_0
             try clear hfz28_1
             try clear hfz28_2
             try clear hfz29_0
             try clear hfz29_1
             try clear hfz29_2
             try clear hfz30_0
             try clear hfz30_1
             try clear hfz30_2
             try clear hfz31_0
             try clear hfz31_1
             try clear hfz31_2
             try clear hx163_0
             try clear hx163_1
             try clear hx163_2
             try clear hx168_0
             try clear hx168_1
             try clear hx168_2
             try clear hx175_0
             try clear hx175_1
             try clear hx175_2
             try clear p1
             try clear p163
             try clear p168
             try clear p175
             try clear p2
             try clear q1
             try clear q163
             try clear q168
             try clear q175
             try clear q19
             try clear q8
             obtain ⟨kq, x54_14, rfl, HA, HJ14, BK169, HB⟩ := hcut
             cases kq with
             | zero => exact absurd HA.out (by simp [impl_TreeOk.j2])
             | succ kj14 =>
              have H := HA.out
              clear HA
              simp only [impl_TreeOk.j2] at H
              by_cases c32 : x54_14 = true
              ·subst c32
               have H1 : (some false) = some r := by rw [if_pos rfl] at H; exact H
               clear H
               have H := H1
               clear H1
               obtain rfl := Option.some.inj H
               go_wp2
               go_ret
               exact ⟨by first | rfl | (simp [errW_none, errW_some] <;> rfl) | (simp only [← hji12]; first | rfl | (simp [errW_none, errW_some] <;> rfl)) | (simp [*, errW_none, errW_some] <;> rfl), bb⟩
              ·replace c32 := Bool.eq_false_iff.mpr c32
               subst c32
               have H1 : ((impl_Node_impl_TreeOk_1.f y170 ((rd_T50 y164 x20_2).f0) ((rd_T50 y164 x20_2).f1) ((rd_T50 y164 x20_2).f2)).bind fun t178 => (if t178 = true then (some false) else (impl_TreeOk.l0 kj14 l0 y164 (y164.length : Int) (wrap64 (x20_2 + 1))))) = some r := by rw [if_neg (show ¬ (false = true) by decide)] at H; exact H
               clear H
               have H := H1
               clear H1
               replace H := Option.bind_eq_some_iff.mp H
               obtain ⟨t178, A330, H⟩ := H
               replace H : (if t178 = true then (some false) else (impl_TreeOk.l0 kj14 l0 y164 (y164.length : Int) (wrap64 (x20_2 + 1)))) = some r := H
               have A33 := Aside0.mk A330
               clear A330
               by_cases c34 : t178 = true
               ·subst c34
                have H1 : (some false) = some r := by rw [if_pos rfl] at H; exact H
                clear H
                have H := H1
                clear H1
                obtain rfl := Option.some.inj H
                go_wp2_with (first | ((with_reducible refine gate_callee (f := 95) rfl ?_); refine goesL_ (some 57) rfl rfl Try.func95 (by kernel_rfl) rfl #[.slice A0 y170.length c0, .func (.func 96) #[] #[.pointer (some ⟨gb169, 0, none⟩)]] rfl (by (try simp only [List.map_toArray, List.map_cons, List.map_nil]); first | done | rfl | (simp only [List.length_drop, List.length_take]; rfl)) ?_; (with_reducible refine (impl_Node_impl_TreeOk_1.calls _ _ y170 gb169 ((rd_T50 y164 x20_2).f0) ((rd_T50 y164 x20_2).f1) ((rd_T50 y164 x20_2).f2) true _ ?side1 ?side2 ?side3 A33.out).mono ?_); (case side1 => exact kc); (case side2 => exact HC173.out); (case side3 => exact bk); rintro e w35 ⟨rfl, hb⟩; refine ⟨_, rfl, ?_⟩; have n0_ := Aside0.mk (blk_below (g := gb169) (o := .cells #[.int .i64 ((rd_T50 y164 x20_2).f0), .int .i64 ((rd_T50 y164 x20_2).f1), .int .i64 ((rd_T50 y164 x20_2).f2)] 50 (0, 0)) bk hb); have n1_ := Aside0.mk (below_step bb hb); clear BK169; clear HB; have BK169 := n0_; have HB := n1_; clear n0_ n1_; (try clear hb)))
                go_ret
                exact ⟨by first | rfl | (simp [errW_none, errW_some] <;> rfl) | (simp only [← hji12]; first | rfl | (simp [errW_none, errW_some] <;> rfl)) | (simp [*, errW_none, errW_some] <;> rfl), bb⟩
               ·replace c34 := Bool.eq_false_iff.mpr c34
                subst c34
                have H1 : (impl_TreeOk.l0 kj14 l0 y164 (y164.length : Int) (wrap64 (x20_2 + 1))) = some r := by rw [if_neg (show ¬ (false = true) by decide)] at H; exact H
                clear H
                have H := H1
                clear H1
                have H' := Aside0.mk H
                clear H
                go_wp2_with (first | ((with_reducible refine gate_callee (f := 95) rfl ?_); refine goesL_ (some 57) rfl rfl Try.func95 (by kernel_rfl) rfl #[.slice A0 y170.length c0, .func (.func 96) #[] #[.pointer (some ⟨gb169, 0, none⟩)]] rfl (by (try simp only [List.map_toArray, List.map_cons, List.map_nil]); first | done | rfl | (simp only [List.length_drop, List.length_take]; rfl)) ?_; (with_reducible refine (impl_Node_impl_TreeOk_1.calls _ _ y170 gb169 ((rd_T50 y164 x20_2).f0) ((rd_T50 y164 x20_2).f1) ((rd_T50 y164 x20_2).f2) false _ ?side1 ?side2 ?side3 A33.out).mono ?_); (case side1 => exact kc); (case side2 => exact HC173.out); (case side3 => exact bk); rintro e w36 ⟨rfl, hb⟩; refine ⟨_, rfl, ?_⟩; have n0_ := Aside0.mk (blk_below (g := gb169) (o := .cells #[.int .i64 ((rd_T50 y164 x20_2).f0), .int .i64 ((rd_T50 y164 x20_2).f1), .int .i64 ((rd_T50 y164 x20_2).f2)] 50 (0, 0)) bk hb); have n1_ := Aside0.mk (below_step bb hb); clear BK169; clear HB; have BK169 := n0_; have HB := n1_; clear n0_ n1_; (try clear hb)))
                go_roundg kj14
                case measure => have := HJ1.out; have := HK2.out; have := HJ14.out; omega
                case rel => exact ⟨(wrap64 (x20_2 + 1)), (by first | rfl | (simp; done) | (simp [*]; done)), H', ⟨by have := HJ1.out; have := HK2.out; have := HJ14.out; omega⟩, ⟨bb⟩⟩
           ·rw [if_neg c14] at H
            exact absurd H (by simp)
          ·rw [if_neg c13] at H
           exact absurd H (by simp)
         ·rw [if_neg c11] at H
          exact absurd H (by simp)
        ·rw [if_neg c10] at H
         exact absurd H (by simp)
       ·rw [if_neg c9] at H
        have c9b0 : decide (x20_2 < (y164.length : Int)) = false := decide_eq_false c9
        clear c9
        obtain rfl := Option.some.inj H
        go_wp2
        go_ret
        exact ⟨by first | rfl | (simp [errW_none, errW_some] <;> rfl) | (simp [*, errW_none, errW_some] <;> rfl), bb⟩
    ·rw [if_neg c7] at H
     exact absurd H (by simp)

/-! ### impl_isBridge: function 81 -/
def impl_isBridge.f (l0 : List (S50)) (a1 : Int) : Option (Bool) := if 0 ≤ a1 then (if a1 < (l0.length : Int) then (some (((rd_T50 l0 a1).f2) == 0)) else (none)) else (none)
set_option maxHeartbeats 8000000 in
set_option maxRecDepth 100000 in
theorem impl_isBridge.calls (A0 : Option Addr) (c0 : Nat) (l0 : List (S50)) (a1 : Int) (r : Bool) (w : World) (hr0 : Kd.C k50 w A0 l0.length l0) (hc0 : l0.length ≤ c0) (h : impl_isBridge.f l0 a1 = some r) :
  Calls Try.prog 81 #[.slice A0 l0.length c0, .int .i64 a1] w fun e w' => e = .returned (.bool r) ∧ Drawn0 w w' := by
 have HR0 := Aside0.mk hr0
 have HC0 := Aside0.mk hc0
 clear hr0 hc0
 have H : (if 0 ≤ a1 then (if a1 < (l0.length : Int) then (some (((rd_T50 l0 a1).f2) == 0)) else (none)) else (none)) = some r := h
 clear h
 by_cases c3 : 0 ≤ a1
 ·rw [if_pos c3] at H
  have c3b0 : decide (0 ≤ a1) = true := decide_eq_true c3
  clear c3
  by_cases c4 : a1 < (l0.length : Int)
  ·rw [if_pos c4] at H
   have c4b0 : decide (a1 < (l0.length : Int)) = true := decide_eq_true c4
   clear c4
   obtain rfl := Option.some.inj H
   have p179 : 0 ≤ (a1 : Int) := of_decide_eq_true (by first | (with_reducible assumption) | assumption)
   have q179 : a1 < (l0.length : Int) := of_decide_eq_true (by first | (with_reducible assumption) | assumption)
   obtain ⟨ad179, e179, hx179_0, hx179_1, hx179_2⟩ := at_T50 HR0.out a1 p179 q179
   cases e179
   replace p179 := eq_true p179
   replace q179 := eq_true q179
   go_enter Try.func81, Try.ntmps81
   go_wp2
   go_ret
   exact ⟨by first | rfl | (simp; done) | (simp [*]; done), by repeat (first | exact Drawn0.refl _ | apply Drawn0.step)⟩
  ·rw [if_neg c4] at H
   exact absurd H (by simp)
 ·rw [if_neg c3] at H
  exact absurd H (by simp)

-- NOT PRINTED: function 150 (bits_OnesCount32)

/-! ### bits_OnesCount64: function 151 -/
def bits_OnesCount64.f (a0 : Int) : Option (Int) := some (Go.bits .and .i64 (wrap64 (IntKind.u64.wrap ((IntKind.u64.wrap ((IntKind.u64.wrap ((Go.bits .and .u64 (IntKind.u64.wrap (((IntKind.u64.wrap ((Go.bits .and .u64 ((IntKind.u64.wrap ((Go.bits .and .u64 (a0 / 2) 6148914691236517205) + (Go.bits .and .u64 a0 6148914691236517205))) / 4) 3689348814741910323) + (Go.bits .and .u64 (IntKind.u64.wrap ((Go.bits .and .u64 (a0 / 2) 6148914691236517205) + (Go.bits .and .u64 a0 6148914691236517205))) 3689348814741910323))) / 16) + (IntKind.u64.wrap ((Go.bits .and .u64 ((IntKind.u64.wrap ((Go.bits .and .u64 (a0 / 2) 6148914691236517205) + (Go.bits .and .u64 a0 6148914691236517205))) / 4) 3689348814741910323) + (Go.bits .and .u64 (IntKind.u64.wrap ((Go.bits .and .u64 (a0 / 2) 6148914691236517205) + (Go.bits .and .u64 a0 6148914691236517205))) 3689348814741910323))))) 1085102592571150095) + ((Go.bits .and .u64 (IntKind.u64.wrap (((IntKind.u64.wrap ((Go.bits .and .u64 ((IntKind.u64.wrap ((Go.bits .and .u64 (a0 / 2) 6148914691236517205) + (Go.bits .and .u64 a0 6148914691236517205))) / 4) 3689348814741910323) + (Go.bits .and .u64 (IntKind.u64.wrap ((Go.bits .and .u64 (a0 / 2) 6148914691236517205) + (Go.bits .and .u64 a0 6148914691236517205))) 3689348814741910323))) / 16) + (IntKind.u64.wrap ((Go.bits .and .u64 ((IntKind.u64.wrap ((Go.bits .and .u64 (a0 / 2) 6148914691236517205) + (Go.bits .and .u64 a0 6148914691236517205))) / 4) 3689348814741910323) + (Go.bits .and .u64 (IntKind.u64.wrap ((Go.bits .and .u64 (a0 / 2) 6148914691236517205) + (Go.bits .and .u64 a0 6148914691236517205))) 3689348814741910323))))) 1085102592571150095) / 256))) + ((IntKind.u64.wrap ((Go.bits .and .u64 (IntKind.u64.wrap (((IntKind.u64.wrap ((Go.bits .and .u64 ((IntKind.u64.wrap ((Go.bits .and .u64 (a0 / 2) 6148914691236517205) + (Go.bits .and .u64 a0 6148914691236517205))) / 4) 3689348814741910323) + (Go.bits .and .u64 (IntKind.u64.wrap ((Go.bits .and .u64 (a0 / 2) 6148914691236517205) + (Go.bits .and .u64 a0 6148914691236517205))) 3689348814741910323))) / 16) + (IntKind.u64.wrap ((Go.bits .and .u64 ((IntKind.u64.wrap ((Go.bits .and .u64 (a0 / 2) 6148914691236517205) + (Go.bits .and .u64 a0 6148914691236517205))) / 4) 3689348814741910323) + (Go.bits .and .u64 (IntKind.u64.wrap ((Go.bits .and .u64 (a0 / 2) 6148914691236517205) + (Go.bits .and .u64 a0 6148914691236517205))) 3689348814741910323))))) 1085102592571150095) + ((Go.bits .and .u64 (IntKind.u64.wrap (((IntKind.u64.wrap ((Go.bits .and .u64 ((IntKind.u64.wrap ((Go.bits .and .u64 (a0 / 2) 6148914691236517205) + (Go.bits .and .u64 a0 6148914691236517205))) / 4) 3689348814741910323) + (Go.bits .and .u64 (IntKind.u64.wrap ((Go.bits .and .u64 (a0 / 2) 6148914691236517205) + (Go.bits .and .u64 a0 6148914691236517205))) 3689348814741910323))) / 16) + (IntKind.u64.wrap ((Go.bits .and .u64 ((IntKind.u64.wrap ((Go.bits .and .u64 (a0 / 2) 6148914691236517205) + (Go.bits .and .u64 a0 6148914691236517205))) / 4) 3689348814741910323) + (Go.bits .and .u64 (IntKind.u64.wrap ((Go.bits .and .u64 (a0 / 2) 6148914691236517205) + (Go.bits .and .u64 a0 6148914691236517205))) 3689348814741910323))))) 1085102592571150095) / 256))) / 65536))) + ((IntKind.u64.wrap ((IntKind.u64.wrap ((Go.bits .and .u64 (IntKind.u64.wrap (((IntKind.u64.wrap ((Go.bits .and .u64 ((IntKind.u64.wrap ((Go.bits .and .u64 (a0 / 2) 6148914691236517205) + (Go.bits .and .u64 a0 6148914691236517205))) / 4) 3689348814741910323) + (Go.bits .and .u64 (IntKind.u64.wrap ((Go.bits .and .u64 (a0 / 2) 6148914691236517205) + (Go.bits .and .u64 a0 6148914691236517205))) 3689348814741910323))) / 16) + (IntKind.u64.wrap ((Go.bits .and .u64 ((IntKind.u64.wrap ((Go.bits .and .u64 (a0 / 2) 6148914691236517205) + (Go.bits .and .u64 a0 6148914691236517205))) / 4) 3689348814741910323) + (Go.bits .and .u64 (IntKind.u64.wrap ((Go.bits .and .u64 (a0 / 2) 6148914691236517205) + (Go.bits .and .u64 a0 6148914691236517205))) 3689348814741910323))))) 1085102592571150095) + ((Go.bits .and .u64 (IntKind.u64.wrap (((IntKind.u64.wrap ((Go.bits .and .u64 ((IntKind.u64.wrap ((Go.bits .and .u64 (a0 / 2) 6148914691236517205) + (Go.bits .and .u64 a0 6148914691236517205))) / 4) 3689348814741910323) + (Go.bits .and .u64 (IntKind.u64.wrap ((Go.bits .and .u64 (a0 / 2) 6148914691236517205) + (Go.bits .and .u64 a0 6148914691236517205))) 3689348814741910323))) / 16) + (IntKind.u64.wrap ((Go.bits .and .u64 ((IntKind.u64.wrap ((Go.bits .and .u64 (a0 / 2) 6148914691236517205) + (Go.bits .and .u64 a0 6148914691236517205))) / 4) 3689348814741910323) + (Go.bits .and .u64 (IntKind.u64.wrap ((Go.bits .and .u64 (a0 / 2) 6148914691236517205) + (Go.bits .and .u64 a0 6148914691236517205))) 3689348814741910323))))) 1085102592571150095) / 256))) + ((IntKind.u64.wrap ((Go.bits .and .u64 (IntKind.u64.wrap (((IntKind.u64.wrap ((Go.bits .and .u64 ((IntKind.u64.wrap ((Go.bits .and .u64 (a0 / 2) 6148914691236517205) + (Go.bits .and .u64 a0 6148914691236517205))) / 4) 3689348814741910323) + (Go.bits .and .u64 (IntKind.u64.wrap ((Go.bits .and .u64 (a0 / 2) 6148914691236517205) + (Go.bits .and .u64 a0 6148914691236517205))) 3689348814741910323))) / 16) + (IntKind.u64.wrap ((Go.bits .and .u64 ((IntKind.u64.wrap ((Go.bits .and .u64 (a0 / 2) 6148914691236517205) + (Go.bits .and .u64 a0 6148914691236517205))) / 4) 3689348814741910323) + (Go.bits .and .u64 (IntKind.u64.wrap ((Go.bits .and .u64 (a0 / 2) 6148914691236517205) + (Go.bits .and .u64 a0 6148914691236517205))) 3689348814741910323))))) 1085102592571150095) + ((Go.bits .and .u64 (IntKind.u64.wrap (((IntKind.u64.wrap ((Go.bits .and .u64 ((IntKind.u64.wrap ((Go.bits .and .u64 (a0 / 2) 6148914691236517205) + (Go.bits .and .u64 a0 6148914691236517205))) / 4) 3689348814741910323) + (Go.bits .and .u64 (IntKind.u64.wrap ((Go.bits .and .u64 (a0 / 2) 6148914691236517205) + (Go.bits .and .u64 a0 6148914691236517205))) 3689348814741910323))) / 16) + (IntKind.u64.wrap ((Go.bits .and .u64 ((IntKind.u64.wrap ((Go.bits .and .u64 (a0 / 2) 6148914691236517205) + (Go.bits .and .u64 a0 6148914691236517205))) / 4) 3689348814741910323) + (Go.bits .and .u64 (IntKind.u64.wrap ((Go.bits .and .u64 (a0 / 2) 6148914691236517205) + (Go.bits .and .u64 a0 6148914691236517205))) 3689348814741910323))))) 1085102592571150095) / 256))) / 65536))) / 4294967296)))) 127)
set_option maxHeartbeats 8000000 in
set_option maxRecDepth 100000 in
theorem bits_OnesCount64.calls (a0 : Int) (r : Int) (w : World) (h : bits_OnesCount64.f a0 = some r) :
  Calls Try.prog 151 #[.int .u64 a0] w fun e w' => e = .returned (.int .i64 r) ∧ Drawn0 w w' := by
 have H : (some (Go.bits .and .i64 (wrap64 (IntKind.u64.wrap ((IntKind.u64.wrap ((IntKind.u64.wrap ((Go.bits .and .u64 (IntKind.u64.wrap (((IntKind.u64.wrap ((Go.bits .and .u64 ((IntKind.u64.wrap ((Go.bits .and .u64 (a0 / 2) 6148914691236517205) + (Go.bits .and .u64 a0 6148914691236517205))) / 4) 3689348814741910323) + (Go.bits .and .u64 (IntKind.u64.wrap ((Go.bits .and .u64 (a0 / 2) 6148914691236517205) + (Go.bits .and .u64 a0 6148914691236517205))) 3689348814741910323))) / 16) + (IntKind.u64.wrap ((Go.bits .and .u64 ((IntKind.u64.wrap ((Go.bits .and .u64 (a0 / 2) 6148914691236517205) + (Go.bits .and .u64 a0 6148914691236517205))) / 4) 3689348814741910323) + (Go.bits .and .u64 (IntKind.u64.wrap ((Go.bits .and .u64 (a0 / 2) 6148914691236517205) + (Go.bits .and .u64 a0 6148914691236517205))) 3689348814741910323))))) 1085102592571150095) + ((Go.bits .and .u64 (IntKind.u64.wrap (((IntKind.u64.wrap ((Go.bits .and .u64 ((IntKind.u64.wrap ((Go.bits .and .u64 (a0 / 2) 6148914691236517205) + (Go.bits .and .u64 a0 6148914691236517205))) / 4) 3689348814741910323) + (Go.bits .and .u64 (IntKind.u64.wrap ((Go.bits .and .u64 (a0 / 2) 6148914691236517205) + (Go.bits .and .u64 a0 6148914691236517205))) 3689348814741910323))) / 16) + (IntKind.u64.wrap ((Go.bits .and .u64 ((IntKind.u64.wrap ((Go.bits .and .u64 (a0 / 2) 6148914691236517205) + (Go.bits .and .u64 a0 6148914691236517205))) / 4) 3689348814741910323) + (Go.bits .and .u64 (IntKind.u64.wrap ((Go.bits .and .u64 (a0 / 2) 6148914691236517205) + (Go.bits .and .u64 a0 6148914691236517205))) 3689348814741910323))))) 1085102592571150095) / 256))) + ((IntKind.u64.wrap ((Go.bits .and .u64 (IntKind.u64.wrap (((IntKind.u64.wrap ((Go.bits .and .u64 ((IntKind.u64.wrap ((Go.bits .and .u64 (a0 / 2) 6148914691236517205) + (Go.bits .and .u64 a0 6148914691236517205))) / 4) 3689348814741910323) + (Go.bits .and .u64 (IntKind.u64.wrap ((Go.bits .and .u64 (a0 / 2) 6148914691236517205) + (Go.bits .and .u64 a0 6148914691236517205))) 3689348814741910323))) / 16) + (IntKind.u64.wrap ((Go.bits .and .u64 ((IntKind.u64.wrap ((Go.bits .and .u64 (a0 / 2) 6148914691236517205) + (Go.bits .and .u64 a0 6148914691236517205))) / 4) 3689348814741910323) + (Go.bits .and .u64 (IntKind.u64.wrap ((Go.bits .and .u64 (a0 / 2) 6148914691236517205) + (Go.bits .and .u64 a0 6148914691236517205))) 3689348814741910323))))) 1085102592571150095) + ((Go.bits .and .u64 (IntKind.u64.wrap (((IntKind.u64.wrap ((Go.bits .and .u64 ((IntKind.u64.wrap ((Go.bits .and .u64 (a0 / 2) 6148914691236517205) + (Go.bits .and .u64 a0 6148914691236517205))) / 4) 3689348814741910323) + (Go.bits .and .u64 (IntKind.u64.wrap ((Go.bits .and .u64 (a0 / 2) 6148914691236517205) + (Go.bits .and .u64 a0 6148914691236517205))) 3689348814741910323))) / 16) + (IntKind.u64.wrap ((Go.bits .and .u64 ((IntKind.u64.wrap ((Go.bits .and .u64 (a0 / 2) 6148914691236517205) + (Go.bits .and .u64 a0 6148914691236517205))) / 4) 3689348814741910323) + (Go.bits .and .u64 (IntKind.u64.wrap ((Go.bits .and .u64 (a0 / 2) 6148914691236517205) + (Go.bits .and .u64 a0 6148914691236517205))) 3689348814741910323))))) 1085102592571150095) / 256))) / 65536))) + ((IntKind.u64.wrap ((IntKind.u64.wrap ((Go.bits .and .u64 (IntKind.u64.wrap (((IntKind.u64.wrap ((Go.bits .and .u64 ((IntKind.u64.wrap ((Go.bits .and .u64 (a0 / 2) 6148914691236517205) + (Go.bits .and .u64 a0 6148914691236517205))) / 4) 3689348814741910323) + (Go.bits .and .u64 (IntKind.u64.wrap ((Go.bits .and .u64 (a0 / 2) 6148914691236517205) + (Go.bits .and .u64 a0 6148914691236517205))) 3689348814741910323))) / 16) + (IntKind.u64.wrap ((Go.bits .and .u64 ((IntKind.u64.wrap ((Go.bits .and .u64 (a0 / 2) 6148914691236517205) + (Go.bits .and .u64 a0 6148914691236517205))) / 4) 3689348814741910323) + (Go.bits .and .u64 (IntKind.u64.wrap ((Go.bits .and .u64 (a0 / 2) 6148914691236517205) + (Go.bits .and .u64 a0 6148914691236517205))) 3689348814741910323))))) 1085102592571150095) + ((Go.bits .and .u64 (IntKind.u64.wrap (((IntKind.u64.wrap ((Go.bits .and .u64 ((IntKind.u64.wrap ((Go.bits .and .u64 (a0 / 2) 6148914691236517205) + (Go.bits .and .u64 a0 6148914691236517205))) / 4) 3689348814741910323) + (Go.bits .and .u64 (IntKind.u64.wrap ((Go.bits .and .u64 (a0 / 2) 6148914691236517205) + (Go.bits .and .u64 a0 6148914691236517205))) 3689348814741910323))) / 16) + (IntKind.u64.wrap ((Go.bits .and .u64 ((IntKind.u64.wrap ((Go.bits .and .u64 (a0 / 2) 6148914691236517205) + (Go.bits .and .u64 a0 6148914691236517205))) / 4) 3689348814741910323) + (Go.bits .and .u64 (IntKind.u64.wrap ((Go.bits .and .u64 (a0 / 2) 6148914691236517205) + (Go.bits .and .u64 a0 6148914691236517205))) 3689348814741910323))))) 1085102592571150095) / 256))) + ((IntKind.u64.wrap ((Go.bits .and .u64 (IntKind.u64.wrap (((IntKind.u64.wrap ((Go.bits .and .u64 ((IntKind.u64.wrap ((Go.bits .and .u64 (a0 / 2) 6148914691236517205) + (Go.bits .and .u64 a0 6148914691236517205))) / 4) 3689348814741910323) + (Go.bits .and .u64 (IntKind.u64.wrap ((Go.bits .and .u64 (a0 / 2) 6148914691236517205) + (Go.bits .and .u64 a0 6148914691236517205))) 3689348814741910323))) / 16) + (IntKind.u64.wrap ((Go.bits .and .u64 ((IntKind.u64.wrap ((Go.bits .and .u64 (a0 / 2) 6148914691236517205) + (Go.bits .and .u64 a0 6148914691236517205))) / 4) 3689348814741910323) + (Go.bits .and .u64 (IntKind.u64.wrap ((Go.bits .and .u64 (a0 / 2) 6148914691236517205) + (Go.bits .and .u64 a0 6148914691236517205))) 3689348814741910323))))) 1085102592571150095) + ((Go.bits .and .u64 (IntKind.u64.wrap (((IntKind.u64.wrap ((Go.bits .and .u64 ((IntKind.u64.wrap ((Go.bits .and .u64 (a0 / 2) 6148914691236517205) + (Go.bits .and .u64 a0 6148914691236517205))) / 4) 3689348814741910323) + (Go.bits .and .u64 (IntKind.u64.wrap ((Go.bits .and .u64 (a0 / 2) 6148914691236517205) + (Go.bits .and .u64 a0 6148914691236517205))) 3689348814741910323))) / 16) + (IntKind.u64.wrap ((Go.bits .and .u64 ((IntKind.u64.wrap ((Go.bits .and .u64 (a0 / 2) 6148914691236517205) + (Go.bits .and .u64 a0 6148914691236517205))) / 4) 3689348814741910323) + (Go.bits .and .u64 (IntKind.u64.wrap ((Go.bits .and .u64 (a0 / 2) 6148914691236517205) + (Go.bits .and .u64 a0 6148914691236517205))) 3689348814741910323))))) 1085102592571150095) / 256))) / 65536))) / 4294967296)))) 127)) = some r := h
 clear h
 obtain rfl := Option.some.inj H
 go_enter Try.func151, Try.ntmps151
 go_wp2
 go_ret
 exact ⟨by first | rfl | (simp; done) | (simp [*]; done), by repeat (first | exact Drawn0.refl _ | apply Drawn0.step)⟩

/-! ### bits_OnesCount: function 134 -/
def bits_OnesCount.f (a0 : Int) : Option (Int) := (bits_OnesCount64.f a0).bind fun t180 => (some t180)
set_option maxHeartbeats 8000000 in
set_option maxRecDepth 100000 in
theorem bits_OnesCount.calls (a0 : Int) (r : Int) (w : World) (h : bits_OnesCount.f a0 = some r) :
  Calls Try.prog 134 #[.int .u64 a0] w fun e w' => e = .returned (.int .i64 r) ∧ Drawn0 w w' := by
 have H : ((bits_OnesCount64.f a0).bind fun t180 => (some t180)) = some r := h
 clear h
 replace H := Option.bind_eq_some_iff.mp H
 obtain ⟨t180, A20, H⟩ := H
 replace H : (some t180) = some r := H
 have A2 := Aside0.mk A20
 clear A20
 obtain rfl := Option.some.inj H
 go_enter Try.func134, Try.ntmps134
 go_wp2_with (first | ((with_reducible refine gate_callee (f := 151) rfl ?_); refine goesL_ (some 7) rfl rfl Try.func151 (by kernel_rfl) rfl #[.int .u64 a0] rfl (by (try simp only [List.map_toArray, List.map_cons, List.map_nil]); first | done | rfl | (simp only [List.length_drop, List.length_take]; rfl)) ?_; (with_reducible refine (bits_OnesCount64.calls a0 t180 _ A2.out).mono ?_); rintro e w' ⟨rfl, ⟨nd, rfl⟩⟩; refine ⟨_, rfl, ?_⟩))
 go_ret
 exact ⟨by first | rfl | (simp; done) | (simp [*]; done), by repeat (first | exact Drawn0.refl _ | apply Drawn0.step)⟩

/-! ### impl_IsPower: function 113 -/
def impl_IsPower.f (a0 : Int) : Option (Bool) := (impl_within.f a0 1 1048576).bind fun t181 => (if t181 = true then ((bits_OnesCount.f (IntKind.u64.wrap (a0))).bind fun t182 => (some (t182 == 1))) else (some false))
set_option maxHeartbeats 8000000 in
set_option maxRecDepth 100000 in
theorem impl_IsPower.calls (a0 : Int) (r : Bool) (w : World) (h : impl_IsPower.f a0 = some r) :
  Calls Try.prog 113 #[.int .i64 a0] w fun e w' => e = .returned (.bool r) ∧ Drawn0 w w' := by
 have H : ((impl_within.f a0 1 1048576).bind fun t181 => (if t181 = true then ((bits_OnesCount.f (IntKind.u64.wrap (a0))).bind fun t182 => (some (t182 == 1))) else (some false))) = some r := h
 clear h
 replace H := Option.bind_eq_some_iff.mp H
 obtain ⟨t181, A20, H⟩ := H
 replace H : (if t181 = true then ((bits_OnesCount.f (IntKind.u64.wrap (a0))).bind fun t182 => (some (t182 == 1))) else (some false)) = some r := H
 have A2 := Aside0.mk A20
 clear A20
 by_cases c3 : t181 = true
 ·subst c3
  have H1 : ((bits_OnesCount.f (IntKind.u64.wrap (a0))).bind fun t182 => (some (t182 == 1))) = some r := by rw [if_pos rfl] at H; exact H
  clear H
  have H := H1
  clear H1
  replace H := Option.bind_eq_some_iff.mp H
  obtain ⟨t182, A40, H⟩ := H
  replace H : (some (t182 == 1)) = some r := H
  have A4 := Aside0.mk A40
  clear A40
  obtain rfl := Option.some.inj H
  go_enter Try.func113, Try.ntmps113
  go_wp2_with (first | ((with_reducible refine gate_callee (f := 94) rfl ?_); refine goesL_ (some 4) rfl rfl Try.func94 (by kernel_rfl) rfl #[.int .i64 a0, .int .i64 1, .int .i64 1048576] rfl (by (try simp only [List.map_toArray, List.map_cons, List.map_nil]); first | done | rfl | (simp only [List.length_drop, List.length_take]; rfl)) ?_; (with_reducible refine (impl_within.calls a0 1 1048576 true _ A2.out).mono ?_); rintro e w' ⟨rfl, ⟨nd, rfl⟩⟩; refine ⟨_, rfl, ?_⟩) | (go_at_call 134; (with_reducible refine (bits_OnesCount.calls (IntKind.u64.wrap (a0)) t182 _ A4.out).mono ?_); rintro e w' ⟨rfl, ⟨nd, rfl⟩⟩))
  go_ret
  exact ⟨by first | rfl | (simp; done) | (simp [*]; done), by repeat (first | exact Drawn0.refl _ | apply Drawn0.step)⟩
 ·replace c3 := Bool.eq_false_iff.mpr c3
  subst c3
  have H1 : (some false) = some r := by rw [if_neg (show ¬ (false = true) by decide)] at H; exact H
  clear H
  have H := H1
  clear H1
  obtain rfl := Option.some.inj H
  go_enter Try.func113, Try.ntmps113
  go_wp2_with (first | ((with_reducible refine gate_callee (f := 94) rfl ?_); refine goesL_ (some 4) rfl rfl Try.func94 (by kernel_rfl) rfl #[.int .i64 a0, .int .i64 1, .int .i64 1048576] rfl (by (try simp only [List.map_toArray, List.map_cons, List.map_nil]); first | done | rfl | (simp only [List.length_drop, List.length_take]; rfl)) ?_; (with_reducible refine (impl_within.calls a0 1 1048576 false _ A2.out).mono ?_); rintro e w' ⟨rfl, ⟨nd, rfl⟩⟩; refine ⟨_, rfl, ?_⟩))
  go_ret
  exact ⟨by first | rfl | (simp; done) | (simp [*]; done), by repeat (first | exact Drawn0.refl _ | apply Drawn0.step)⟩

end Go.Proofs.Ytbbppknnkghkjaa.PFnExactWindowSize
