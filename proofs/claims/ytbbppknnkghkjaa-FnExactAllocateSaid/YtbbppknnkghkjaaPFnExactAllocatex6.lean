/- Printed: each Go function as a Lean function, with the proof that Go comes to just its answer (squeezed) -/
import Derived.Test.YtbbppknnkghkjaaPFnExactAllocatex0
import Derived.Test.YtbbppknnkghkjaaPFnExactAllocatex5
namespace Go.Proofs.Ytbbppknnkghkjaa.PFnExactAllocate
open Go.RowKit Go.Proofs.YtbbppknnkghkjaaW.PrintWords Go.Proofs.YtbbppknnkghkjaaW.PrintLast Go.Proofs.YtbbppknnkghkjaaW.PrintMore Go.Proofs.Ytbbppknnkghkjaa.Kit Go.Proofs.Ytbbppknnkghkjaa.Kit2 Go.Proofs.Ytbbppknnkghkjaa.Kit3
open Go.Proofs.YtbbppknnkghkjaaW.PrintWords.Kd (R_below R_mono R_far R_types R_elder' R_base R_lower R_new' R_newB R_lt R_after R_slice R_drew R_drewN R_alloc R_reads' R_bound R_append R_ne R_step C_below C_alloc C_drew C_drewN)
attribute [local go_sem] max2_int min2_int max_two min_two max_three min_three max_four min_four   -- for this text's walks alone
set_option linter.unusedVariables false
set_option linter.unusedSimpArgs false

/-! ### spec_l24Window: function 104 -/
mutual
def spec_l24Window.l0 : Nat → List (S50) → List Int → List Int → Int → Int → Option (Int)
 | 0, _, _, _, _, _ => none
 | k + 1, x0, x1, x7, x8, x9 => if x9 < (x7.length : Int) then (if 0 ≤ x9 then ((spec_l24Window.f k x0 x1 (rd x7 x9)).bind fun t162 => (spec_l24Window.l0 k x0 x1 x7 (wrap64 (x8 + t162)) (wrap64 (x9 + 1)))) else (none)) else (spec_l24Window.l1 k x8 1)
def spec_l24Window.l1 : Nat → Int → Int → Option (Int)
 | 0, _, _ => none
 | k + 1, x8, x10 => if x10 < x8 then (spec_l24Window.l1 k x8 (wrap64 (x10 * 2))) else (some (mn x10 (wrap64 (x8 * x10))))
def spec_l24Window.f : Nat → List (S50) → List Int → Int → Option (Int)
 | 0, _, _, _ => none
 | k + 1, l0, l1, a2 => if 0 ≤ a2 then (if a2 < (l0.length : Int) then (if ((rd_T50 l0 a2).f2) > 0 then (if a2 < (l1.length : Int) then (some (rd l1 a2)) else (none)) else ((spec_ChildrenOf.f k l0 a2).bind fun t158 => (spec_l24Window.l0 k l0 l1 t158 0 0))) else (none)) else (none)
end
set_option maxHeartbeats 8000000 in
set_option maxRecDepth 100000 in
theorem spec_l24Window.calls (k : Nat) : ∀ (A0 : Option Addr) (c0 : Nat) (l0 : List (S50)) (A1 : Option Addr) (c1 : Nat) (l1 : List Int) (a2 : Int) (r : Int) (w : World) (hr0 : Kd.C k50 w A0 l0.length l0) (hc0 : l0.length ≤ c0) (hr1 : Kd.C (Kd.int .i64) w A1 l1.length l1) (hc1 : l1.length ≤ c1) (h : spec_l24Window.f k l0 l1 a2 = some r),
  Calls Try.prog 104 #[.slice A0 l0.length c0, .slice A1 l1.length c1, .int .i64 a2] w fun e w' => e = .returned (.int .i64 r) ∧ Below w.heap.size w w' := by
 induction k using Nat.strongRecOn with
 | _ k ih =>
 intro A0 c0 l0 A1 c1 l1 a2 r w hr0 hc0 hr1 hc1 h
 cases k with
 | zero => exact absurd h (by simp [spec_l24Window.f])
 | succ k =>
 simp only [spec_l24Window.f] at h; have HR0 := Aside0.mk hr0; have HC0 := Aside0.mk hc0; clear hr0 hc0; have HR1 := Aside0.mk hr1; have HC1 := Aside0.mk hc1; clear hr1 hc1; have HB := Aside0.mk (Below.refl w.heap.size w); have H : (if 0 ≤ a2 then (if a2 < (l0.length : Int) then (if ((rd_T50 l0 a2).f2) > 0 then (if a2 < (l1.length : Int) then (some (rd l1 a2)) else (none)) else ((spec_ChildrenOf.f k l0 a2).bind fun t158 => (spec_l24Window.l0 k l0 l1 t158 0 0))) else (none)) else (none)) = some r := h; clear h
 by_cases c4 : 0 ≤ a2
 ·rw [if_pos c4] at H
  have c4b0 : decide (0 ≤ a2) = true := decide_eq_true c4; clear c4
  by_cases c5 : a2 < (l0.length : Int)
  ·rw [if_pos c5] at H
   have c5b0 : decide (a2 < (l0.length : Int)) = true := decide_eq_true c5; clear c5
   by_cases c6 : ((rd_T50 l0 a2).f2) > 0
   ·rw [if_pos c6] at H
    have c6b0 : decide (0 < ((rd_T50 l0 a2).f2)) = true := decide_eq_true c6; clear c6
    by_cases c7 : a2 < (l1.length : Int)
    ·rw [if_pos c7] at H
     have c7b0 : decide (a2 < (l1.length : Int)) = true := decide_eq_true c7; clear c7; obtain rfl := Option.some.inj H; have p156 : 0 ≤ (a2 : Int) := of_decide_eq_true as_; have q156 : a2 < (l0.length : Int) := of_decide_eq_true as_; obtain ⟨ad156, e156, hx156_0, hx156_1, hx156_2⟩ := at_T50 HR0.out a2 p156 q156; cases e156; replace p156 := eq_true p156; replace q156 := eq_true q156; have p157 : 0 ≤ (a2 : Int) := of_decide_eq_true as_; have q157 : a2 < (l1.length : Int) := of_decide_eq_true as_; obtain ⟨ad157, e157, hx157_0⟩ := Kd.at_int HR1.out a2 p157 q157; cases e157; replace p157 := eq_true p157; replace q157 := eq_true q157; go_enter Try.func104, Try.ntmps104; go_wp2; go_ret; exact ⟨er, bb⟩
    ·rw [if_neg c7] at H
     exact absurd H (by simp)
   ·rw [if_neg c6] at H
    have c6b0 : decide (0 < ((rd_T50 l0 a2).f2)) = false := decide_eq_false c6; clear c6; replace H := Option.bind_eq_some_iff.mp H; obtain ⟨t158, A80, H⟩ := H; replace H : (spec_l24Window.l0 k l0 l1 t158 0 0) = some r := H; have A8 := Aside0.mk A80; clear A80; have H' := Aside0.mk H; clear H; have p156 : 0 ≤ (a2 : Int) := of_decide_eq_true as_; have q156 : a2 < (l0.length : Int) := of_decide_eq_true as_; obtain ⟨ad156, e156, hx156_0, hx156_1, hx156_2⟩ := at_T50 HR0.out a2 p156 q156; cases e156; replace p156 := eq_true p156; replace q156 := eq_true q156; go_enter Try.func104, Try.ntmps104; go_wp2_with (first | ((with_reducible refine gate_callee (f := 41) rfl ?_); refine goesL_ (some 23) rfl rfl Try.func41 (by kernel_rfl) rfl #[.slice (some ad156) l0.length c0, .int .i64 a2] rfl ms ?_; (with_reducible refine (spec_ChildrenOf.calls k _ _ l0 a2 t158 _ ?side1 ?side2 A8.out).mono ?_); (case side1 => repeat (first | exact HR0.out | (with_reducible refine C_alloc ?_ _) | (with_reducible refine C_drewN ?_ _) | (with_reducible refine C_drew ?_))); (case side2 => exact HC0.out); rintro e w9 ⟨v159, rfl, ho0, hb⟩; refine ⟨_, rfl, ?_⟩; have t_ := fc2 (R_lower ho0 (below_size bb)) (below_step bb hb); clear HB; obtain ⟨HO160, HB⟩ := t_; (try clear hb); (try clear ho0)))
    go_loopg [8, 9] k (fun kq v8 v9 w' => ∃ (x8_1 : Int) (x9_1 : Int), v8 = .int .i64 x8_1 ∧ v9 = .int .i64 x9_1 ∧ Aside0 (spec_l24Window.l0 kq l0 l1 t158 x8_1 x9_1 = some r) ∧ Aside0 (kq ≤ k) ∧ Aside0 (Kd.R (Kd.int .i64) 3 w' w.heap.size (fun _ => True) v159 t158) ∧ Aside0 (Below w.heap.size w w'))
    case atStart => exact ⟨(0), (0), sd_, sd_, H', ⟨Nat.le_refl _⟩, ⟨(ra HO160.out)⟩, ⟨bb⟩⟩
    case round =>
     clear H'; (try clear c1); (try clear p1); (try clear q1); (try clear hx1); (try clear p2); (try clear c4); (try clear c4b0); (try clear c5); (try clear c5b0); (try clear c6); (try clear c6b0); (try clear c7); (try clear c7b0); (try clear hx156_0); (try clear hx156_1); (try clear hx156_2); (try clear hx157_0); (try clear p156); (try clear p157); (try clear q156); (try clear q157); obtain ⟨x8_1, x9_1, rfl, rfl, HA, HK1, HO_7, HB⟩ := hrel
     cases gk with
     | zero => exact absurd HA.out (by simp [spec_l24Window.l0])
     | succ k1 =>
      have H := HA.out; clear HA; simp only [spec_l24Window.l0] at H
      by_cases c10 : x9_1 < (t158.length : Int)
      ·rw [if_pos c10] at H
       have c10b0 : decide (x9_1 < (t158.length : Int)) = true := decide_eq_true c10; clear c10
       by_cases c11 : 0 ≤ x9_1
       ·rw [if_pos c11] at H
        have c11b0 : decide (0 ≤ x9_1) = true := decide_eq_true c11; clear c11; replace H := Option.bind_eq_some_iff.mp H; obtain ⟨t162, A120, H⟩ := H; replace H : (spec_l24Window.l0 k1 l0 l1 t158 (wrap64 (x8_1 + t162)) (wrap64 (x9_1 + 1))) = some r := H; have A12 := Aside0.mk A120; clear A120; have H' := Aside0.mk H; clear H; obtain ⟨Ao13, co13, eo13⟩ := R_slice HO_7.out; subst eo13; have p161 : 0 ≤ (x9_1 : Int) := of_decide_eq_true as_; have q161 : x9_1 < (t158.length : Int) := of_decide_eq_true as_; obtain ⟨ad161, e161, hx161_0⟩ := Kd.at_int (R_reads' HO_7.out).2.2 x9_1 p161 q161; cases e161; replace p161 := eq_true p161; replace q161 := eq_true q161; go_wp2_with (first | ((with_reducible refine gate_callee (f := 104) rfl ?_); refine goesL_ (some 37) rfl rfl Try.func104 (by kernel_rfl) rfl #[.slice (some ad156) l0.length c0, .slice A1 l1.length c1, .int .i64 (rd t158 x9_1)] rfl ms ?_; (with_reducible refine (ih k1 (by have := HK1.out; omega) _ _ l0 _ _ l1 (rd t158 x9_1) t162 _ ?side1 ?side2 ?side3 ?side4 A12.out).mono ?_); (case side1 => exact kc); (case side2 => exact HC0.out); (case side3 => exact kc); (case side4 => exact HC1.out); rintro e w14 ⟨rfl, hb⟩; refine ⟨_, rfl, ?_⟩; have t_ := fc2 (R_below (ra HO_7.out) hb) (below_step bb hb); clear HO_7 HB; obtain ⟨HO_7, HB⟩ := t_; (try clear hb)))
        go_roundg k1
        case measure => have := HK1.out; omega
        case rel => exact ⟨(wrap64 (x8_1 + t162)), (wrap64 (x9_1 + 1)), sd_, sd_, H', ⟨by have := HK1.out; omega⟩, ⟨(ra HO_7.out)⟩, ⟨bb⟩⟩
       ·rw [if_neg c11] at H
        exact absurd H (by simp)
      ·rw [if_neg c10] at H
       have c10b0 : decide (x9_1 < (t158.length : Int)) = false := decide_eq_false c10; clear c10; have H' := Aside0.mk H; clear H; obtain ⟨Ao15, co15, eo15⟩ := R_slice HO_7.out; subst eo15; go_wp2
       go_loopg [10] k1 (fun kq v10 w' => ∃ (x10_2 : Int), v10 = .int .i64 x10_2 ∧ Aside0 (spec_l24Window.l1 kq x8_1 x10_2 = some r) ∧ Aside0 (kq ≤ k1) ∧ Aside0 (Below w.heap.size w w'))
       case atStart => exact ⟨(1), sd_, H', ⟨Nat.le_refl _⟩, ⟨bb⟩⟩
       case round =>
        clear H'; (try clear c1); (try clear p1); (try clear q1); (try clear hx1); (try clear p2); (try clear c4); (try clear c4b0); (try clear c5); (try clear c5b0); (try clear c6); (try clear c6b0); (try clear p6); (try clear c7); (try clear c7b0); (try clear c10); (try clear c10b0); (try clear c11); (try clear c11b0); (try clear p15); (try clear q15); (try clear hx15); (try clear hx156_0); (try clear hx156_1); (try clear hx156_2); (try clear hx157_0); (try clear hx161_0); (try clear p1); (try clear p156); (try clear p157); (try clear p161); (try clear p2); (try clear q1); (try clear q156); (try clear q157); (try clear q161); obtain ⟨x10_2, rfl, HA, HK2, HB⟩ := hrel
        cases gk with
        | zero => exact absurd HA.out (by simp [spec_l24Window.l1])
        | succ k2 =>
         have H := HA.out; clear HA; simp only [spec_l24Window.l1] at H
         by_cases c16 : x10_2 < x8_1
         ·rw [if_pos c16] at H
          have c16b0 : decide (x10_2 < x8_1) = true := decide_eq_true c16; clear c16; have H' := Aside0.mk H; clear H; go_wp2
          go_roundg k2
          case measure => have := HK1.out; have := HK2.out; omega
          case rel => exact ⟨(wrap64 (x10_2 * 2)), sd_, H', ⟨by have := HK1.out; have := HK2.out; omega⟩, ⟨bb⟩⟩
         ·rw [if_neg c16] at H
          have c16b0 : decide (x10_2 < x8_1) = false := decide_eq_false c16; clear c16
          obtain ⟨ji17, hji17⟩ : ∃ j_ : Int, (mn x10_2 (wrap64 (x8_1 * x10_2))) = j_ := ⟨_, rfl⟩
          replace H : (some ji17) = some r := by first | (rw [hji17] at H; exact H) | (simp only [hji17] at H ⊢; exact H)
          have hji17_ : (if (wrap64 (x8_1 * x10_2)) < x10_2 then (wrap64 (x8_1 * x10_2)) else x10_2) = ji17 := hji17; obtain rfl := Option.some.inj H; go_wp2; go_ret; exact ⟨by first | rfl | (simp [errW_none, errW_some] <;> rfl) | (simp only [← hji17]; first | rfl | (simp [errW_none, errW_some] <;> rfl)) | (simp [*, errW_none, errW_some] <;> rfl), bb⟩
  ·rw [if_neg c5] at H
   exact absurd H (by simp)
 ·rw [if_neg c4] at H
  exact absurd H (by simp)

/-! ### spec_l24Place: function 109 -/
mutual
def spec_l24Place.l0 : Nat → List (S50) → List (S73) → Int → Int → Int → Option ((List (S73)))
 | 0, _, _, _, _, _ => none
 | k + 1, x0, x1, x2, x6, x7 => if x7 > 0 then (spec_l24Place.l1 k x0 x1 x2 x6 x7 1) else (spec_l24Place.l2 k x0 x1 x2 1)
def spec_l24Place.l1 : Nat → List (S50) → List (S73) → Int → Int → Int → Int → Option ((List (S73)))
 | 0, _, _, _, _, _, _ => none
 | k + 1, x0, x1, x2, x6, x7, x8 => if x8 < (x0.length : Int) then (if 0 ≤ x8 then (if ((rd_T50 x0 x8).f0) = x2 then (if x8 < (x1.length : Int) then (if ((rd_T73 x1 x8).f0) = x7 then (spec_l24Place.l1 k x0 (x1.set (x8 : Int).toNat (⟨(rd_T73 x1 x8).f0, x6⟩ : S73)) x2 (wrap64 (x6 + x7)) x7 (wrap64 (x8 + 1))) else (spec_l24Place.l1 k x0 x1 x2 x6 x7 (wrap64 (x8 + 1)))) else (none)) else (spec_l24Place.l1 k x0 x1 x2 x6 x7 (wrap64 (x8 + 1)))) else (none)) else (spec_l24Place.l0 k x0 x1 x2 x6 (wrap64 (Int.tdiv x7 2)))
def spec_l24Place.l2 : Nat → List (S50) → List (S73) → Int → Int → Option ((List (S73)))
 | 0, _, _, _, _ => none
 | k + 1, x0, x1, x2, x9 => if x9 < (x0.length : Int) then (if 0 ≤ x9 then (if ((rd_T50 x0 x9).f0) = x2 then (if ((rd_T50 x0 x9).f2) = 0 then (if x9 < (x1.length : Int) then (if ((rd_T73 x1 x9).f0) > 0 then ((spec_l24Place.f k x0 x1 x9).bind fun t170 => (spec_l24Place.l2 k x0 t170 x2 (wrap64 (x9 + 1)))) else (spec_l24Place.l2 k x0 x1 x2 (wrap64 (x9 + 1)))) else (none)) else (spec_l24Place.l2 k x0 x1 x2 (wrap64 (x9 + 1)))) else (spec_l24Place.l2 k x0 x1 x2 (wrap64 (x9 + 1)))) else (none)) else (some x1)
def spec_l24Place.f : Nat → List (S50) → List (S73) → Int → Option ((List (S73)))
 | 0, _, _, _ => none
 | k + 1, l0, l1, a2 => if 0 ≤ a2 then (if a2 < (l1.length : Int) then (spec_l24Place.l0 k l0 l1 a2 ((rd_T73 l1 a2).f1) 65536) else (none)) else (none)
end
set_option maxHeartbeats 8000000 in
set_option maxRecDepth 100000 in
theorem spec_l24Place.calls (k : Nat) : ∀ (A0 : Option Addr) (c0 : Nat) (l0 : List (S50)) (P1_ : Nat → Prop) (u9000_ : Value) (l1 : List (S73)) (a2 : Int) (r : List (S73)) (w0 w : World) (hB : Below w0.heap.size w0 w) (hr0 : ∀ W_, Kept w W_ (fun k_ => P1_ k_) → Kd.C k50 W_ A0 l0.length l0) (hc0 : l0.length ≤ c0) (ho1 : Kd.R k73 73 w w0.heap.size P1_ u9000_ l1) (h : spec_l24Place.f k l0 l1 a2 = some r),
  Calls Try.prog 109 #[.slice A0 l0.length c0, u9000_, .int .i64 a2] w fun e w' => e = .returned (.tuple #[]) ∧ Kd.R k73 73 w' w0.heap.size (fun k_ => (P1_ k_ ∨ w.heap.size ≤ k_)) u9000_ r ∧ Below w0.heap.size w0 w' ∧ Kept w w' (fun k_ => P1_ k_) := by
 induction k using Nat.strongRecOn with
 | _ k ih =>
 intro A0 c0 l0 P1_ u9000_ l1 a2 r w0 w hB hr0 hc0 ho1 h
 cases k with
 | zero => exact absurd h (by simp [spec_l24Place.f])
 | succ k =>
 simp only [spec_l24Place.f] at h; have HR0 := Aside0.mk hr0; have HC0 := Aside0.mk hc0; clear hr0 hc0; have HO1 := Aside0.mk (show Kd.R k73 73 w w0.heap.size (fun k_ => (P1_ k_ ∨ w.heap.size ≤ k_)) u9000_ l1 from R_mono ho1 (fun k_ hk => (.inl hk))); have HK := Aside0.mk (Kept.refl w (fun k_ => P1_ k_)); have HW0 := Aside0.mk hB.size; have HB := Aside0.mk hB; clear hB; have H : (if 0 ≤ a2 then (if a2 < (l1.length : Int) then (spec_l24Place.l0 k l0 l1 a2 ((rd_T73 l1 a2).f1) 65536) else (none)) else (none)) = some r := h; clear h
 by_cases c4 : 0 ≤ a2
 ·rw [if_pos c4] at H
  have c4b0 : decide (0 ≤ a2) = true := decide_eq_true c4; clear c4
  by_cases c5 : a2 < (l1.length : Int)
  ·rw [if_pos c5] at H
   have c5b0 : decide (a2 < (l1.length : Int)) = true := decide_eq_true c5; clear c5; have H' := Aside0.mk H; clear H; obtain ⟨Ao6, co6, eo6⟩ := R_slice HO1.out; subst eo6; have p163 : 0 ≤ (a2 : Int) := of_decide_eq_true as_; have q163 : a2 < (l1.length : Int) := of_decide_eq_true as_; obtain ⟨ad163, e163, hx163_0, hx163_1⟩ := at_T73 (R_reads' HO1.out).2.2 a2 p163 q163; cases e163; obtain ⟨gh_, rfl⟩ := Kd.R_head HO1.out; (try simp only [add_plain] at hx163_0 hx163_1); replace p163 := eq_true p163; replace q163 := eq_true q163; go_enter Try.func109, Try.ntmps109; go_wp2
   go_loopg [6, 7] k (fun kq v6 v7 w' => ∃ (x1_1 : List (S73)) (x6_1 : Int) (x7_1 : Int), v6 = .int .i64 x6_1 ∧ v7 = .int .i64 x7_1 ∧ Aside0 (spec_l24Place.l0 kq l0 x1_1 a2 x6_1 x7_1 = some r) ∧ Aside0 (kq ≤ k) ∧ Aside0 (Kd.R k73 73 w' w0.heap.size (fun k_ => (P1_ k_ ∨ w.heap.size ≤ k_)) (.slice (some (⟨gh_, 0, none⟩ : Addr)) l1.length co6) x1_1) ∧ Aside0 (Kept w w' (fun k_ => P1_ k_)) ∧ Aside0 (Below w0.heap.size w0 w'))
   case atStart => exact ⟨(l1), ((rd_T73 l1 a2).f1), (65536), sd_, sd_, H', ⟨Nat.le_refl _⟩, ⟨(ra HO1.out)⟩, ⟨by repeat (first | (with_reducible first | exact HK.out | apply Kept.alloc | apply Kept.drewN | apply Kept.drew) | exact HK.out)⟩, ⟨bb⟩⟩
   case round =>
    clear H'; (try clear c1); (try clear p1); (try clear q1); (try clear hx1); (try clear p2); (try clear c4); (try clear c4b0); (try clear c5); (try clear c5b0); (try clear hx163_0); (try clear hx163_1); (try clear p163); (try clear q163); obtain ⟨x1_1, x6_1, x7_1, rfl, rfl, HA, HK1, HO_1, HK, HB⟩ := hrel; have hl1_1 := (R_reads' HO_1.out).1; rw [hl1_1] at HO_1; (try simp only [hl1_1])
    cases gk with
    | zero => exact absurd HA.out (by simp [spec_l24Place.l0])
    | succ k1 =>
     have H := HA.out; clear HA; simp only [spec_l24Place.l0] at H
     by_cases c7 : x7_1 > 0
     ·rw [if_pos c7] at H
      have c7b0 : decide (0 < x7_1) = true := decide_eq_true c7; clear c7; have H' := Aside0.mk H; clear H; go_wp2
      go_loopg [6, 8] k1 (fun kq v6 v8 w' => ∃ (x1_2 : List (S73)) (x6_2 : Int) (x8_2 : Int), v6 = .int .i64 x6_2 ∧ v8 = .int .i64 x8_2 ∧ Aside0 (spec_l24Place.l1 kq l0 x1_2 a2 x6_2 x7_1 x8_2 = some r) ∧ Aside0 (kq ≤ k1) ∧ Aside0 (Kd.R k73 73 w' w0.heap.size (fun k_ => (P1_ k_ ∨ w.heap.size ≤ k_)) (.slice (some (⟨gh_, 0, none⟩ : Addr)) x1_1.length co6) x1_2) ∧ Aside0 (Kept w w' (fun k_ => P1_ k_)) ∧ Aside0 (Below w0.heap.size w0 w'))
      case atStart => exact ⟨(x1_1), (x6_1), (1), sd_, sd_, H', ⟨Nat.le_refl _⟩, ⟨by (try simp only [hl1_1]); (with_reducible repeat (first | apply R_alloc | apply R_drewN | apply R_drew)); exact HO_1.out⟩, ⟨by repeat (first | (with_reducible first | exact HK.out | apply Kept.alloc | apply Kept.drewN | apply Kept.drew) | exact HK.out)⟩, ⟨bb⟩⟩
      case round =>
       clear H'; (try clear c1); (try clear p1); (try clear q1); (try clear hx1); (try clear p2); (try clear c4); (try clear c4b0); (try clear c5); (try clear c5b0); (try clear c7); (try clear c7b0); (try clear hx163_0); (try clear hx163_1); (try clear p1); (try clear p163); (try clear p2); (try clear q1); (try clear q163); obtain ⟨x1_2, x6_2, x8_2, rfl, rfl, HA, HK2, HO_1, HK, HB⟩ := hrel; have hl1_2 := (R_reads' HO_1.out).1; rw [hl1_2] at HO_1; (try simp only [hl1_2])
       cases gk with
       | zero => exact absurd HA.out (by simp [spec_l24Place.l1])
       | succ k2 =>
        have H := HA.out; clear HA; simp only [spec_l24Place.l1] at H
        by_cases c8 : x8_2 < (l0.length : Int)
        ·rw [if_pos c8] at H
         have c8b0 : decide (x8_2 < (l0.length : Int)) = true := decide_eq_true c8; (try (have c8h0 := c8b0; simp only [hl1_1, hl1_2] at c8h0)); clear c8
         by_cases c9 : 0 ≤ x8_2
         ·rw [if_pos c9] at H
          have c9b0 : decide (0 ≤ x8_2) = true := decide_eq_true c9; clear c9
          by_cases c10 : ((rd_T50 l0 x8_2).f0) = a2
          ·rw [if_pos c10] at H
           have c10b0 : (((rd_T50 l0 x8_2).f0) == a2) = true := beq_iff_eq.mpr c10; have c10b1 : (((rd_T50 l0 x8_2).f0) != a2) = false := bne_eq_false_iff_eq.mpr c10; clear c10
           by_cases c11 : x8_2 < (x1_2.length : Int)
           ·rw [if_pos c11] at H
            have c11b0 : decide (x8_2 < (x1_2.length : Int)) = true := decide_eq_true c11; (try (have c11h0 := c11b0; simp only [hl1_1, hl1_2] at c11h0)); clear c11
            by_cases c12 : ((rd_T73 x1_2 x8_2).f0) = x7_1
            ·rw [if_pos c12] at H
             have c12b0 : (((rd_T73 x1_2 x8_2).f0) == x7_1) = true := beq_iff_eq.mpr c12; have c12b1 : (((rd_T73 x1_2 x8_2).f0) != x7_1) = false := bne_eq_false_iff_eq.mpr c12; clear c12
             obtain ⟨y166, hy166⟩ : ∃ y_ : List (S73), y_ = (x1_2.set (x8_2 : Int).toNat (⟨(rd_T73 x1_2 x8_2).f0, x6_2⟩ : S73)) := ⟨_, rfl⟩
             (replace H : (spec_l24Place.l1 k2 l0 y166 a2 (wrap64 (x6_2 + x7_1)) x7_1 (wrap64 (x8_2 + 1))) = some r := by first | (rw [hy166]; with_reducible exact H) | (have H2_ := bs_ H; rw [hy166]; with_reducible exact H2_) | (have H2_ := bs_ H; with_reducible exact H2_) | with_reducible exact H | (rw [hy166]; exact H) | exact H); have Ny166 := Aside0.mk hy166; clear hy166; have H' := Aside0.mk H; clear H; have p164 : 0 ≤ (x8_2 : Int) := of_decide_eq_true as_; have q164 : x8_2 < (l0.length : Int) := of_decide_eq_true as_; obtain ⟨ad164, e164, hx164_0, hx164_1, hx164_2⟩ := at_T50 (Kd.C_kept_now HR0.out HK.out) x8_2 p164 q164; cases e164; replace p164 := eq_true p164; replace q164 := eq_true q164; have p165 : 0 ≤ (x8_2 : Int) := of_decide_eq_true as_; have q165 : x8_2 < (x1_2.length : Int) := of_decide_eq_true as_; obtain ⟨ad165, e165, hx165_0, hx165_1⟩ := at_T73 (R_reads' HO_1.out).2.2 x8_2 p165 q165
             obtain rfl : (⟨gh_, 0, none⟩ : Addr) = ad165 := (by injection e165)
             (try simp only [add_plain] at hx165_0 hx165_1)
             replace p165 := eq_true p165; replace q165 := eq_true q165; have p13 : 0 ≤ (x8_2 : Int) := of_decide_eq_true as_; have q13 : (x8_2 : Int) < ((x1_2.length : Int) : Int) := of_decide_eq_true as_; obtain ⟨go13, co13, eo13, gb13, gl13, cl13, HG13⟩ := Kd.R_form HO_1.out (by omega); (first | cases eo13 | (injection eo13 with ea_ en_ ec_; (first | subst ea_ | (injection ea_ with ea_; subst ea_)); subst ec_; clear en_)); have GB13 := Aside0.mk gb13; have GG13 := Aside0.mk HG13; clear gb13 gl13 HG13; have HMgo13 := Aside0.mk (show (P1_ gh_ ∨ w.heap.size ≤ gh_) from (HO_1.out.1 _ rfl)); (first | simp only [add_plain] at hx163_0 | skip); (first | simp only [add_plain] at hx163_1 | skip); (first | simp only [add_plain] at hx165_0 | skip); (first | simp only [add_plain] at hx165_1 | skip); obtain ⟨ce13, hcl13, hM13, hcc13, hfr13⟩ := Kd.R_elem HO_1.out z73 (x8_2 : Int) p13 q13; obtain rfl := k73_openM hM13; have hx13_0 : wr.cell? ⟨gh_, (x8_2 : Int).toNat * 2, none⟩ = some (.int .i64 ((rd_T73 x1_2 x8_2).f0)) := hcc13 0 _ rfl; have hx13_1 : wr.cell? ⟨gh_, (x8_2 : Int).toNat * 2 + 1, none⟩ = some (.int .i64 ((rd_T73 x1_2 x8_2).f1)) := hcc13 1 _ rfl; have hf13_0 : wr.frozen? ⟨gh_, (x8_2 : Int).toNat * 2, none⟩ = false := hfr13 0; have hf13_1 : wr.frozen? ⟨gh_, (x8_2 : Int).toNat * 2 + 1, none⟩ = false := hfr13 1; clear hcl13 hcc13 hfr13 hM13; replace p13 := eq_true p13; replace q13 := eq_true q13; have HX14 := Aside0.mk (show Kd.R k73 73 wr w0.heap.size (fun k_ => (P1_ k_ ∨ w.heap.size ≤ k_)) (.slice (some ⟨gh_, 0, none⟩) x1_2.length co6) x1_2 from (ra HO_1.out)); obtain ⟨ce14, hcl14, hM14, hcc14, hfr14⟩ := Kd.R_elem HX14.out z73 (x8_2 : Int) (of_decide_eq_true as_) (by have h_ : (x8_2 : Int) < ((x1_2.length : Int) : Int) := of_decide_eq_true as_; first | exact h_ | (have e_ := (R_reads' HO_1.out).1; omega) | simpa using h_); obtain rfl := k73_openM hM14; have HP14 := Kd.R_seg HX14.out (x8_2 : Int) (of_decide_eq_true as_) (by have h_ : (x8_2 : Int) < ((x1_2.length : Int) : Int) := of_decide_eq_true as_; first | exact h_ | (have e_ := (R_reads' HO_1.out).1; omega) | simpa using h_) (seg := [.int .i64 x6_2]) (j := 1) hcl14 hcc14 (show 2 ≤ 2 from by decide) (x' := (⟨(rd_T73 x1_2 x8_2).f0, x6_2⟩ : S73)) (k73_mkM _ _ _ (⟨(rd_T73 x1_2 x8_2).f0, x6_2⟩ : S73) ) (fun _ hk => hk); have hx14_1 := hcc14 1 _ rfl; (try simp only [show (k73).sz = 2 from rfl, Nat.mul_one, Nat.add_zero] at hx14_1); have hf14_1 := hfr14 1; (try simp only [show (k73).sz = 2 from rfl, Nat.mul_one, Nat.add_zero] at hf14_1); clear hcl14 hcc14 hfr14 hM14; go_wp2_with (first | ((with_reducible refine gate_store (t := 3) (p := 45) rfl ?_); refine store_event (t := 3) (p := 45) (v := ?vo_w15) (w1 := (wr.setCell ⟨gh_, (x8_2 : Int).toNat * 2 + 1, none⟩ (.int .i64 x6_2))) ?hg ?ho ?hn ?hr ?_; (case ho => rfl); (case hg => rfl); (case hn => rfl); (case hr => exact hr_); intro w15 hw; have hg : wr.grownBy w15 (some gh_) := (by rw [hw]; exact HP14.2); have hp_ : Kd.R k73 73 w15 w0.heap.size (fun k_ => (P1_ k_ ∨ w.heap.size ≤ k_)) (.slice (some ⟨gh_, 0, none⟩) x1_2.length co6) y166 := (by rw [hw, Ny166.out]; exact HP14.1); clear HP14; have t_ := fc3 (hp_) ((by rw [hw]; exact below_set (HB.out) GB13.out : Below w0.heap.size w0 w15)) (Kept.of_grown (S := (fun k_ => P1_ k_)) hg (by repeat (first | (with_reducible first | exact HK.out | apply Kept.alloc | apply Kept.drewN | apply Kept.drew) | exact HK.out)) (fun k_ e_ => (HO_1.out.1 k_ e_))); clear HO_1 HB HK; obtain ⟨HO_1, HB, HK⟩ := t_; clear hg hw hp_)); (try simp only [← hl1_2])
             go_roundg k2
             case measure => have := HK1.out; have := HK2.out; omega
             case rel => exact ⟨(y166), (wrap64 (x6_2 + x7_1)), (wrap64 (x8_2 + 1)), sd_, sd_, H', ⟨by have := HK1.out; have := HK2.out; omega⟩, ⟨by (try simp only [hl1_1]); (try simp only [hl1_2]); (with_reducible repeat (first | apply R_alloc | apply R_drewN | apply R_drew)); exact HO_1.out⟩, ⟨by repeat (first | (with_reducible first | exact HK.out | apply Kept.alloc | apply Kept.drewN | apply Kept.drew) | exact HK.out)⟩, ⟨bb⟩⟩
            ·rw [if_neg c12] at H
             have c12b0 : (((rd_T73 x1_2 x8_2).f0) == x7_1) = false := beq_eq_false_iff_ne.mpr c12; have c12b1 : (((rd_T73 x1_2 x8_2).f0) != x7_1) = true := bne_iff_ne.mpr c12; have H' := Aside0.mk H; clear H; have p164 : 0 ≤ (x8_2 : Int) := of_decide_eq_true as_; have q164 : x8_2 < (l0.length : Int) := of_decide_eq_true as_; obtain ⟨ad164, e164, hx164_0, hx164_1, hx164_2⟩ := at_T50 (Kd.C_kept_now HR0.out HK.out) x8_2 p164 q164; cases e164; replace p164 := eq_true p164; replace q164 := eq_true q164; have p165 : 0 ≤ (x8_2 : Int) := of_decide_eq_true as_; have q165 : x8_2 < (x1_2.length : Int) := of_decide_eq_true as_; obtain ⟨ad165, e165, hx165_0, hx165_1⟩ := at_T73 (R_reads' HO_1.out).2.2 x8_2 p165 q165
             obtain rfl : (⟨gh_, 0, none⟩ : Addr) = ad165 := (by injection e165)
             (try simp only [add_plain] at hx165_0 hx165_1)
             replace p165 := eq_true p165; replace q165 := eq_true q165; go_wp2; (try simp only [← hl1_2])
             go_roundg k2
             case measure => have := HK1.out; have := HK2.out; omega
             case rel => exact ⟨(x1_2), (x6_2), (wrap64 (x8_2 + 1)), sd_, sd_, H', ⟨by have := HK1.out; have := HK2.out; omega⟩, ⟨by (try simp only [hl1_1]); (try simp only [hl1_2]); (with_reducible repeat (first | apply R_alloc | apply R_drewN | apply R_drew)); exact HO_1.out⟩, ⟨by repeat (first | (with_reducible first | exact HK.out | apply Kept.alloc | apply Kept.drewN | apply Kept.drew) | exact HK.out)⟩, ⟨bb⟩⟩
           ·rw [if_neg c11] at H
            exact absurd H (by simp)
          ·rw [if_neg c10] at H
           have c10b0 : (((rd_T50 l0 x8_2).f0) == a2) = false := beq_eq_false_iff_ne.mpr c10; have c10b1 : (((rd_T50 l0 x8_2).f0) != a2) = true := bne_iff_ne.mpr c10; have H' := Aside0.mk H; clear H; have p164 : 0 ≤ (x8_2 : Int) := of_decide_eq_true as_; have q164 : x8_2 < (l0.length : Int) := of_decide_eq_true as_; obtain ⟨ad164, e164, hx164_0, hx164_1, hx164_2⟩ := at_T50 (Kd.C_kept_now HR0.out HK.out) x8_2 p164 q164; cases e164; replace p164 := eq_true p164; replace q164 := eq_true q164; go_wp2; (try simp only [← hl1_2])
           go_roundg k2
           case measure => have := HK1.out; have := HK2.out; omega
           case rel => exact ⟨(x1_2), (x6_2), (wrap64 (x8_2 + 1)), sd_, sd_, H', ⟨by have := HK1.out; have := HK2.out; omega⟩, ⟨by (try simp only [hl1_1]); (try simp only [hl1_2]); (with_reducible repeat (first | apply R_alloc | apply R_drewN | apply R_drew)); exact HO_1.out⟩, ⟨by repeat (first | (with_reducible first | exact HK.out | apply Kept.alloc | apply Kept.drewN | apply Kept.drew) | exact HK.out)⟩, ⟨bb⟩⟩
         ·rw [if_neg c9] at H
          exact absurd H (by simp)
        ·rw [if_neg c8] at H
         have c8b0 : decide (x8_2 < (l0.length : Int)) = false := decide_eq_false c8; (try (have c8h0 := c8b0; simp only [hl1_1, hl1_2] at c8h0)); clear c8; have H' := Aside0.mk H; clear H; go_wp2; (try simp only [← hl1_1, ← hl1_2])
         go_roundg k2
         case measure => have := HK1.out; have := HK2.out; omega
         case rel => exact ⟨(x1_2), (x6_2), (wrap64 (Int.tdiv x7_1 2)), sd_, sd_, H', ⟨by have := HK1.out; have := HK2.out; omega⟩, ⟨by (try simp only [hl1_1]); (try simp only [hl1_2]); (with_reducible repeat (first | apply R_alloc | apply R_drewN | apply R_drew)); exact HO_1.out⟩, ⟨by repeat (first | (with_reducible first | exact HK.out | apply Kept.alloc | apply Kept.drewN | apply Kept.drew) | exact HK.out)⟩, ⟨bb⟩⟩
     ·rw [if_neg c7] at H
      have c7b0 : decide (0 < x7_1) = false := decide_eq_false c7; clear c7; have H' := Aside0.mk H; clear H; go_wp2
      go_loopg [9] k1 (fun kq v9 w' => ∃ (x1_2 : List (S73)) (x9_2 : Int), v9 = .int .i64 x9_2 ∧ Aside0 (spec_l24Place.l2 kq l0 x1_2 a2 x9_2 = some r) ∧ Aside0 (kq ≤ k1) ∧ Aside0 (Kd.R k73 73 w' w0.heap.size (fun k_ => (P1_ k_ ∨ w.heap.size ≤ k_)) (.slice (some (⟨gh_, 0, none⟩ : Addr)) x1_1.length co6) x1_2) ∧ Aside0 (Kept w w' (fun k_ => P1_ k_)) ∧ Aside0 (Below w0.heap.size w0 w'))
      case atStart => exact ⟨(x1_1), (1), sd_, H', ⟨Nat.le_refl _⟩, ⟨by (try simp only [hl1_1]); (with_reducible repeat (first | apply R_alloc | apply R_drewN | apply R_drew)); exact HO_1.out⟩, ⟨by repeat (first | (with_reducible first | exact HK.out | apply Kept.alloc | apply Kept.drewN | apply Kept.drew) | exact HK.out)⟩, ⟨bb⟩⟩
      case round =>
       clear H'; (try clear c1); (try clear p1); (try clear q1); (try clear hx1); (try clear p2); (try clear c4); (try clear c4b0); (try clear c5); (try clear c5b0); (try clear p6); (try clear c7); (try clear c7b0); (try clear c8); (try clear c8b0); (try clear c9); (try clear c9b0); (try clear c10); (try clear c10b0); (try clear c10b1); (try clear c11); (try clear c11b0); (try clear c12); (try clear c12b0); (try clear c12b1); (try clear c13); (try clear p13); (try clear q13); (try clear hx13); (try clear hf13); (try clear c14); (try clear hx14); (try clear hf14); (try clear hx13_0); (try clear hx13_1); (try clear hx14_1); (try clear hx163_0); (try clear hx163_1); (try clear hx164_0); (try clear hx164_1); (try clear hx164_2); (try clear hx165_0); (try clear hx165_1); (try clear p1); (try clear p13); (try clear p163); (try clear p164); (try clear p165); (try clear p2); (try clear q1); (try clear q13); (try clear q163); (try clear q164); (try clear q165); obtain ⟨x1_2, x9_2, rfl, HA, HK2, HO_1, HK, HB⟩ := hrel; have hl1_2 := (R_reads' HO_1.out).1; rw [hl1_2] at HO_1; (try simp only [hl1_2])
       cases gk with
       | zero => exact absurd HA.out (by simp [spec_l24Place.l2])
       | succ k2 =>
        have H := HA.out; clear HA; simp only [spec_l24Place.l2] at H
        by_cases c16 : x9_2 < (l0.length : Int)
        ·rw [if_pos c16] at H
         have c16b0 : decide (x9_2 < (l0.length : Int)) = true := decide_eq_true c16; (try (have c16h0 := c16b0; simp only [hl1_1, hl1_2] at c16h0)); clear c16
         by_cases c17 : 0 ≤ x9_2
         ·rw [if_pos c17] at H
          have c17b0 : decide (0 ≤ x9_2) = true := decide_eq_true c17; clear c17
          by_cases c18 : ((rd_T50 l0 x9_2).f0) = a2
          ·rw [if_pos c18] at H
           have c18b0 : (((rd_T50 l0 x9_2).f0) == a2) = true := beq_iff_eq.mpr c18; have c18b1 : (((rd_T50 l0 x9_2).f0) != a2) = false := bne_eq_false_iff_eq.mpr c18; clear c18
           by_cases c19 : ((rd_T50 l0 x9_2).f2) = 0
           ·rw [if_pos c19] at H
            have c19b0 : (((rd_T50 l0 x9_2).f2) == 0) = true := beq_iff_eq.mpr c19; have c19b1 : (((rd_T50 l0 x9_2).f2) != 0) = false := bne_eq_false_iff_eq.mpr c19; clear c19
            by_cases c20 : x9_2 < (x1_2.length : Int)
            ·rw [if_pos c20] at H
             have c20b0 : decide (x9_2 < (x1_2.length : Int)) = true := decide_eq_true c20; (try (have c20h0 := c20b0; simp only [hl1_1, hl1_2] at c20h0)); clear c20
             by_cases c21 : ((rd_T73 x1_2 x9_2).f0) > 0
             ·rw [if_pos c21] at H
              have c21b0 : decide (0 < ((rd_T73 x1_2 x9_2).f0)) = true := decide_eq_true c21; clear c21; replace H := Option.bind_eq_some_iff.mp H; obtain ⟨t170, A220, H⟩ := H; replace H : (spec_l24Place.l2 k2 l0 t170 a2 (wrap64 (x9_2 + 1))) = some r := H; have A22 := Aside0.mk A220; clear A220; have H' := Aside0.mk H; clear H; have p167 : 0 ≤ (x9_2 : Int) := of_decide_eq_true as_; have q167 : x9_2 < (l0.length : Int) := of_decide_eq_true as_; obtain ⟨ad167, e167, hx167_0, hx167_1, hx167_2⟩ := at_T50 (Kd.C_kept_now HR0.out HK.out) x9_2 p167 q167; cases e167; replace p167 := eq_true p167; replace q167 := eq_true q167; have p168 : 0 ≤ (x9_2 : Int) := of_decide_eq_true as_; have q168 : x9_2 < (l0.length : Int) := of_decide_eq_true as_; obtain ⟨ad168, e168, hx168_0, hx168_1, hx168_2⟩ := at_T50 (Kd.C_kept_now HR0.out HK.out) x9_2 p168 q168
              obtain rfl : ad167 = ad168 := (by injection e168)
              replace p168 := eq_true p168; replace q168 := eq_true q168; have p169 : 0 ≤ (x9_2 : Int) := of_decide_eq_true as_; have q169 : x9_2 < (x1_2.length : Int) := of_decide_eq_true as_; obtain ⟨ad169, e169, hx169_0, hx169_1⟩ := at_T73 (R_reads' HO_1.out).2.2 x9_2 p169 q169
              obtain rfl : (⟨gh_, 0, none⟩ : Addr) = ad169 := (by injection e169)
              (try simp only [add_plain] at hx169_0 hx169_1)
              replace p169 := eq_true p169; replace q169 := eq_true q169; go_wp2_with (first | ((with_reducible refine gate_callee (f := 109) rfl ?_); refine goesL_ (some 81) rfl rfl Try.func109 (by kernel_rfl) rfl #[.slice (some ad167) l0.length c0, .slice (some (⟨gh_, 0, none⟩ : Addr)) x1_2.length co6, .int .i64 x9_2] rfl ms ?_; (with_reducible refine (ih k2 (by have := HK1.out; have := HK2.out; omega) _ _ l0 (fun k_ => some k_ = (.slice (some (⟨gh_, 0, none⟩ : Addr)) x1_2.length co6 : Value).ownBlock) (.slice (some (⟨gh_, 0, none⟩ : Addr)) x1_2.length co6) x1_2 x9_2 t170 w0 _ ?side1 ?side2 ?side3 ?side4 A22.out).mono ?_); (case side1 => exact bb); (case side2 => exact Kd.C_kept_call HR0.out (by repeat (first | (with_reducible first | exact HK.out | apply Kept.alloc | apply Kept.drewN | apply Kept.drew) | exact HK.out)) (fun k_ hs_ => (fun e_ => (HO_1.out.1 k_ e_.symm)) hs_)); (case side3 => exact HC0.out); (case side4 => exact Kd.R_tight rfl HO_1.out); rintro e w23 ⟨rfl, hy0, hb, hkp⟩; refine ⟨_, rfl, ?_⟩; have t_ := fc3 (Kd.R_reok rfl hy0 (fun k_ e_ => HO_1.out.1 k_ e_)) (Kept.then_ (S := (fun k_ => P1_ k_)) (by repeat (first | (with_reducible first | exact HK.out | apply Kept.alloc | apply Kept.drewN | apply Kept.drew) | exact HK.out)) hkp (fun k_ hs_ => (fun e_ => (HO_1.out.1 k_ e_.symm)) hs_)) (hb); clear HO_1 HK HB; obtain ⟨HO_1, HK, HB⟩ := t_; (try clear hb); (try clear hkp); (try clear hy0))); (try simp only [← hl1_2])
              go_roundg k2
              case measure => have := HK1.out; have := HK2.out; omega
              case rel => exact ⟨(t170), (wrap64 (x9_2 + 1)), sd_, H', ⟨by have := HK1.out; have := HK2.out; omega⟩, ⟨by (try simp only [hl1_1]); (try simp only [hl1_2]); (with_reducible repeat (first | apply R_alloc | apply R_drewN | apply R_drew)); exact HO_1.out⟩, ⟨by repeat (first | (with_reducible first | exact HK.out | apply Kept.alloc | apply Kept.drewN | apply Kept.drew) | exact HK.out)⟩, ⟨bb⟩⟩
             ·rw [if_neg c21] at H
              have c21b0 : decide (0 < ((rd_T73 x1_2 x9_2).f0)) = false := decide_eq_false c21; clear c21; have H' := Aside0.mk H; clear H; have p167 : 0 ≤ (x9_2 : Int) := of_decide_eq_true as_; have q167 : x9_2 < (l0.length : Int) := of_decide_eq_true as_; obtain ⟨ad167, e167, hx167_0, hx167_1, hx167_2⟩ := at_T50 (Kd.C_kept_now HR0.out HK.out) x9_2 p167 q167; cases e167; replace p167 := eq_true p167; replace q167 := eq_true q167; have p168 : 0 ≤ (x9_2 : Int) := of_decide_eq_true as_; have q168 : x9_2 < (l0.length : Int) := of_decide_eq_true as_; obtain ⟨ad168, e168, hx168_0, hx168_1, hx168_2⟩ := at_T50 (Kd.C_kept_now HR0.out HK.out) x9_2 p168 q168
              obtain rfl : ad167 = ad168 := (by injection e168)
              replace p168 := eq_true p168; replace q168 := eq_true q168; have p169 : 0 ≤ (x9_2 : Int) := of_decide_eq_true as_; have q169 : x9_2 < (x1_2.length : Int) := of_decide_eq_true as_; obtain ⟨ad169, e169, hx169_0, hx169_1⟩ := at_T73 (R_reads' HO_1.out).2.2 x9_2 p169 q169
              obtain rfl : (⟨gh_, 0, none⟩ : Addr) = ad169 := (by injection e169)
              (try simp only [add_plain] at hx169_0 hx169_1)
              replace p169 := eq_true p169; replace q169 := eq_true q169; go_wp2; (try simp only [← hl1_2])
              go_roundg k2
              case measure => have := HK1.out; have := HK2.out; omega
              case rel => exact ⟨(x1_2), (wrap64 (x9_2 + 1)), sd_, H', ⟨by have := HK1.out; have := HK2.out; omega⟩, ⟨by (try simp only [hl1_1]); (try simp only [hl1_2]); (with_reducible repeat (first | apply R_alloc | apply R_drewN | apply R_drew)); exact HO_1.out⟩, ⟨by repeat (first | (with_reducible first | exact HK.out | apply Kept.alloc | apply Kept.drewN | apply Kept.drew) | exact HK.out)⟩, ⟨bb⟩⟩
            ·rw [if_neg c20] at H
             exact absurd H (by simp)
           ·rw [if_neg c19] at H
            have c19b0 : (((rd_T50 l0 x9_2).f2) == 0) = false := beq_eq_false_iff_ne.mpr c19; have c19b1 : (((rd_T50 l0 x9_2).f2) != 0) = true := bne_iff_ne.mpr c19; have H' := Aside0.mk H; clear H; have p167 : 0 ≤ (x9_2 : Int) := of_decide_eq_true as_; have q167 : x9_2 < (l0.length : Int) := of_decide_eq_true as_; obtain ⟨ad167, e167, hx167_0, hx167_1, hx167_2⟩ := at_T50 (Kd.C_kept_now HR0.out HK.out) x9_2 p167 q167; cases e167; replace p167 := eq_true p167; replace q167 := eq_true q167; have p168 : 0 ≤ (x9_2 : Int) := of_decide_eq_true as_; have q168 : x9_2 < (l0.length : Int) := of_decide_eq_true as_; obtain ⟨ad168, e168, hx168_0, hx168_1, hx168_2⟩ := at_T50 (Kd.C_kept_now HR0.out HK.out) x9_2 p168 q168
            obtain rfl : ad167 = ad168 := (by injection e168)
            replace p168 := eq_true p168; replace q168 := eq_true q168; go_wp2; (try simp only [← hl1_2])
            go_roundg k2
            case measure => have := HK1.out; have := HK2.out; omega
            case rel => exact ⟨(x1_2), (wrap64 (x9_2 + 1)), sd_, H', ⟨by have := HK1.out; have := HK2.out; omega⟩, ⟨by (try simp only [hl1_1]); (try simp only [hl1_2]); (with_reducible repeat (first | apply R_alloc | apply R_drewN | apply R_drew)); exact HO_1.out⟩, ⟨by repeat (first | (with_reducible first | exact HK.out | apply Kept.alloc | apply Kept.drewN | apply Kept.drew) | exact HK.out)⟩, ⟨bb⟩⟩
          ·rw [if_neg c18] at H
           have c18b0 : (((rd_T50 l0 x9_2).f0) == a2) = false := beq_eq_false_iff_ne.mpr c18; have c18b1 : (((rd_T50 l0 x9_2).f0) != a2) = true := bne_iff_ne.mpr c18; have H' := Aside0.mk H; clear H; have p167 : 0 ≤ (x9_2 : Int) := of_decide_eq_true as_; have q167 : x9_2 < (l0.length : Int) := of_decide_eq_true as_; obtain ⟨ad167, e167, hx167_0, hx167_1, hx167_2⟩ := at_T50 (Kd.C_kept_now HR0.out HK.out) x9_2 p167 q167; cases e167; replace p167 := eq_true p167; replace q167 := eq_true q167; go_wp2; (try simp only [← hl1_2])
           go_roundg k2
           case measure => have := HK1.out; have := HK2.out; omega
           case rel => exact ⟨(x1_2), (wrap64 (x9_2 + 1)), sd_, H', ⟨by have := HK1.out; have := HK2.out; omega⟩, ⟨by (try simp only [hl1_1]); (try simp only [hl1_2]); (with_reducible repeat (first | apply R_alloc | apply R_drewN | apply R_drew)); exact HO_1.out⟩, ⟨by repeat (first | (with_reducible first | exact HK.out | apply Kept.alloc | apply Kept.drewN | apply Kept.drew) | exact HK.out)⟩, ⟨bb⟩⟩
         ·rw [if_neg c17] at H
          exact absurd H (by simp)
        ·rw [if_neg c16] at H
         have c16b0 : decide (x9_2 < (l0.length : Int)) = false := decide_eq_false c16; (try (have c16h0 := c16b0; simp only [hl1_1, hl1_2] at c16h0)); clear c16; obtain rfl := Option.some.inj H; go_wp2
         first | go_end0 | ((try simp only [Exit.inBlock, Exit.then]); refine bodyPost_ret (results_none rfl _ _ _) rfl ?_)
         exact ⟨er, (by first | exact (ra HO_1.out) | (simp only [hl1_1, hl1_2]; exact (ra HO_1.out))), bb, by repeat (first | (with_reducible first | exact HK.out | apply Kept.alloc | apply Kept.drewN | apply Kept.drew) | exact HK.out)⟩
  ·rw [if_neg c5] at H
   exact absurd H (by simp)
 ·rw [if_neg c4] at H
  exact absurd H (by simp)

end Go.Proofs.Ytbbppknnkghkjaa.PFnExactAllocate
