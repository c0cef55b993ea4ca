/- Printed by a program of this session out of the translation: each Go function as a Lean function, with the proof that Go comes to just its answer (no condition beyond what each theorem says). (squeezed) -/
import Derived.Test.YtbbppknnkghkjaaPFnIdRoutesx0
import Derived.Test.YtbbppknnkghkjaaSteps
import Derived.Test.YtbbppknnkghkjaaPFnIdRoutesx2
import Derived.Test.YtbbppknnkghkjaaPFnIdRoutesx3
namespace Go.Proofs.Ytbbppknnkghkjaa.PFnIdRoutes
open Go.RowKit Go.Proofs.YtbbppknnkghkjaaW.PrintWords Go.Proofs.YtbbppknnkghkjaaW.PrintLast Go.Proofs.YtbbppknnkghkjaaW.PrintMore Go.Proofs.Ytbbppknnkghkjaa.Kit Go.Proofs.Ytbbppknnkghkjaa.Steps Go.Proofs.Ytbbppknnkghkjaa.Kit2
attribute [local go_sem] max2_int min2_int max_two min_two max_three min_three max_four min_four   -- for this text's walks alone
set_option linter.unusedVariables false
set_option linter.unusedSimpArgs false

/-! ### slices_Reverse_int_int: function 115 -/
def slices_Reverse_int_int.l0 : Nat → List Int → Int → Int → Option (List Int)
 | 0, _, _, _ => none
 | k + 1, x0, x2, x3 => if x2 < x3 then (if 0 ≤ x3 then (if x3 < (x0.length : Int) then (if 0 ≤ x2 then (if x2 < (x0.length : Int) then (slices_Reverse_int_int.l0 k ((x0.set (x2 : Int).toNat (rd x0 x3)).set (x3 : Int).toNat (rd x0 x2)) (wrap64 (x2 + 1)) (wrap64 (x3 - 1))) else (none)) else (none)) else (none)) else (none)) else (some x0)
def slices_Reverse_int_int.f (k : Nat) (l0 : List Int) : Option (List Int) := slices_Reverse_int_int.l0 k l0 0 (wrap64 ((l0.length : Int) - 1))
def slices_Reverse_int_int.T3 : Bool × List (List Nat × List Nat) := (true, [([], []), ([], []), ([], []), ([], []), ([], []), ([], []), ([4, 5], [4, 5]), ([6], [6]), ([], []), ([], []), ([8, 9], [8, 9]), ([10], [10]), ([0, 1, 0, 1, 4, 5, 6, 7, 11], [0, 1]), ([12, 7, 0, 1, 4, 5, 6, 7, 11], [7, 12]), ([2, 3, 0, 1, 2, 3, 4, 5, 6, 7, 8, 9, 10, 11, 12, 13], [2, 3]), ([14, 11, 13, 0, 1, 2, 3, 4, 5, 6, 7, 8, 9, 10, 11, 12, 13], [11, 14])])
def slices_Reverse_int_int.B3 : List Nat := [0, 0, 0, 0, 0, 0, 48, 112, 0, 0, 768, 1792, 4083, 8179, 16383, 32767]
theorem slices_Reverse_int_int.tab3 : rtab .any (opsOf Try.f115 3) = slices_Reverse_int_int.T3 := by kernel_rfl
theorem slices_Reverse_int_int.bits3 : waitsOk slices_Reverse_int_int.T3.2 slices_Reverse_int_int.B3 = true := by kernel_rfl
set_option maxHeartbeats 8000000 in
set_option maxRecDepth 100000 in
theorem slices_Reverse_int_int.calls (k : Nat) (P0_ : Nat → Prop) (u9000_ : Value) (l0 : List Int) (r : List Int) (w0 w : World) (hB : Below w0.heap.size w0 w) (ho0 : Kd.R (Kd.int .i64) 3 w w0.heap.size P0_ u9000_ l0) (h : slices_Reverse_int_int.f k l0 = some r) :
  Calls Try.prog 115 #[u9000_] w fun e w' => e = .returned (.tuple #[]) ∧ Kd.R (Kd.int .i64) 3 w' w0.heap.size (fun k_ => (P0_ k_ ∨ w.heap.size ≤ k_)) u9000_ r ∧ Below w0.heap.size w0 w' ∧ Kept w w' (fun k_ => P0_ k_) := by
 have HO0 := Aside0.mk (show Kd.R (Kd.int .i64) 3 w w0.heap.size (fun k_ => (P0_ k_ ∨ w.heap.size ≤ k_)) u9000_ l0 from Kd.R_mono ho0 (fun k_ hk => (.inl hk)))
 have HK := Aside0.mk (Kept.refl w (fun k_ => P0_ k_))
 have HW0 := Aside0.mk hB.size
 have HB := Aside0.mk hB
 clear hB
 have H : (slices_Reverse_int_int.l0 k l0 0 (wrap64 ((l0.length : Int) - 1))) = some r := h
 clear h
 have H' := Aside0.mk H
 clear H
 obtain ⟨Ao2, co2, eo2⟩ := Kd.R_slice HO0.out
 subst eo2
 go_enter Try.func115, Try.ntmps115
 go_wp2
 go_loopg [2, 3] k (fun kq v2 v3 w' => ∃ (x0_1 : List Int) (x2_1 : Int) (x3_1 : Int), v2 = .int .i64 x2_1 ∧ v3 = .int .i64 x3_1 ∧ Aside0 (slices_Reverse_int_int.l0 kq x0_1 x2_1 x3_1 = some r) ∧ Aside0 (kq ≤ k) ∧ Aside0 (Kd.R (Kd.int .i64) 3 w' w0.heap.size (fun k_ => (P0_ k_ ∨ w.heap.size ≤ k_)) (.slice Ao2 l0.length co2) x0_1) ∧ Aside0 (Kept w w' (fun k_ => P0_ k_)) ∧ Aside0 (Below w0.heap.size w0 w'))
 case atStart => exact ⟨(l0), (0), (wrap64 ((l0.length : Int) - 1)), (by first | rfl | (simp; done) | (simp [*]; done)), (by first | rfl | (simp; done) | (simp [*]; done)), H', ⟨Nat.le_refl _⟩, ⟨by (with_reducible repeat (first | apply Kd.R_alloc | apply Kd.R_drewN | apply Kd.R_drew)); exact HO0.out⟩, ⟨by repeat (first | (with_reducible first | exact HK.out | apply Kept.alloc | apply Kept.drewN | apply Kept.drew) | exact HK.out)⟩, ⟨bb⟩⟩
 case round =>
  clear H'
  try clear c1
  try clear p2
  obtain ⟨x0_1, x2_1, x3_1, rfl, rfl, HA, HK1, HO_0, HK, HB⟩ := hrel
  have hl0_1 := (Kd.R_reads' HO_0.out).1
  rw [hl0_1] at HO_0
  (try simp only [hl0_1])
  cases gk with
  | zero => exact absurd HA.out (by simp [slices_Reverse_int_int.l0])
  | succ k1 =>
   have H := HA.out
   clear HA
   simp only [slices_Reverse_int_int.l0] at H
   by_cases c3 : x2_1 < x3_1
   ·rw [if_pos c3] at H
    have c3b0 : decide (x2_1 < x3_1) = true := decide_eq_true c3
    clear c3
    by_cases c4 : 0 ≤ x3_1
    ·rw [if_pos c4] at H
     have c4b0 : decide (0 ≤ x3_1) = true := decide_eq_true c4
     clear c4
     by_cases c5 : x3_1 < (x0_1.length : Int)
     ·rw [if_pos c5] at H
      have c5b0 : decide (x3_1 < (x0_1.length : Int)) = true := decide_eq_true c5
      (try (have c5h0 := c5b0; simp only [hl0_1] at c5h0))
      clear c5
      by_cases c6 : 0 ≤ x2_1
      ·rw [if_pos c6] at H
       have c6b0 : decide (0 ≤ x2_1) = true := decide_eq_true c6
       clear c6
       by_cases c7 : x2_1 < (x0_1.length : Int)
       ·rw [if_pos c7] at H
        have c7b0 : decide (x2_1 < (x0_1.length : Int)) = true := decide_eq_true c7
        (try (have c7h0 := c7b0; simp only [hl0_1] at c7h0))
        clear c7
        obtain ⟨y233, hy233⟩ : ∃ y_ : List Int, y_ = (x0_1.set (x2_1 : Int).toNat (rd x0_1 x3_1)) := ⟨_, rfl⟩
        replace H : (slices_Reverse_int_int.l0 k1 (y233.set (x3_1 : Int).toNat (rd x0_1 x2_1)) (wrap64 (x2_1 + 1)) (wrap64 (x3_1 - 1))) = some r := by first | (rw [hy233]; with_reducible exact H) | (have H2_ := (Option.bind_some _ _).symm.trans H; rw [hy233]; with_reducible exact H2_) | (have H2_ := (Option.bind_some _ _).symm.trans H; with_reducible exact H2_) | with_reducible exact H | (rw [hy233]; exact H) | exact H
        have Ny233 := Aside0.mk hy233
        clear hy233
        obtain ⟨y234, hy234⟩ : ∃ y_ : List Int, y_ = (y233.set (x3_1 : Int).toNat (rd x0_1 x2_1)) := ⟨_, rfl⟩
        replace H : (slices_Reverse_int_int.l0 k1 y234 (wrap64 (x2_1 + 1)) (wrap64 (x3_1 - 1))) = some r := by first | (rw [hy234]; with_reducible exact H) | (have H2_ := (Option.bind_some _ _).symm.trans H; rw [hy234]; with_reducible exact H2_) | (have H2_ := (Option.bind_some _ _).symm.trans H; with_reducible exact H2_) | with_reducible exact H | (rw [hy234]; exact H) | exact H
        have Ny234 := Aside0.mk hy234
        clear hy234
        have H' := Aside0.mk H
        clear H
        try go_wp2
        have t_ := fc3 (Kd.R_drew HO_0.out) (Kept.drew HK.out) (below_drew1 HB.out)
        clear HO_0 HK HB
        obtain ⟨HO_0, HK, HB⟩ := t_
        have p231 : 0 ≤ (x3_1 : Int) := of_decide_eq_true as_
        have q231 : x3_1 < (x0_1.length : Int) := of_decide_eq_true as_
        obtain ⟨ad231, e231, hx231_0⟩ := Kd.at_int (Kd.R_reads' HO_0.out).2.2 x3_1 p231 q231
        cases e231
        replace p231 := eq_true p231
        replace q231 := eq_true q231
        have p232 : 0 ≤ (x2_1 : Int) := of_decide_eq_true as_
        have q232 : x2_1 < (x0_1.length : Int) := of_decide_eq_true as_
        obtain ⟨ad232, e232, hx232_0⟩ := Kd.at_int (Kd.R_reads' HO_0.out).2.2 x2_1 p232 q232
        obtain rfl : ad231 = ad232 := (by injection e232)
        replace p232 := eq_true p232
        replace q232 := eq_true q232
        have p8 : 0 ≤ (x2_1 : Int) := of_decide_eq_true as_
        have q8 : (x2_1 : Int) < ((x0_1.length : Int) : Int) := of_decide_eq_true as_
        obtain ⟨go8, co8, eo8, gb8, gl8, cl8, HG8⟩ := Kd.R_form HO_0.out (by omega)
        (first | cases eo8 | (injection eo8 with ea_ en_ ec_; (first | subst ea_ | (injection ea_ with ea_; subst ea_)); subst ec_; clear en_))
        have GB8 := Aside0.mk gb8
        have GG8 := Aside0.mk HG8
        clear gb8 gl8 HG8
        have HMgo8 := Aside0.mk (show (P0_ go8 ∨ w.heap.size ≤ go8) from (HO_0.out.1 _ rfl))
        (first | simp only [add_plain] at hx231_0 | skip)
        (first | simp only [add_plain] at hx232_0 | skip)
        obtain ⟨hx8_0, hf8_0⟩ := Kd.R_celln 0 HO_0.out (x2_1 : Int) p8 q8
        replace p8 := eq_true p8
        replace q8 := eq_true q8
        have HP11 := Kd.R_putn HO_0.out (x2_1 : Int) (rd x0_1 x3_1)
        rw [← Ny233.out] at HP11
        have HQ11 := Aside0.mk HP11
        clear HP11
        have p9 : 0 ≤ (x3_1 : Int) := of_decide_eq_true as_
        have q9 : (x3_1 : Int) < ((x0_1.length : Int) : Int) := of_decide_eq_true as_
        obtain ⟨hx9_0, hf9_0⟩ := Kd.R_celln 0 HQ11.out (x3_1 : Int) p9 q9
        replace p9 := eq_true p9
        replace q9 := eq_true q9
        have HP12 := Kd.R_putn HQ11.out (x3_1 : Int) (rd x0_1 x2_1)
        rw [← Ny234.out] at HP12
        have HQ12 := Aside0.mk HP12
        clear HP12
        refine start_ (n := 16) (S := fun w' => w'.cell? ⟨go8, (x3_1).toNat, none⟩ = some (.int .i64 (rd x0_1 x3_1)) ∧ w'.cell? ⟨go8, (x2_1).toNat, none⟩ = some (.int .i64 (rd x0_1 x2_1))) (ds := [13, 15]) (bz 16 0) (by kernel_rfl) rfl (by kernel_rfl) ⟨hx231_0, hx232_0⟩ (fun hHeld => ?_); refine with_tabW slices_Reverse_int_int.tab3 slices_Reverse_int_int.bits3 (fun HT_ HW_ => ?_)
        generalize wr.drew = w10 at HO_0 HK HB GG8 HQ11 HQ12 hf8_0 hf9_0 hx231_0 hx232_0 hx8_0 hx9_0 hHeld ⊢
        refine pv 0 14 (bz 16 1) HT_ (h := ?_)
        refine pv 1 15 (bz 16 3) HT_ (h := ?_)
        refine pv 2 16 (bz 16 7) HT_ (h := ?_)
        refine pv 3 17 (bz 16 15) HT_ (h := ?_)
        refine pv 4 18 (bz 16 31) HT_ (h := ?_)
        refine pv 5 19 (bz 16 63) HT_ (h := ?_)
        refine pv 6 20 (bz 16 127) HT_ (h := ?_)
        refine pv 8 22 (bz 16 383) HT_ (h := ?_)
        refine pv 9 23 (bz 16 895) HT_ (h := ?_)
        refine pv 10 24 (bz 16 1919) HT_ (h := ?_)
        refine tv2 7 21 (bz 16 2047) HT_ HW_ hHeld (h := ?_)
        refine tv2 11 25 (bz 16 4095) HT_ HW_ hHeld (h := ?_)
        refine pv 12 26 (bz 16 8191) HT_ (h := ?_)
        refine last_ (i := 13) (N := none) (bz 16 16383) rfl rfl (one_of HT_.out (by kernel_rfl)) (by decide) (fun K hK => ?_)
        refine skip_ (w1 := ?_) (by rfl) rfl ?_ ?_
        rotate_left
        ·go_simp
         rfl
        refine hK.out _ _ ?_
        clear hK K
        refine pv 14 27 (bz 16 32767) HT_ (h := ?_)
        refine last_ (i := 15) (N := none) (bz 16 65535) rfl rfl (one_of HT_.out (by kernel_rfl)) (by decide) (fun K hK => ?_)
        refine skip_ (w1 := ?_) (by rfl) rfl ?_ ?_
        rotate_left
        ·go_simp
         rfl
        refine hK.out _ _ ?_
        clear hK K
        refine done_ (done_of HT_.out (by kernel_rfl)) ?_
        try go_wp2
        (try simp only [← hl0_1])
        go_roundg k1
        case measure => have := HK1.out; omega
        case rel => exact ⟨(y234), (wrap64 (x2_1 + 1)), (wrap64 (x3_1 - 1)), (by first | rfl | (simp; done) | (simp [*]; done)), (by first | rfl | (simp; done) | (simp [*]; done)), H', ⟨by have := HK1.out; omega⟩, ⟨by (try simp only [hl0_1]); (with_reducible repeat (first | apply Kd.R_alloc | apply Kd.R_drewN | apply Kd.R_drew)); exact HQ12.out⟩, ⟨by repeat (first | (with_reducible first | exact HK.out | apply Kept.alloc | apply Kept.drewN | apply Kept.drew | refine Kept.setCell ?_ HMgo8.out _ | refine Kept.setCell ?_ HMgo8.out _) | exact HK.out)⟩, ⟨by repeat (first | (with_reducible first | exact HB.out | apply below_alloc | apply pw_below_drewN | apply below_drew1 | refine below_set ?_ GB8.out | refine below_set ?_ GB8.out) | exact HB.out)⟩⟩
       ·rw [if_neg c7] at H
        exact absurd H (by simp)
      ·rw [if_neg c6] at H
       exact absurd H (by simp)
     ·rw [if_neg c5] at H
      exact absurd H (by simp)
    ·rw [if_neg c4] at H
     exact absurd H (by simp)
   ·rw [if_neg c3] at H
    have c3b0 : decide (x2_1 < x3_1) = false := decide_eq_false c3
    clear c3
    obtain rfl := Option.some.inj H
    go_wp2
    first | go_end0 | ((try simp only [Exit.inBlock, Exit.then]); refine bodyPost_ret (results_none rfl _ _ _) rfl ?_)
    exact ⟨er, (by first | exact (ra HO_0.out) | (simp only [hl0_1]; exact (ra HO_0.out))), bb, by repeat (first | (with_reducible first | exact HK.out | apply Kept.alloc | apply Kept.drewN | apply Kept.drew) | exact HK.out)⟩

/-! ### impl_PathTo: function 61 -/
def impl_PathTo.l0 : Nat → List (S50) → Int → List Int → Option (List Int)
 | 0, _, _, _ => none
 | k + 1, x0, x1, x5 => if x1 ≥ 0 then (if x5.length < 17592186044416 then (if 0 ≤ x1 then (if x1 < (x0.length : Int) then (impl_PathTo.l0 k x0 ((rd_T50 x0 x1).f0) (x5 ++ [x1])) else (none)) else (none)) else (none)) else ((slices_Reverse_int_int.f k x5).bind fun t243 => (some t243))
def impl_PathTo.f (k : Nat) (l0 : List (S50)) (a1 : Int) : Option (List Int) := (some (([] : List Int) : List Int)).bind fun y235 => ((impl_isNode.f k l0 a1).bind fun t238 => (if t238 = true then (impl_PathTo.l0 k l0 a1 y235) else (some y235)))
set_option maxHeartbeats 8000000 in
set_option maxRecDepth 100000 in
theorem impl_PathTo.calls (k : Nat) (A0 : Option Addr) (c0 : Nat) (l0 : List (S50)) (a1 : Int) (r : List Int) (w : World) (hr0 : Kd.C k50 w A0 l0.length l0) (hc0 : l0.length ≤ c0) (h : impl_PathTo.f k l0 a1 = some r) :
  Calls Try.prog 61 #[.slice A0 l0.length c0, .int .i64 a1] w fun e w' => ∃ v0_ : Value, e = .returned (v0_) ∧ Kd.R (Kd.int .i64) 3 w' w.heap.size (fun _ => True) v0_ r ∧ Below w.heap.size w w' := by
 have HR0 := Aside0.mk hr0
 have HC0 := Aside0.mk hc0
 clear hr0 hc0
 have HB := Aside0.mk (Below.refl w.heap.size w)
 have H : ((some (([] : List Int) : List Int)).bind fun y235 => ((impl_isNode.f k l0 a1).bind fun t238 => (if t238 = true then (impl_PathTo.l0 k l0 a1 y235) else (some y235)))) = some r := h
 clear h
 obtain ⟨y235, hy235⟩ : ∃ y_ : List Int, y_ = (([] : List Int)) := ⟨_, rfl⟩
 replace H : ((impl_isNode.f k l0 a1).bind fun t238 => (if t238 = true then (impl_PathTo.l0 k l0 a1 y235) else (some y235))) = some r := by first | (rw [hy235]; with_reducible exact H) | (have H2_ := (Option.bind_some _ _).symm.trans H; rw [hy235]; with_reducible exact H2_) | (have H2_ := (Option.bind_some _ _).symm.trans H; with_reducible exact H2_) | with_reducible exact H | (rw [hy235]; exact H) | exact H
 have Ny235 := Aside0.mk hy235
 clear hy235
 replace H := Option.bind_eq_some_iff.mp H
 obtain ⟨t238, A30, H⟩ := H
 replace H : (if t238 = true then (impl_PathTo.l0 k l0 a1 y235) else (some y235)) = some r := H
 have A3 := Aside0.mk A30
 clear A30
 by_cases c4 : t238 = true
 ·subst c4
  have H1 : (impl_PathTo.l0 k l0 a1 y235) = some r := by rw [if_pos rfl] at H; exact H
  clear H
  have H := H1
  clear H1
  have H' := Aside0.mk H
  clear H
  go_enter Try.func61, Try.ntmps61
  go_wp2_with (first | ((with_reducible refine gate_dst (N := 6) rfl ?_); refine Kd.R_lit (Kd.int .i64) _ 3 ?hg (N := 6) ?hd (xs := ([] : List Int)) (inner := []) (ok := fun _ => True) (okp := fun _ => True) ?hr ?hp (fun _ hk => hk) trivial (Below.refl _ _) (Nat.le_refl _) (by simp) ?_; (case hd => rfl); (case hg => rfl); (case hr => first | (go_simp; done) | (go_simp; rfl)); (case hp => exact (Reps.none _ _)); intro v236 w5 ho6 hb hg_ hnew_; clear hg_ hnew_; (first | rw [← Ny235.out] at ho6 | (simp only [Int.reduceToNat] at ho6; rw [← Ny235.out] at ho6)); have t_ := fc2 (Kd.R_lower ho6 (below_size bb)) (below_step bb hb); clear HB; obtain ⟨HO237, HB⟩ := t_; clear hb ho6) | ((with_reducible refine gate_callee (f := 90) rfl ?_); refine goesL_ (some 9) rfl rfl Try.func90 (by kernel_rfl) rfl #[.slice A0 l0.length c0, .int .i64 a1] rfl ms ?_; (with_reducible refine (impl_isNode.calls k _ _ l0 a1 true _ ?side1 ?side2 A3.out).mono ?_); (case side1 => exact kc); (case side2 => exact HC0.out); rintro e w7 ⟨rfl, hb⟩; refine ⟨_, rfl, ?_⟩; have t_ := fc2 (Kd.R_below (ra HO237.out) hb) (below_step bb hb); clear HO237 HB; obtain ⟨HO237, HB⟩ := t_; (try clear hb); (try clear hk)))
  go_loopg [1, 5] k (fun kq v1 v5 w' => ∃ (x1_1 : Int) (x5_1 : List Int), v1 = .int .i64 x1_1 ∧ Aside0 (impl_PathTo.l0 kq l0 x1_1 x5_1 = some r) ∧ Aside0 (kq ≤ k) ∧ Aside0 (Kd.R (Kd.int .i64) 3 w' w.heap.size (fun _ => True) v5 x5_1) ∧ Aside0 (Below w.heap.size w w'))
  case atStart => exact ⟨(a1), (y235), (by first | rfl | (simp; done) | (simp [*]; done)), H', ⟨Nat.le_refl _⟩, ⟨by (with_reducible repeat (first | apply Kd.R_alloc | apply Kd.R_drewN | apply Kd.R_drew)); exact HO237.out⟩, ⟨bb⟩⟩
  case round =>
   clear H'
   try clear p2
   try clear c4
   try clear c6
   obtain ⟨x1_1, x5_1, rfl, HA, HK1, HO_5, HB⟩ := hrel
   cases gk with
   | zero => exact absurd HA.out (by simp [impl_PathTo.l0])
   | succ k1 =>
    have H := HA.out
    clear HA
    simp only [impl_PathTo.l0] at H
    by_cases c8 : x1_1 ≥ 0
    ·rw [if_pos c8] at H
     have c8b0 : decide (0 ≤ x1_1) = true := decide_eq_true c8
     clear c8
     by_cases c9 : x5_1.length < 17592186044416
     ·rw [if_pos c9] at H
      have LMc9 := Aside0.mk c9
      clear c9
      obtain ⟨y239, hy239⟩ : ∃ y_ : List Int, y_ = (x5_1 ++ [x1_1]) := ⟨_, rfl⟩
      replace H : (if 0 ≤ x1_1 then (if x1_1 < (l0.length : Int) then (impl_PathTo.l0 k1 l0 ((rd_T50 l0 x1_1).f0) y239) else (none)) else (none)) = some r := by first | (rw [hy239]; with_reducible exact H) | (have H2_ := (Option.bind_some _ _).symm.trans H; rw [hy239]; with_reducible exact H2_) | (have H2_ := (Option.bind_some _ _).symm.trans H; with_reducible exact H2_) | with_reducible exact H | (rw [hy239]; exact H) | exact H
      have Ny239 := Aside0.mk hy239
      clear hy239
      by_cases c10 : 0 ≤ x1_1
      ·rw [if_pos c10] at H
       have c10b0 : decide (0 ≤ x1_1) = true := decide_eq_true c10
       clear c10
       by_cases c11 : x1_1 < (l0.length : Int)
       ·rw [if_pos c11] at H
        have c11b0 : decide (x1_1 < (l0.length : Int)) = true := decide_eq_true c11
        clear c11
        have H' := Aside0.mk H
        clear H
        go_wp2_with (first | ((with_reducible refine gate_builtin (b := .append) (xs := #[.tmp 19, .tmp 21]) rfl ?_); at_builtin; refine Kd.R_append (Kd.int .i64) (w0 := w) w.heap.size rfl (.tmp 19) (.tmp 21) 23 3 (.int .i64 0) 8 rfl Try.underlying23 info3 rfl (by decide) (by omega) u5 x5_1 x1_1 [.int .i64 x1_1] (fun _ => True) (fun _ => False) rfl rfl ?aP (fun _ hk => hk.elim) ?aF ?aO ?aB ?aS ?aL ?_; (case aP => exact rfl); (case aB => exact bb); (case aF => exact (fun _ _ => trivial)); (case aO => exact (ra HO_5.out)); (case aS => exact (below_size bb)); (case aL => have := LMc9.out; omega); intro v240 w12 ho hb hg hat; rw [← Ny239.out] at ho; have t_ := fc2 (hb) (ho); clear HB HO_5; obtain ⟨HB, HO241⟩ := t_; clear ho hb hg hat; have p242 : 0 ≤ (x1_1 : Int) := of_decide_eq_true as_; have q242 : x1_1 < (l0.length : Int) := of_decide_eq_true as_; obtain ⟨ad242, e242, hx242_0, hx242_1, hx242_2⟩ := at_T50 HR0.out x1_1 p242 q242; cases e242; replace hx242_0 := pw_cell_below HB.out hx242_0; replace hx242_1 := pw_cell_below HB.out hx242_1; replace hx242_2 := pw_cell_below HB.out hx242_2; replace p242 := eq_true p242; replace q242 := eq_true q242))
        go_roundg k1
        case measure => have := HK1.out; omega
        case rel => exact ⟨((rd_T50 l0 x1_1).f0), (y239), (by first | rfl | (simp; done) | (simp [*]; done)), H', ⟨by have := HK1.out; omega⟩, ⟨by (with_reducible repeat (first | apply Kd.R_alloc | apply Kd.R_drewN | apply Kd.R_drew)); exact HO241.out⟩, ⟨bb⟩⟩
       ·rw [if_neg c11] at H
        exact absurd H (by simp)
      ·rw [if_neg c10] at H
       exact absurd H (by simp)
     ·rw [if_neg c9] at H
      exact absurd H (by simp)
    ·rw [if_neg c8] at H
     have c8b0 : decide (0 ≤ x1_1) = false := decide_eq_false c8
     clear c8
     replace H := Option.bind_eq_some_iff.mp H
     obtain ⟨t243, A130, H⟩ := H
     replace H : (some t243) = some r := H
     have A13 := Aside0.mk A130
     clear A130
     obtain rfl := Option.some.inj H
     obtain ⟨Ao14, co14, eo14⟩ := Kd.R_slice HO_5.out
     subst eo14
     go_wp2_with (first | ((with_reducible refine gate_callee (f := 115) rfl ?_); refine goesL_ (some 24) rfl rfl Try.func115 (by kernel_rfl) rfl #[.slice Ao14 x5_1.length co14] rfl ms ?_; (with_reducible refine (slices_Reverse_int_int.calls k1 (fun k_ => some k_ = (.slice Ao14 x5_1.length co14 : Value).ownBlock) (.slice Ao14 x5_1.length co14) x5_1 t243 w _ ?side1 ?side2 A13.out).mono ?_); (case side1 => exact bb); (case side2 => exact Kd.R_tight rfl HO_5.out); rintro e w15 ⟨rfl, hy0, hb, hkp⟩; refine ⟨_, rfl, ?_⟩; have t_ := fc2 (Kd.R_reok rfl hy0 (fun k_ e_ => HO_5.out.1 k_ e_)) (hb); clear HO_5 HB; obtain ⟨HO_5, HB⟩ := t_; (try clear hb); (try clear hkp); (try clear hy0)))
     go_ret
     exact ⟨_, er, by (with_reducible repeat (first | apply Kd.R_alloc | apply Kd.R_drewN | apply Kd.R_drew)); exact HO_5.out, bb⟩
 ·replace c4 := Bool.eq_false_iff.mpr c4
  subst c4
  have H1 : (some y235) = some r := by rw [if_neg (show ¬ (false = true) by decide)] at H; exact H
  clear H
  have H := H1
  clear H1
  obtain rfl := Option.some.inj H
  go_enter Try.func61, Try.ntmps61
  go_wp2_with (first | ((with_reducible refine gate_dst (N := 6) rfl ?_); refine Kd.R_lit (Kd.int .i64) _ 3 ?hg (N := 6) ?hd (xs := ([] : List Int)) (inner := []) (ok := fun _ => True) (okp := fun _ => True) ?hr ?hp (fun _ hk => hk) trivial (Below.refl _ _) (Nat.le_refl _) (by simp) ?_; (case hd => rfl); (case hg => rfl); (case hr => first | (go_simp; done) | (go_simp; rfl)); (case hp => exact (Reps.none _ _)); intro v236 w16 ho17 hb hg_ hnew_; clear hg_ hnew_; (first | rw [← Ny235.out] at ho17 | (simp only [Int.reduceToNat] at ho17; rw [← Ny235.out] at ho17)); have t_ := fc2 (Kd.R_lower ho17 (below_size bb)) (below_step bb hb); clear HB; obtain ⟨HO237, HB⟩ := t_; clear hb ho17) | ((with_reducible refine gate_callee (f := 90) rfl ?_); refine goesL_ (some 9) rfl rfl Try.func90 (by kernel_rfl) rfl #[.slice A0 l0.length c0, .int .i64 a1] rfl ms ?_; (with_reducible refine (impl_isNode.calls k _ _ l0 a1 false _ ?side1 ?side2 A3.out).mono ?_); (case side1 => exact kc); (case side2 => exact HC0.out); rintro e w18 ⟨rfl, hb⟩; refine ⟨_, rfl, ?_⟩; have t_ := fc2 (Kd.R_below (ra HO237.out) hb) (below_step bb hb); clear HO237 HB; obtain ⟨HO237, HB⟩ := t_; (try clear hb); (try clear hk)))
  go_ret
  exact ⟨_, er, by (with_reducible repeat (first | apply Kd.R_alloc | apply Kd.R_drewN | apply Kd.R_drew)); exact HO237.out, bb⟩

/-! ### impl_PathBetween: function 62 -/
mutual
def impl_PathBetween.j0 : Nat → List (S50) → Int → Int → Bool → Option (List Int)
 | 0, _, _, _, _ => none
 | k + 1, x0, x1, x2, x20 => if x20 = true then (some ([] : List Int)) else ((impl_PathTo.f k x0 x1).bind fun t246 => ((impl_PathTo.f k x0 x2).bind fun t249 => (impl_PathBetween.l0 k t246 t249 0)))
def impl_PathBetween.l0 : Nat → List Int → List Int → Int → Option (List Int)
 | 0, _, _, _ => none
 | k + 1, x7, x8, x9 => if x9 < (mn (x7.length : Int) (x8.length : Int)) then (if 0 ≤ x9 then (if x9 < (x7.length : Int) then (if x9 < (x8.length : Int) then (if (rd x7 x9) = (rd x8 x9) then (impl_PathBetween.l0 k x7 x8 (wrap64 (x9 + 1))) else (if 0 ≤ (wrap64 (x9 - 1)) then (if (wrap64 (x9 - 1)) ≤ (x7.length : Int) then ((slices_Clone_int_int.f (x7.drop ((wrap64 (x9 - 1)) : Int).toNat)).bind fun t258 => ((slices_Reverse_int_int.f k t258).bind fun t261 => (if x9 ≤ (x8.length : Int) then ((some (x8.drop (x9 : Int).toNat : List Int)).bind fun y262 => (if t261.length + y262.length < 17592186044416 then (some (t261 ++ y262)) else (none))) else (none)))) else (none)) else (none))) else (none)) else (none)) else (none)) else (if 0 ≤ (wrap64 (x9 - 1)) then (if (wrap64 (x9 - 1)) ≤ (x7.length : Int) then ((slices_Clone_int_int.f (x7.drop ((wrap64 (x9 - 1)) : Int).toNat)).bind fun t273 => ((slices_Reverse_int_int.f k t273).bind fun t276 => (if 0 ≤ x9 then (if x9 ≤ (x8.length : Int) then ((some (x8.drop (x9 : Int).toNat : List Int)).bind fun y277 => (if t276.length + y277.length < 17592186044416 then (some (t276 ++ y277)) else (none))) else (none)) else (none)))) else (none)) else (none))
end
def impl_PathBetween.f (k : Nat) (l0 : List (S50)) (a1 : Int) (a2 : Int) : Option (List Int) := (impl_isNode.f k l0 a1).bind fun t244 => (if t244 = true then ((impl_isNode.f k l0 a2).bind fun t245 => (impl_PathBetween.j0 k l0 a1 a2 (!t245))) else (impl_PathBetween.j0 k l0 a1 a2 true))
set_option maxHeartbeats 8000000 in
set_option maxRecDepth 100000 in
theorem impl_PathBetween.calls (k : Nat) (A0 : Option Addr) (c0 : Nat) (l0 : List (S50)) (a1 : Int) (a2 : Int) (r : List Int) (w : World) (hr0 : Kd.C k50 w A0 l0.length l0) (hc0 : l0.length ≤ c0) (h : impl_PathBetween.f k l0 a1 a2 = some r) :
  Calls Try.prog 62 #[.slice A0 l0.length c0, .int .i64 a1, .int .i64 a2] w fun e w' => ∃ v0_ : Value, e = .returned (v0_) ∧ Kd.R (Kd.int .i64) 3 w' w.heap.size (fun _ => True) v0_ r ∧ Below w.heap.size w w' := by
 have HR0 := Aside0.mk hr0
 have HC0 := Aside0.mk hc0
 clear hr0 hc0
 have HB := Aside0.mk (Below.refl w.heap.size w)
 have H : ((impl_isNode.f k l0 a1).bind fun t244 => (if t244 = true then ((impl_isNode.f k l0 a2).bind fun t245 => (impl_PathBetween.j0 k l0 a1 a2 (!t245))) else (impl_PathBetween.j0 k l0 a1 a2 true))) = some r := h
 clear h
 have HC4 := Aside0.mk H
 clear H
 go_enter Try.func62, Try.ntmps62
 go_upto_region 1 with (fail)
 repeat (go_quiet (fail); go_upto_region 1 with (fail))
 go_cut [20] (fun v20 wc => ∃ (kq : Nat) (x20_3 : Bool), v20 = .bool x20_3 ∧ Aside0 (impl_PathBetween.j0 kq l0 a1 a2 x20_3 = some r) ∧ Aside0 (kq ≤ k) ∧ Aside0 (Below w.heap.size w wc))
 case first =>
  have H := HC4.out
  clear HC4
  replace H := Option.bind_eq_some_iff.mp H
  obtain ⟨t244, A50, H⟩ := H
  replace H : (if t244 = true then ((impl_isNode.f k l0 a2).bind fun t245 => (impl_PathBetween.j0 k l0 a1 a2 (!t245))) else (impl_PathBetween.j0 k l0 a1 a2 true)) = some r := H
  have A5 := Aside0.mk A50
  clear A50
  by_cases c6 : t244 = true
  ·subst c6
   have H1 : ((impl_isNode.f k l0 a2).bind fun t245 => (impl_PathBetween.j0 k l0 a1 a2 (!t245))) = some r := by rw [if_pos rfl] at H; exact H
   clear H
   have H := H1
   clear H1
   replace H := Option.bind_eq_some_iff.mp H
   obtain ⟨t245, A70, H⟩ := H
   replace H : (impl_PathBetween.j0 k l0 a1 a2 (!t245)) = some r := H
   have A7 := Aside0.mk A70
   clear A70
   have H' := Aside0.mk H
   clear H
   go_wp2_with (first | (go_at_call 90; (with_reducible refine (impl_isNode.calls k _ _ l0 a1 true _ ?side1 ?side2 A5.out).mono ?_); (case side1 => exact kc); (case side2 => exact HC0.out); rintro e w8 ⟨rfl, hb⟩; replace HB := Aside0.mk (below_step bb hb); (try clear hb); (try clear hk)) | (go_at_call 90; (with_reducible refine (impl_isNode.calls k _ _ l0 a2 t245 _ ?side1 ?side2 A7.out).mono ?_); (case side1 => exact kc); (case side2 => exact HC0.out); rintro e w9 ⟨rfl, hb⟩; replace HB := Aside0.mk (below_step bb hb); (try clear hb); (try clear hk)))
   repeat (go_quiet (first | (go_at_call 90; (with_reducible refine (impl_isNode.calls k _ _ l0 a1 true _ ?side1 ?side2 A5.out).mono ?_); (case side1 => exact kc); (case side2 => exact HC0.out); rintro e w8 ⟨rfl, hb⟩; replace HB := Aside0.mk (below_step bb hb); (try clear hb); (try clear hk)) | (go_at_call 90; (with_reducible refine (impl_isNode.calls k _ _ l0 a2 t245 _ ?side1 ?side2 A7.out).mono ?_); (case side1 => exact kc); (case side2 => exact HC0.out); rintro e w9 ⟨rfl, hb⟩; replace HB := Aside0.mk (below_step bb hb); (try clear hb); (try clear hk))); try go_wp2_with (first | (go_at_call 90; (with_reducible refine (impl_isNode.calls k _ _ l0 a1 true _ ?side1 ?side2 A5.out).mono ?_); (case side1 => exact kc); (case side2 => exact HC0.out); rintro e w8 ⟨rfl, hb⟩; replace HB := Aside0.mk (below_step bb hb); (try clear hb); (try clear hk)) | (go_at_call 90; (with_reducible refine (impl_isNode.calls k _ _ l0 a2 t245 _ ?side1 ?side2 A7.out).mono ?_); (case side1 => exact kc); (case side2 => exact HC0.out); rintro e w9 ⟨rfl, hb⟩; replace HB := Aside0.mk (below_step bb hb); (try clear hb); (try clear hk))))
   go_meet
   case rel => exact ⟨_, (!t245), (by first | rfl | (simp; done) | (simp [*]; done)), H', ⟨by first | omega | exact Nat.le_refl _⟩, ⟨bb⟩⟩
  ·replace c6 := Bool.eq_false_iff.mpr c6
   subst c6
   have H1 : (impl_PathBetween.j0 k l0 a1 a2 true) = some r := by rw [if_neg (show ¬ (false = true) by decide)] at H; exact H
   clear H
   have H := H1
   clear H1
   have H' := Aside0.mk H
   clear H
   go_wp2_with (first | (go_at_call 90; (with_reducible refine (impl_isNode.calls k _ _ l0 a1 false _ ?side1 ?side2 A5.out).mono ?_); (case side1 => exact kc); (case side2 => exact HC0.out); rintro e w10 ⟨rfl, hb⟩; replace HB := Aside0.mk (below_step bb hb); (try clear hb); (try clear hk)))
   repeat (go_quiet (first | (go_at_call 90; (with_reducible refine (impl_isNode.calls k _ _ l0 a1 false _ ?side1 ?side2 A5.out).mono ?_); (case side1 => exact kc); (case side2 => exact HC0.out); rintro e w10 ⟨rfl, hb⟩; replace HB := Aside0.mk (below_step bb hb); (try clear hb); (try clear hk))); try go_wp2_with (first | (go_at_call 90; (with_reducible refine (impl_isNode.calls k _ _ l0 a1 false _ ?side1 ?side2 A5.out).mono ?_); (case side1 => exact kc); (case side2 => exact HC0.out); rintro e w10 ⟨rfl, hb⟩; replace HB := Aside0.mk (below_step bb hb); (try clear hb); (try clear hk))))
   go_meet
   case rel => exact ⟨_, (true), (by first | rfl | (simp; done) | (simp [*]; done)), H', ⟨by first | omega | exact Nat.le_refl _⟩, ⟨bb⟩⟩
 case rest =>
  clear HC4
  try clear p2
  try clear c6
  obtain ⟨kq, x20_3, rfl, HA, HJ3, HB⟩ := hcut
  cases kq with
  | zero => exact absurd HA.out (by simp [impl_PathBetween.j0])
  | succ kj3 =>
   have H := HA.out
   clear HA
   simp only [impl_PathBetween.j0] at H
   by_cases c11 : x20_3 = true
   ·subst c11
    have H1 : (some ([] : List Int)) = some r := by rw [if_pos rfl] at H; exact H
    clear H
    have H := H1
    clear H1
    obtain rfl := Option.some.inj H
    go_wp2
    repeat (go_quiet (fail); try go_wp2)
    go_ret
    exact ⟨_, er, by first | exact Kd.R_nil _ _ _ _ _ | exact Kd.N_nil _ _ _ _ _ | exact Kd.V_nil _ _ _ _ _ | exact Kd.Q_nil _ _ _ _ _ | exact Kd.S_nil _ _ _ _ _, bb⟩
   ·replace c11 := Bool.eq_false_iff.mpr c11
    subst c11
    have H1 : ((impl_PathTo.f kj3 l0 a1).bind fun t246 => ((impl_PathTo.f kj3 l0 a2).bind fun t249 => (impl_PathBetween.l0 kj3 t246 t249 0))) = some r := by rw [if_neg (show ¬ (false = true) by decide)] at H; exact H
    clear H
    have H := H1
    clear H1
    replace H := Option.bind_eq_some_iff.mp H
    obtain ⟨t246, A120, H⟩ := H
    replace H : ((impl_PathTo.f kj3 l0 a2).bind fun t249 => (impl_PathBetween.l0 kj3 t246 t249 0)) = some r := H
    have A12 := Aside0.mk A120
    clear A120
    replace H := Option.bind_eq_some_iff.mp H
    obtain ⟨t249, A130, H⟩ := H
    replace H : (impl_PathBetween.l0 kj3 t246 t249 0) = some r := H
    have A13 := Aside0.mk A130
    clear A130
    have H' := Aside0.mk H
    clear H
    go_wp2_with (first | (go_at_call 61; (with_reducible refine (impl_PathTo.calls kj3 _ _ l0 a1 t246 _ ?side1 ?side2 A12.out).mono ?_); (case side1 => exact kc); (case side2 => exact HC0.out); rintro e w14 ⟨v247, rfl, ho0, hb⟩; have t_ := fc2 (Kd.R_lower ho0 (below_size bb)) (below_step bb hb); clear HB; obtain ⟨HO248, HB⟩ := t_; (try clear hb); (try clear hk); (try clear ho0)) | (go_at_call 61; (with_reducible refine (impl_PathTo.calls kj3 _ _ l0 a2 t249 _ ?side1 ?side2 A13.out).mono ?_); (case side1 => exact kc); (case side2 => exact HC0.out); rintro e w15 ⟨v250, rfl, ho0, hb⟩; have t_ := fc3 (Kd.R_elder' (ra HO248.out) (Kd.R_base ho0) hb) (Kd.R_lower (Kd.R_new' ho0 (Kd.R_lt (ra HO248.out))) (below_size bb)) (below_step bb hb); clear HO248 HB; obtain ⟨HO248, HO251, HB⟩ := t_; (try clear hb); (try clear hk); (try clear ho0)))
    repeat (go_quiet (first | (go_at_call 61; (with_reducible refine (impl_PathTo.calls kj3 _ _ l0 a1 t246 _ ?side1 ?side2 A12.out).mono ?_); (case side1 => exact kc); (case side2 => exact HC0.out); rintro e w14 ⟨v247, rfl, ho0, hb⟩; have t_ := fc2 (Kd.R_lower ho0 (below_size bb)) (below_step bb hb); clear HB; obtain ⟨HO248, HB⟩ := t_; (try clear hb); (try clear hk); (try clear ho0)) | (go_at_call 61; (with_reducible refine (impl_PathTo.calls kj3 _ _ l0 a2 t249 _ ?side1 ?side2 A13.out).mono ?_); (case side1 => exact kc); (case side2 => exact HC0.out); rintro e w15 ⟨v250, rfl, ho0, hb⟩; have t_ := fc3 (Kd.R_elder' (ra HO248.out) (Kd.R_base ho0) hb) (Kd.R_lower (Kd.R_new' ho0 (Kd.R_lt (ra HO248.out))) (below_size bb)) (below_step bb hb); clear HO248 HB; obtain ⟨HO248, HO251, HB⟩ := t_; (try clear hb); (try clear hk); (try clear ho0))); try go_wp2_with (first | (go_at_call 61; (with_reducible refine (impl_PathTo.calls kj3 _ _ l0 a1 t246 _ ?side1 ?side2 A12.out).mono ?_); (case side1 => exact kc); (case side2 => exact HC0.out); rintro e w14 ⟨v247, rfl, ho0, hb⟩; have t_ := fc2 (Kd.R_lower ho0 (below_size bb)) (below_step bb hb); clear HB; obtain ⟨HO248, HB⟩ := t_; (try clear hb); (try clear hk); (try clear ho0)) | (go_at_call 61; (with_reducible refine (impl_PathTo.calls kj3 _ _ l0 a2 t249 _ ?side1 ?side2 A13.out).mono ?_); (case side1 => exact kc); (case side2 => exact HC0.out); rintro e w15 ⟨v250, rfl, ho0, hb⟩; have t_ := fc3 (Kd.R_elder' (ra HO248.out) (Kd.R_base ho0) hb) (Kd.R_lower (Kd.R_new' ho0 (Kd.R_lt (ra HO248.out))) (below_size bb)) (below_step bb hb); clear HO248 HB; obtain ⟨HO248, HO251, HB⟩ := t_; (try clear hb); (try clear hk); (try clear ho0))))
    go_loopg [9] kj3 (fun kq v9 w' => ∃ (x9_2 : Int), v9 = .int .i64 x9_2 ∧ Aside0 (impl_PathBetween.l0 kq t246 t249 x9_2 = some r) ∧ Aside0 (kq ≤ kj3) ∧ Aside0 (Kd.R (Kd.int .i64) 3 w' w.heap.size (fun k_ => some k_ ≠ (v250 : Value).ownBlock) v247 t246) ∧ Aside0 (Kd.R (Kd.int .i64) 3 w' w.heap.size (fun k_ => some k_ ≠ (v247 : Value).ownBlock) v250 t249) ∧ Aside0 (Below w.heap.size w w'))
    case atStart => exact ⟨(0), (by first | rfl | (simp; done) | (simp [*]; done)), H', ⟨Nat.le_refl _⟩, ⟨by (with_reducible repeat (first | apply Kd.R_alloc | apply Kd.R_drewN | apply Kd.R_drew)); exact Kd.R_mono HO248.out fk⟩, ⟨by (with_reducible repeat (first | apply Kd.R_alloc | apply Kd.R_drewN | apply Kd.R_drew)); exact Kd.R_mono HO251.out fk⟩, ⟨bb⟩⟩
    case round =>
     clear H'
     try clear c1
     try clear p2
     try clear c6
     try clear c11
     try clear p2
     obtain ⟨x9_2, rfl, HA, HK2, HO_7, HO_8, HB⟩ := hrel
     cases gk with
     | zero => exact absurd HA.out (by simp [impl_PathBetween.l0])
     | succ k2 =>
      have H := HA.out
      clear HA
      simp only [impl_PathBetween.l0] at H
      obtain ⟨ji16, hji16⟩ : ∃ j_ : Int, (mn (t246.length : Int) (t249.length : Int)) = j_ := ⟨_, rfl⟩
      replace H : (if x9_2 < (ji16) then (if 0 ≤ x9_2 then (if x9_2 < (t246.length : Int) then (if x9_2 < (t249.length : Int) then (if (rd t246 x9_2) = (rd t249 x9_2) then (impl_PathBetween.l0 k2 t246 t249 (wrap64 (x9_2 + 1))) else (if 0 ≤ (wrap64 (x9_2 - 1)) then (if (wrap64 (x9_2 - 1)) ≤ (t246.length : Int) then ((slices_Clone_int_int.f (t246.drop ((wrap64 (x9_2 - 1)) : Int).toNat)).bind fun t258 => ((slices_Reverse_int_int.f k2 t258).bind fun t261 => (if x9_2 ≤ (t249.length : Int) then ((some (t249.drop (x9_2 : Int).toNat : List Int)).bind fun y262 => (if t261.length + y262.length < 17592186044416 then (some (t261 ++ y262)) else (none))) else (none)))) else (none)) else (none))) else (none)) else (none)) else (none)) else (if 0 ≤ (wrap64 (x9_2 - 1)) then (if (wrap64 (x9_2 - 1)) ≤ (t246.length : Int) then ((slices_Clone_int_int.f (t246.drop ((wrap64 (x9_2 - 1)) : Int).toNat)).bind fun t273 => ((slices_Reverse_int_int.f k2 t273).bind fun t276 => (if 0 ≤ x9_2 then (if x9_2 ≤ (t249.length : Int) then ((some (t249.drop (x9_2 : Int).toNat : List Int)).bind fun y277 => (if t276.length + y277.length < 17592186044416 then (some (t276 ++ y277)) else (none))) else (none)) else (none)))) else (none)) else (none))) = some r := by first | (rw [hji16] at H; exact H) | (simp only [hji16] at H ⊢; exact H)
      have hji16_ : (if (t249.length : Int) < (t246.length : Int) then (t249.length : Int) else (t246.length : Int)) = ji16 := hji16
      have hji16n : (if t249.length < t246.length then (t249.length : Int) else (t246.length : Int)) = ji16 := by rw [← hji16_]; simp only [Int.ofNat_lt]
      by_cases c17 : x9_2 < (ji16)
      ·rw [if_pos c17] at H
       have c17b0 : decide (x9_2 < (ji16)) = true := decide_eq_true c17
       clear c17
       by_cases c18 : 0 ≤ x9_2
       ·rw [if_pos c18] at H
        have c18b0 : decide (0 ≤ x9_2) = true := decide_eq_true c18
        clear c18
        by_cases c19 : x9_2 < (t246.length : Int)
        ·rw [if_pos c19] at H
         have c19b0 : decide (x9_2 < (t246.length : Int)) = true := decide_eq_true c19
         clear c19
         by_cases c20 : x9_2 < (t249.length : Int)
         ·rw [if_pos c20] at H
          have c20b0 : decide (x9_2 < (t249.length : Int)) = true := decide_eq_true c20
          clear c20
          by_cases c21 : (rd t246 x9_2) = (rd t249 x9_2)
          ·rw [if_pos c21] at H
           have c21b0 : ((rd t246 x9_2) == (rd t249 x9_2)) = true := beq_iff_eq.mpr c21
           have c21b1 : ((rd t246 x9_2) != (rd t249 x9_2)) = false := bne_eq_false_iff_eq.mpr c21
           clear c21
           have H' := Aside0.mk H
           clear H
           obtain ⟨Ao22, co22, eo22⟩ := Kd.R_slice HO_7.out
           subst eo22
           obtain ⟨Ao23, co23, eo23⟩ := Kd.R_slice HO_8.out
           subst eo23
           have p252 : 0 ≤ (x9_2 : Int) := of_decide_eq_true as_
           have q252 : x9_2 < (t246.length : Int) := of_decide_eq_true as_
           obtain ⟨ad252, e252, hx252_0⟩ := Kd.at_int (Kd.R_reads' HO_7.out).2.2 x9_2 p252 q252
           cases e252
           replace p252 := eq_true p252
           replace q252 := eq_true q252
           have p253 : 0 ≤ (x9_2 : Int) := of_decide_eq_true as_
           have q253 : x9_2 < (t249.length : Int) := of_decide_eq_true as_
           obtain ⟨ad253, e253, hx253_0⟩ := Kd.at_int (Kd.R_reads' HO_8.out).2.2 x9_2 p253 q253
           cases e253
           replace p253 := eq_true p253
           replace q253 := eq_true q253
           go_wp2
           repeat (go_quiet (fail); try go_wp2)
           go_roundg k2
           case measure => have := HJ3.out; have := HK2.out; omega
           case rel => exact ⟨(wrap64 (x9_2 + 1)), (by first | rfl | (simp; done) | (simp [*]; done)), H', ⟨by have := HJ3.out; have := HK2.out; omega⟩, ⟨by (with_reducible repeat (first | apply Kd.R_alloc | apply Kd.R_drewN | apply Kd.R_drew)); exact HO_7.out⟩, ⟨by (with_reducible repeat (first | apply Kd.R_alloc | apply Kd.R_drewN | apply Kd.R_drew)); exact HO_8.out⟩, ⟨bb⟩⟩
          ·rw [if_neg c21] at H
           have c21b0 : ((rd t246 x9_2) == (rd t249 x9_2)) = false := beq_eq_false_iff_ne.mpr c21
           have c21b1 : ((rd t246 x9_2) != (rd t249 x9_2)) = true := bne_iff_ne.mpr c21
           obtain ⟨ji24, hji24⟩ : ∃ j_ : Int, (wrap64 (x9_2 - 1)) = j_ := ⟨_, rfl⟩
           replace H : (if 0 ≤ (ji24) then (if (ji24) ≤ (t246.length : Int) then ((slices_Clone_int_int.f (t246.drop ((ji24) : Int).toNat)).bind fun t258 => ((slices_Reverse_int_int.f k2 t258).bind fun t261 => (if x9_2 ≤ (t249.length : Int) then ((some (t249.drop (x9_2 : Int).toNat : List Int)).bind fun y262 => (if t261.length + y262.length < 17592186044416 then (some (t261 ++ y262)) else (none))) else (none)))) else (none)) else (none)) = some r := by first | (rw [hji24] at H; exact H) | (simp only [hji24] at H ⊢; exact H)
           have hji24w : (IntKind.i64.wrap (x9_2 - 1)) = ji24 := (i64_w _).trans hji24
           by_cases c25 : 0 ≤ (ji24)
           ·rw [if_pos c25] at H
            have c25b0 := eq_true c25
            have c25b1 : decide (0 ≤ (ji24)) = true := decide_eq_true c25
            clear c25
            by_cases c26 : (ji24) ≤ (t246.length : Int)
            ·rw [if_pos c26] at H
             have c26b0 := eq_true c26
             have c26b1 : decide ((ji24) ≤ (t246.length : Int)) = true := decide_eq_true c26
             clear c26
             obtain ⟨y254, hy254⟩ : ∃ y_ : List Int, y_ = (t246.drop ((ji24) : Int).toNat) := ⟨_, rfl⟩
             replace H : ((slices_Clone_int_int.f y254).bind fun t258 => ((slices_Reverse_int_int.f k2 t258).bind fun t261 => (if x9_2 ≤ (t249.length : Int) then ((some (t249.drop (x9_2 : Int).toNat : List Int)).bind fun y262 => (if t261.length + y262.length < 17592186044416 then (some (t261 ++ y262)) else (none))) else (none)))) = some r := by first | (rw [hy254]; with_reducible exact H) | (have H2_ := (Option.bind_some _ _).symm.trans H; rw [hy254]; with_reducible exact H2_) | (have H2_ := (Option.bind_some _ _).symm.trans H; with_reducible exact H2_) | with_reducible exact H | (rw [hy254]; exact H) | exact H
             have Ny254 := Aside0.mk hy254
             clear hy254
             replace H := Option.bind_eq_some_iff.mp H
             obtain ⟨t258, A270, H⟩ := H
             replace H : ((slices_Reverse_int_int.f k2 t258).bind fun t261 => (if x9_2 ≤ (t249.length : Int) then ((some (t249.drop (x9_2 : Int).toNat : List Int)).bind fun y262 => (if t261.length + y262.length < 17592186044416 then (some (t261 ++ y262)) else (none))) else (none))) = some r := H
             have A27 := Aside0.mk A270
             clear A270
             replace H := Option.bind_eq_some_iff.mp H
             obtain ⟨t261, A280, H⟩ := H
             replace H : (if x9_2 ≤ (t249.length : Int) then ((some (t249.drop (x9_2 : Int).toNat : List Int)).bind fun y262 => (if t261.length + y262.length < 17592186044416 then (some (t261 ++ y262)) else (none))) else (none)) = some r := H
             have A28 := Aside0.mk A280
             clear A280
             have c29b0 := eq_true (of_decide_eq_true as_ : 0 ≤ x9_2)
             by_cases c30 : x9_2 ≤ (t249.length : Int)
             ·rw [if_pos c30] at H
              have c30b0 := eq_true c30
              have c30b1 : decide (x9_2 ≤ (t249.length : Int)) = true := decide_eq_true c30
              clear c30
              obtain ⟨y262, hy262⟩ : ∃ y_ : List Int, y_ = (t249.drop (x9_2 : Int).toNat) := ⟨_, rfl⟩
              replace H : (if t261.length + y262.length < 17592186044416 then (some (t261 ++ y262)) else (none)) = some r := by first | (rw [hy262]; with_reducible exact H) | (have H2_ := (Option.bind_some _ _).symm.trans H; rw [hy262]; with_reducible exact H2_) | (have H2_ := (Option.bind_some _ _).symm.trans H; with_reducible exact H2_) | with_reducible exact H | (rw [hy262]; exact H) | exact H
              have Ny262 := Aside0.mk hy262
              clear hy262
              by_cases c31 : t261.length + y262.length < 17592186044416
              ·rw [if_pos c31] at H
               have LMc31 := Aside0.mk c31
               clear c31
               obtain ⟨y266, hy266⟩ : ∃ y_ : List Int, y_ = (t261 ++ y262) := ⟨_, rfl⟩
               replace H : (some y266) = some r := by first | (rw [hy266]; with_reducible exact H) | (have H2_ := (Option.bind_some _ _).symm.trans H; rw [hy266]; with_reducible exact H2_) | (have H2_ := (Option.bind_some _ _).symm.trans H; with_reducible exact H2_) | with_reducible exact H | (rw [hy266]; exact H) | exact H
               have Ny266 := Aside0.mk hy266
               clear hy266
               obtain rfl := Option.some.inj H
               obtain ⟨Ao32, co32, eo32⟩ := Kd.R_slice HO_7.out
               subst eo32
               obtain ⟨Ao33, co33, eo33⟩ := Kd.R_slice HO_8.out
               subst eo33
               have p252 : 0 ≤ (x9_2 : Int) := of_decide_eq_true as_
               have q252 : x9_2 < (t246.length : Int) := of_decide_eq_true as_
               obtain ⟨ad252, e252, hx252_0⟩ := Kd.at_int (Kd.R_reads' HO_7.out).2.2 x9_2 p252 q252
               cases e252
               replace p252 := eq_true p252
               replace q252 := eq_true q252
               have p253 : 0 ≤ (x9_2 : Int) := of_decide_eq_true as_
               have q253 : x9_2 < (t249.length : Int) := of_decide_eq_true as_
               obtain ⟨ad253, e253, hx253_0⟩ := Kd.at_int (Kd.R_reads' HO_8.out).2.2 x9_2 p253 q253
               cases e253
               replace p253 := eq_true p253
               replace q253 := eq_true q253
               have q34 : ((ji24) : Int) ≤ ((t246.length : Int) : Int) := of_decide_eq_true as_
               obtain ⟨i034, hi034, _, hsz34, _⟩ := info_parts info3
               have hroom34 : t246.length ≤ co32 := (Kd.R_reads' HO_7.out).2.1
               have hC34 : Kd.C (Kd.int .i64) _ (some ad252) t246.length t246 := (Kd.R_reads' HO_7.out).2.2
               have q034 : (0 : Int) ≤ ((ji24) : Int) := of_decide_eq_true as_
               have hcut34 := cut_from (P := Try.prog) 23 3 .i64 Try.underlying23 hi034 1 hsz34 (some ad252) t246.length co32 (ji24) q034 q34
               have hr34 := Kd.C_drop (m := ((ji24) : Int).toNat) (c := co32) hC34 (by omega) hroom34
               obtain ⟨A34, hA34⟩ : ∃ A1, A1 = (if co32 = ((ji24) : Int).toNat then (some ad252) else ((some ad252) : Option Addr).map (·.add (((ji24) : Int).toNat * 1))) := ⟨_, rfl⟩
               obtain ⟨c34, hc34⟩ : ∃ c1, c1 = co32 - ((ji24) : Int).toNat := ⟨_, rfl⟩
               have hy34 : y254.length = t246.length - ((ji24) : Int).toNat := (by rw [Ny254.out, List.length_drop] <;> omega)
               rw [show (t246).drop ((ji24) : Int).toNat = y254 from Ny254.out.symm] at hr34
               replace hr34 : Kd.C (Kd.int .i64) _ A34 y254.length y254 := (by rw [hA34]; exact hr34)
               rw [← hy34, ← hA34, ← hc34] at hcut34
               have HR257 := Aside0.mk hr34
               have HC257 := Aside0.mk (show y254.length ≤ c34 from by rw [hy34, hc34]; exact Nat.sub_le_sub_right hroom34 _)
               clear hr34 hC34 hroom34 hi034 hsz34 hc34
               have KY34 := Aside0.mk hy34
               have KA34 := Aside0.mk hA34
               clear hy34 hA34
               have KL34 := Aside0.mk (show ((ji24) : Int).toNat ≤ t246.length from by omega)
               replace q34 := eq_true q34
               go_wp2_with (first | (go_at_call 99; (with_reducible refine (slices_Clone_int_int.calls _ _ y254 t258 _ ?side1 ?side2 A27.out).mono ?_); (case side1 => repeat (first | exact (by repeat (first | (with_reducible exact HR257.out) | (with_reducible refine Kd.C_alloc ?_ _) | (with_reducible refine Kd.C_drewN ?_ _) | (with_reducible refine Kd.C_drew ?_) | exact HR257.out)) | (with_reducible refine Kd.C_alloc ?_ _) | (with_reducible refine Kd.C_drewN ?_ _) | (with_reducible refine Kd.C_drew ?_))); (case side2 => exact HC257.out); rintro e w35 ⟨v259, rfl, ho0, hb⟩; have t_ := fc5 (Kd.R_elder' (ra HO_7.out) (Kd.R_base ho0) hb) (Kd.R_elder' (ra HO_8.out) (Kd.R_base ho0) hb) (Kd.R_lower (Kd.R_new' (Kd.R_new' ho0 (Kd.R_lt (ra HO_7.out))) (Kd.R_lt (ra HO_8.out))) (below_size bb)) (Kd.C_below (by repeat (first | (with_reducible exact HR257.out) | (with_reducible refine Kd.C_alloc ?_ _) | (with_reducible refine Kd.C_drewN ?_ _) | (with_reducible refine Kd.C_drew ?_) | exact HR257.out)) hb) (below_step bb hb); clear HO_7 HO_8 HR257 HB; obtain ⟨HO_7, HO_8, HO260, HR257, HB⟩ := t_; (try clear hb); (try clear hk); (try clear ho0); obtain ⟨Ao36, co36, eo36⟩ := Kd.R_slice HO260.out; subst eo36) | (go_at_call 115; (with_reducible refine (slices_Reverse_int_int.calls k2 (fun k_ => some k_ = (.slice Ao36 t258.length co36 : Value).ownBlock) (.slice Ao36 t258.length co36) t258 t261 w _ ?side1 ?side2 A28.out).mono ?_); (case side1 => exact bb); (case side2 => exact Kd.R_tight rfl HO260.out); rintro e w37 ⟨rfl, hy0, hb, hkp⟩; have t_ := fc4 (Kd.R_mono (ok' := fun k_ => some k_ ≠ (.slice (some ad253) t249.length co33 : Value).ownBlock ∧ some k_ ≠ (.slice Ao36 t258.length co36 : Value).ownBlock) (Kd.R_keptB (HO_7.out) hkp (fun k_ hk_ hs_ => by first | exact (hk_.2) hs_ | (revert hs_; simp only [ne_eq, hk_, false_imp_iff]))) (fun k_ hk_ => by first | exact ⟨hk_.1.1, hk_.1.2⟩ | simp only [ne_eq, hk_, not_false_eq_true, and_self, true_and, and_true])) (Kd.R_mono (ok' := fun k_ => some k_ ≠ (.slice (some ad252) t246.length co32 : Value).ownBlock ∧ some k_ ≠ (.slice Ao36 t258.length co36 : Value).ownBlock) (Kd.R_keptB (HO_8.out) hkp (fun k_ hk_ hs_ => by first | exact (hk_.2) hs_ | (revert hs_; simp only [ne_eq, hk_, false_imp_iff]))) (fun k_ hk_ => by first | exact ⟨hk_.1.1, hk_.1.2⟩ | simp only [ne_eq, hk_, not_false_eq_true, and_self, true_and, and_true])) (Kd.R_reok rfl hy0 (fun k_ e_ => HO260.out.1 k_ e_)) (hb); clear HO_7 HO_8 HO260 HB; obtain ⟨HO_7, HO_8, HO260, HB⟩ := t_; (try clear hb); (try clear hkp); (try clear hy0); have q38 : (x9_2 : Int) ≤ ((t249.length : Int) : Int) := of_decide_eq_true as_; obtain ⟨i038, hi038, _, hsz38, _⟩ := info_parts info3; have hroom38 : t249.length ≤ co33 := (Kd.R_reads' HO_8.out).2.1; have hC38 : Kd.C (Kd.int .i64) _ (some ad253) t249.length t249 := (Kd.R_reads' HO_8.out).2.2; have q038 : (0 : Int) ≤ (x9_2 : Int) := of_decide_eq_true as_; have hcut38 := cut_from (P := Try.prog) 23 3 .i64 Try.underlying23 hi038 1 hsz38 (some ad253) t249.length co33 x9_2 q038 q38; have hr38 := Kd.C_drop (m := (x9_2 : Int).toNat) (c := co33) hC38 (by omega) hroom38; obtain ⟨A38, hA38⟩ : ∃ A1, A1 = (if co33 = (x9_2 : Int).toNat then (some ad253) else ((some ad253) : Option Addr).map (·.add ((x9_2 : Int).toNat * 1))) := ⟨_, rfl⟩; obtain ⟨c38, hc38⟩ : ∃ c1, c1 = co33 - (x9_2 : Int).toNat := ⟨_, rfl⟩; have hy38 : y262.length = t249.length - (x9_2 : Int).toNat := (by rw [Ny262.out, List.length_drop] <;> omega); rw [show (t249).drop (x9_2 : Int).toNat = y262 from Ny262.out.symm] at hr38; replace hr38 : Kd.C (Kd.int .i64) _ A38 y262.length y262 := (by rw [hA38]; exact hr38); rw [← hy38, ← hA38, ← hc38] at hcut38; have HR265 := Aside0.mk hr38; have HC265 := Aside0.mk (show y262.length ≤ c38 from by rw [hy38, hc38]; exact Nat.sub_le_sub_right hroom38 _); clear hr38 hC38 hroom38 hi038 hsz38 hc38; have KY38 := Aside0.mk hy38; have KA38 := Aside0.mk hA38; clear hy38 hA38; have KL38 := Aside0.mk (show (x9_2 : Int).toNat ≤ t249.length from by omega); replace q38 := eq_true q38) | ((with_reducible refine gate_builtin (b := .append) (xs := #[.tmp 54, .tmp 57]) rfl ?_); at_builtin; refine Kd.R_append_rows (Kd.int .i64) (w0 := w) w.heap.size rfl (.tmp 54) (.tmp 57) 23 3 (.int .i64 0) 8 rfl Try.underlying23 info3 rfl (by decide) (by omega) (.slice Ao36 t258.length co36) t261 y262 _ _ _ (fun k_ => some k_ ≠ (.slice (some ad252) t246.length co32 : Value).ownBlock ∧ some k_ ≠ (.slice (some ad253) t249.length co33 : Value).ownBlock) (fun _ => False) rfl rfl ?aO ?aR (fun _ _ h => h) (fun _ h => h.elim) ?aF ?aB ?aS ?aL ?_; (case aR => repeat (first | exact (by repeat (first | (with_reducible exact HR265.out) | (with_reducible refine Kd.C_alloc ?_ _) | (with_reducible refine Kd.C_drewN ?_ _) | (with_reducible refine Kd.C_drew ?_) | exact HR265.out)) | (with_reducible refine Kd.C_alloc ?_ _) | (with_reducible refine Kd.C_drewN ?_ _) | (with_reducible refine Kd.C_drew ?_))); (case aB => exact bb); (case aF => exact (fun k_ hk => ⟨Kd.fresh' (Kd.R_lt (ra HO_7.out)) k_ hk, Kd.fresh' (Kd.R_lt (ra HO_8.out)) k_ hk⟩)); (case aO => exact (ra (Kd.R_mono HO260.out (fun _ hk => (And.intro (hk.1.2) (hk.2)))))); (case aS => exact (below_size bb)); (case aL => have := LMc31.out; omega); intro v267 w39 ho hb hg hat; rw [← Ny266.out] at ho; have t_ := fc5 (Kd.R_after (ok := (fun k_ => some k_ ≠ (.slice (some ad253) t249.length co33 : Value).ownBlock)) (ra HO_7.out) hg hat) (Kd.R_after (ok := (fun k_ => some k_ ≠ (.slice (some ad252) t246.length co32 : Value).ownBlock)) (ra HO_8.out) hg hat) (hb) ((show Kd.C (Kd.int .i64) w39 A38 y262.length y262 from by rw [Ny262.out, KA38.out]; exact Kd.C_drop (m := (x9_2 : Int).toNat) (c := co33) ((Kd.R_reads' (Kd.R_after (ok := (fun k_ => some k_ ≠ (.slice (some ad252) t246.length co32 : Value).ownBlock)) (ra HO_8.out) hg hat)).2.2) KL38.out ((Kd.R_reads' (Kd.R_after (ok := (fun k_ => some k_ ≠ (.slice (some ad252) t246.length co32 : Value).ownBlock)) (ra HO_8.out) hg hat)).2.1))) (ho); clear HO_7 HO_8 HB HR265 HO260; obtain ⟨HO_7, HO_8, HB, HR265, HO268⟩ := t_; clear ho hb hg hat))
               repeat (go_quiet (first | (go_at_call 99; (with_reducible refine (slices_Clone_int_int.calls _ _ y254 t258 _ ?side1 ?side2 A27.out).mono ?_); (case side1 => repeat (first | exact (by repeat (first | (with_reducible exact HR257.out) | (with_reducible refine Kd.C_alloc ?_ _) | (with_reducible refine Kd.C_drewN ?_ _) | (with_reducible refine Kd.C_drew ?_) | exact HR257.out)) | (with_reducible refine Kd.C_alloc ?_ _) | (with_reducible refine Kd.C_drewN ?_ _) | (with_reducible refine Kd.C_drew ?_))); (case side2 => exact HC257.out); rintro e w35 ⟨v259, rfl, ho0, hb⟩; have t_ := fc5 (Kd.R_elder' (ra HO_7.out) (Kd.R_base ho0) hb) (Kd.R_elder' (ra HO_8.out) (Kd.R_base ho0) hb) (Kd.R_lower (Kd.R_new' (Kd.R_new' ho0 (Kd.R_lt (ra HO_7.out))) (Kd.R_lt (ra HO_8.out))) (below_size bb)) (Kd.C_below (by repeat (first | (with_reducible exact HR257.out) | (with_reducible refine Kd.C_alloc ?_ _) | (with_reducible refine Kd.C_drewN ?_ _) | (with_reducible refine Kd.C_drew ?_) | exact HR257.out)) hb) (below_step bb hb); clear HO_7 HO_8 HR257 HB; obtain ⟨HO_7, HO_8, HO260, HR257, HB⟩ := t_; (try clear hb); (try clear hk); (try clear ho0); obtain ⟨Ao36, co36, eo36⟩ := Kd.R_slice HO260.out; subst eo36) | (go_at_call 115; (with_reducible refine (slices_Reverse_int_int.calls k2 (fun k_ => some k_ = (.slice Ao36 t258.length co36 : Value).ownBlock) (.slice Ao36 t258.length co36) t258 t261 w _ ?side1 ?side2 A28.out).mono ?_); (case side1 => exact bb); (case side2 => exact Kd.R_tight rfl HO260.out); rintro e w37 ⟨rfl, hy0, hb, hkp⟩; have t_ := fc4 (Kd.R_mono (ok' := fun k_ => some k_ ≠ (.slice (some ad253) t249.length co33 : Value).ownBlock ∧ some k_ ≠ (.slice Ao36 t258.length co36 : Value).ownBlock) (Kd.R_keptB (HO_7.out) hkp (fun k_ hk_ hs_ => by first | exact (hk_.2) hs_ | (revert hs_; simp only [ne_eq, hk_, false_imp_iff]))) (fun k_ hk_ => by first | exact ⟨hk_.1.1, hk_.1.2⟩ | simp only [ne_eq, hk_, not_false_eq_true, and_self, true_and, and_true])) (Kd.R_mono (ok' := fun k_ => some k_ ≠ (.slice (some ad252) t246.length co32 : Value).ownBlock ∧ some k_ ≠ (.slice Ao36 t258.length co36 : Value).ownBlock) (Kd.R_keptB (HO_8.out) hkp (fun k_ hk_ hs_ => by first | exact (hk_.2) hs_ | (revert hs_; simp only [ne_eq, hk_, false_imp_iff]))) (fun k_ hk_ => by first | exact ⟨hk_.1.1, hk_.1.2⟩ | simp only [ne_eq, hk_, not_false_eq_true, and_self, true_and, and_true])) (Kd.R_reok rfl hy0 (fun k_ e_ => HO260.out.1 k_ e_)) (hb); clear HO_7 HO_8 HO260 HB; obtain ⟨HO_7, HO_8, HO260, HB⟩ := t_; (try clear hb); (try clear hkp); (try clear hy0); have q38 : (x9_2 : Int) ≤ ((t249.length : Int) : Int) := of_decide_eq_true as_; obtain ⟨i038, hi038, _, hsz38, _⟩ := info_parts info3; have hroom38 : t249.length ≤ co33 := (Kd.R_reads' HO_8.out).2.1; have hC38 : Kd.C (Kd.int .i64) _ (some ad253) t249.length t249 := (Kd.R_reads' HO_8.out).2.2; have q038 : (0 : Int) ≤ (x9_2 : Int) := of_decide_eq_true as_; have hcut38 := cut_from (P := Try.prog) 23 3 .i64 Try.underlying23 hi038 1 hsz38 (some ad253) t249.length co33 x9_2 q038 q38; have hr38 := Kd.C_drop (m := (x9_2 : Int).toNat) (c := co33) hC38 (by omega) hroom38; obtain ⟨A38, hA38⟩ : ∃ A1, A1 = (if co33 = (x9_2 : Int).toNat then (some ad253) else ((some ad253) : Option Addr).map (·.add ((x9_2 : Int).toNat * 1))) := ⟨_, rfl⟩; obtain ⟨c38, hc38⟩ : ∃ c1, c1 = co33 - (x9_2 : Int).toNat := ⟨_, rfl⟩; have hy38 : y262.length = t249.length - (x9_2 : Int).toNat := (by rw [Ny262.out, List.length_drop] <;> omega); rw [show (t249).drop (x9_2 : Int).toNat = y262 from Ny262.out.symm] at hr38; replace hr38 : Kd.C (Kd.int .i64) _ A38 y262.length y262 := (by rw [hA38]; exact hr38); rw [← hy38, ← hA38, ← hc38] at hcut38; have HR265 := Aside0.mk hr38; have HC265 := Aside0.mk (show y262.length ≤ c38 from by rw [hy38, hc38]; exact Nat.sub_le_sub_right hroom38 _); clear hr38 hC38 hroom38 hi038 hsz38 hc38; have KY38 := Aside0.mk hy38; have KA38 := Aside0.mk hA38; clear hy38 hA38; have KL38 := Aside0.mk (show (x9_2 : Int).toNat ≤ t249.length from by omega); replace q38 := eq_true q38) | ((with_reducible refine gate_builtin (b := .append) (xs := #[.tmp 54, .tmp 57]) rfl ?_); at_builtin; refine Kd.R_append_rows (Kd.int .i64) (w0 := w) w.heap.size rfl (.tmp 54) (.tmp 57) 23 3 (.int .i64 0) 8 rfl Try.underlying23 info3 rfl (by decide) (by omega) (.slice Ao36 t258.length co36) t261 y262 _ _ _ (fun k_ => some k_ ≠ (.slice (some ad252) t246.length co32 : Value).ownBlock ∧ some k_ ≠ (.slice (some ad253) t249.length co33 : Value).ownBlock) (fun _ => False) rfl rfl ?aO ?aR (fun _ _ h => h) (fun _ h => h.elim) ?aF ?aB ?aS ?aL ?_; (case aR => repeat (first | exact (by repeat (first | (with_reducible exact HR265.out) | (with_reducible refine Kd.C_alloc ?_ _) | (with_reducible refine Kd.C_drewN ?_ _) | (with_reducible refine Kd.C_drew ?_) | exact HR265.out)) | (with_reducible refine Kd.C_alloc ?_ _) | (with_reducible refine Kd.C_drewN ?_ _) | (with_reducible refine Kd.C_drew ?_))); (case aB => exact bb); (case aF => exact (fun k_ hk => ⟨Kd.fresh' (Kd.R_lt (ra HO_7.out)) k_ hk, Kd.fresh' (Kd.R_lt (ra HO_8.out)) k_ hk⟩)); (case aO => exact (ra (Kd.R_mono HO260.out (fun _ hk => (And.intro (hk.1.2) (hk.2)))))); (case aS => exact (below_size bb)); (case aL => have := LMc31.out; omega); intro v267 w39 ho hb hg hat; rw [← Ny266.out] at ho; have t_ := fc5 (Kd.R_after (ok := (fun k_ => some k_ ≠ (.slice (some ad253) t249.length co33 : Value).ownBlock)) (ra HO_7.out) hg hat) (Kd.R_after (ok := (fun k_ => some k_ ≠ (.slice (some ad252) t246.length co32 : Value).ownBlock)) (ra HO_8.out) hg hat) (hb) ((show Kd.C (Kd.int .i64) w39 A38 y262.length y262 from by rw [Ny262.out, KA38.out]; exact Kd.C_drop (m := (x9_2 : Int).toNat) (c := co33) ((Kd.R_reads' (Kd.R_after (ok := (fun k_ => some k_ ≠ (.slice (some ad252) t246.length co32 : Value).ownBlock)) (ra HO_8.out) hg hat)).2.2) KL38.out ((Kd.R_reads' (Kd.R_after (ok := (fun k_ => some k_ ≠ (.slice (some ad252) t246.length co32 : Value).ownBlock)) (ra HO_8.out) hg hat)).2.1))) (ho); clear HO_7 HO_8 HB HR265 HO260; obtain ⟨HO_7, HO_8, HB, HR265, HO268⟩ := t_; clear ho hb hg hat)); try go_wp2_with (first | (go_at_call 99; (with_reducible refine (slices_Clone_int_int.calls _ _ y254 t258 _ ?side1 ?side2 A27.out).mono ?_); (case side1 => repeat (first | exact (by repeat (first | (with_reducible exact HR257.out) | (with_reducible refine Kd.C_alloc ?_ _) | (with_reducible refine Kd.C_drewN ?_ _) | (with_reducible refine Kd.C_drew ?_) | exact HR257.out)) | (with_reducible refine Kd.C_alloc ?_ _) | (with_reducible refine Kd.C_drewN ?_ _) | (with_reducible refine Kd.C_drew ?_))); (case side2 => exact HC257.out); rintro e w35 ⟨v259, rfl, ho0, hb⟩; have t_ := fc5 (Kd.R_elder' (ra HO_7.out) (Kd.R_base ho0) hb) (Kd.R_elder' (ra HO_8.out) (Kd.R_base ho0) hb) (Kd.R_lower (Kd.R_new' (Kd.R_new' ho0 (Kd.R_lt (ra HO_7.out))) (Kd.R_lt (ra HO_8.out))) (below_size bb)) (Kd.C_below (by repeat (first | (with_reducible exact HR257.out) | (with_reducible refine Kd.C_alloc ?_ _) | (with_reducible refine Kd.C_drewN ?_ _) | (with_reducible refine Kd.C_drew ?_) | exact HR257.out)) hb) (below_step bb hb); clear HO_7 HO_8 HR257 HB; obtain ⟨HO_7, HO_8, HO260, HR257, HB⟩ := t_; (try clear hb); (try clear hk); (try clear ho0); obtain ⟨Ao36, co36, eo36⟩ := Kd.R_slice HO260.out; subst eo36) | (go_at_call 115; (with_reducible refine (slices_Reverse_int_int.calls k2 (fun k_ => some k_ = (.slice Ao36 t258.length co36 : Value).ownBlock) (.slice Ao36 t258.length co36) t258 t261 w _ ?side1 ?side2 A28.out).mono ?_); (case side1 => exact bb); (case side2 => exact Kd.R_tight rfl HO260.out); rintro e w37 ⟨rfl, hy0, hb, hkp⟩; have t_ := fc4 (Kd.R_mono (ok' := fun k_ => some k_ ≠ (.slice (some ad253) t249.length co33 : Value).ownBlock ∧ some k_ ≠ (.slice Ao36 t258.length co36 : Value).ownBlock) (Kd.R_keptB (HO_7.out) hkp (fun k_ hk_ hs_ => by first | exact (hk_.2) hs_ | (revert hs_; simp only [ne_eq, hk_, false_imp_iff]))) (fun k_ hk_ => by first | exact ⟨hk_.1.1, hk_.1.2⟩ | simp only [ne_eq, hk_, not_false_eq_true, and_self, true_and, and_true])) (Kd.R_mono (ok' := fun k_ => some k_ ≠ (.slice (some ad252) t246.length co32 : Value).ownBlock ∧ some k_ ≠ (.slice Ao36 t258.length co36 : Value).ownBlock) (Kd.R_keptB (HO_8.out) hkp (fun k_ hk_ hs_ => by first | exact (hk_.2) hs_ | (revert hs_; simp only [ne_eq, hk_, false_imp_iff]))) (fun k_ hk_ => by first | exact ⟨hk_.1.1, hk_.1.2⟩ | simp only [ne_eq, hk_, not_false_eq_true, and_self, true_and, and_true])) (Kd.R_reok rfl hy0 (fun k_ e_ => HO260.out.1 k_ e_)) (hb); clear HO_7 HO_8 HO260 HB; obtain ⟨HO_7, HO_8, HO260, HB⟩ := t_; (try clear hb); (try clear hkp); (try clear hy0); have q38 : (x9_2 : Int) ≤ ((t249.length : Int) : Int) := of_decide_eq_true as_; obtain ⟨i038, hi038, _, hsz38, _⟩ := info_parts info3; have hroom38 : t249.length ≤ co33 := (Kd.R_reads' HO_8.out).2.1; have hC38 : Kd.C (Kd.int .i64) _ (some ad253) t249.length t249 := (Kd.R_reads' HO_8.out).2.2; have q038 : (0 : Int) ≤ (x9_2 : Int) := of_decide_eq_true as_; have hcut38 := cut_from (P := Try.prog) 23 3 .i64 Try.underlying23 hi038 1 hsz38 (some ad253) t249.length co33 x9_2 q038 q38; have hr38 := Kd.C_drop (m := (x9_2 : Int).toNat) (c := co33) hC38 (by omega) hroom38; obtain ⟨A38, hA38⟩ : ∃ A1, A1 = (if co33 = (x9_2 : Int).toNat then (some ad253) else ((some ad253) : Option Addr).map (·.add ((x9_2 : Int).toNat * 1))) := ⟨_, rfl⟩; obtain ⟨c38, hc38⟩ : ∃ c1, c1 = co33 - (x9_2 : Int).toNat := ⟨_, rfl⟩; have hy38 : y262.length = t249.length - (x9_2 : Int).toNat := (by rw [Ny262.out, List.length_drop] <;> omega); rw [show (t249).drop (x9_2 : Int).toNat = y262 from Ny262.out.symm] at hr38; replace hr38 : Kd.C (Kd.int .i64) _ A38 y262.length y262 := (by rw [hA38]; exact hr38); rw [← hy38, ← hA38, ← hc38] at hcut38; have HR265 := Aside0.mk hr38; have HC265 := Aside0.mk (show y262.length ≤ c38 from by rw [hy38, hc38]; exact Nat.sub_le_sub_right hroom38 _); clear hr38 hC38 hroom38 hi038 hsz38 hc38; have KY38 := Aside0.mk hy38; have KA38 := Aside0.mk hA38; clear hy38 hA38; have KL38 := Aside0.mk (show (x9_2 : Int).toNat ≤ t249.length from by omega); replace q38 := eq_true q38) | ((with_reducible refine gate_builtin (b := .append) (xs := #[.tmp 54, .tmp 57]) rfl ?_); at_builtin; refine Kd.R_append_rows (Kd.int .i64) (w0 := w) w.heap.size rfl (.tmp 54) (.tmp 57) 23 3 (.int .i64 0) 8 rfl Try.underlying23 info3 rfl (by decide) (by omega) (.slice Ao36 t258.length co36) t261 y262 _ _ _ (fun k_ => some k_ ≠ (.slice (some ad252) t246.length co32 : Value).ownBlock ∧ some k_ ≠ (.slice (some ad253) t249.length co33 : Value).ownBlock) (fun _ => False) rfl rfl ?aO ?aR (fun _ _ h => h) (fun _ h => h.elim) ?aF ?aB ?aS ?aL ?_; (case aR => repeat (first | exact (by repeat (first | (with_reducible exact HR265.out) | (with_reducible refine Kd.C_alloc ?_ _) | (with_reducible refine Kd.C_drewN ?_ _) | (with_reducible refine Kd.C_drew ?_) | exact HR265.out)) | (with_reducible refine Kd.C_alloc ?_ _) | (with_reducible refine Kd.C_drewN ?_ _) | (with_reducible refine Kd.C_drew ?_))); (case aB => exact bb); (case aF => exact (fun k_ hk => ⟨Kd.fresh' (Kd.R_lt (ra HO_7.out)) k_ hk, Kd.fresh' (Kd.R_lt (ra HO_8.out)) k_ hk⟩)); (case aO => exact (ra (Kd.R_mono HO260.out (fun _ hk => (And.intro (hk.1.2) (hk.2)))))); (case aS => exact (below_size bb)); (case aL => have := LMc31.out; omega); intro v267 w39 ho hb hg hat; rw [← Ny266.out] at ho; have t_ := fc5 (Kd.R_after (ok := (fun k_ => some k_ ≠ (.slice (some ad253) t249.length co33 : Value).ownBlock)) (ra HO_7.out) hg hat) (Kd.R_after (ok := (fun k_ => some k_ ≠ (.slice (some ad252) t246.length co32 : Value).ownBlock)) (ra HO_8.out) hg hat) (hb) ((show Kd.C (Kd.int .i64) w39 A38 y262.length y262 from by rw [Ny262.out, KA38.out]; exact Kd.C_drop (m := (x9_2 : Int).toNat) (c := co33) ((Kd.R_reads' (Kd.R_after (ok := (fun k_ => some k_ ≠ (.slice (some ad252) t246.length co32 : Value).ownBlock)) (ra HO_8.out) hg hat)).2.2) KL38.out ((Kd.R_reads' (Kd.R_after (ok := (fun k_ => some k_ ≠ (.slice (some ad252) t246.length co32 : Value).ownBlock)) (ra HO_8.out) hg hat)).2.1))) (ho); clear HO_7 HO_8 HB HR265 HO260; obtain ⟨HO_7, HO_8, HB, HR265, HO268⟩ := t_; clear ho hb hg hat)))
               go_ret
               exact ⟨_, by first | rfl | (simp [errW_none, errW_some] <;> rfl) | (simp only [← hji16, ← hji24]; first | rfl | (simp [errW_none, errW_some] <;> rfl)) | (simp [*, errW_none, errW_some] <;> rfl), by (with_reducible repeat (first | apply Kd.R_alloc | apply Kd.R_drewN | apply Kd.R_drew)); exact Kd.R_mono HO268.out (fun _ hk => trivial), bb⟩
              ·rw [if_neg c31] at H
               exact absurd H (by simp)
             ·rw [if_neg c30] at H
              exact absurd H (by simp)
            ·rw [if_neg c26] at H
             exact absurd H (by simp)
           ·rw [if_neg c25] at H
            exact absurd H (by simp)
         ·rw [if_neg c20] at H
          exact absurd H (by simp)
        ·rw [if_neg c19] at H
         exact absurd H (by simp)
       ·rw [if_neg c18] at H
        exact absurd H (by simp)
      ·rw [if_neg c17] at H
       have c17b0 : decide (x9_2 < (ji16)) = false := decide_eq_false c17
       clear c17
       obtain ⟨ji40, hji40⟩ : ∃ j_ : Int, (wrap64 (x9_2 - 1)) = j_ := ⟨_, rfl⟩
       replace H : (if 0 ≤ (ji40) then (if (ji40) ≤ (t246.length : Int) then ((slices_Clone_int_int.f (t246.drop ((ji40) : Int).toNat)).bind fun t273 => ((slices_Reverse_int_int.f k2 t273).bind fun t276 => (if 0 ≤ x9_2 then (if x9_2 ≤ (t249.length : Int) then ((some (t249.drop (x9_2 : Int).toNat : List Int)).bind fun y277 => (if t276.length + y277.length < 17592186044416 then (some (t276 ++ y277)) else (none))) else (none)) else (none)))) else (none)) else (none)) = some r := by first | (rw [hji40] at H; exact H) | (simp only [hji40] at H ⊢; exact H)
       have hji40w : (IntKind.i64.wrap (x9_2 - 1)) = ji40 := (i64_w _).trans hji40
       by_cases c41 : 0 ≤ (ji40)
       ·rw [if_pos c41] at H
        have c41b0 := eq_true c41
        have c41b1 : decide (0 ≤ (ji40)) = true := decide_eq_true c41
        clear c41
        by_cases c42 : (ji40) ≤ (t246.length : Int)
        ·rw [if_pos c42] at H
         have c42b0 := eq_true c42
         have c42b1 : decide ((ji40) ≤ (t246.length : Int)) = true := decide_eq_true c42
         clear c42
         obtain ⟨y269, hy269⟩ : ∃ y_ : List Int, y_ = (t246.drop ((ji40) : Int).toNat) := ⟨_, rfl⟩
         replace H : ((slices_Clone_int_int.f y269).bind fun t273 => ((slices_Reverse_int_int.f k2 t273).bind fun t276 => (if 0 ≤ x9_2 then (if x9_2 ≤ (t249.length : Int) then ((some (t249.drop (x9_2 : Int).toNat : List Int)).bind fun y277 => (if t276.length + y277.length < 17592186044416 then (some (t276 ++ y277)) else (none))) else (none)) else (none)))) = some r := by first | (rw [hy269]; with_reducible exact H) | (have H2_ := (Option.bind_some _ _).symm.trans H; rw [hy269]; with_reducible exact H2_) | (have H2_ := (Option.bind_some _ _).symm.trans H; with_reducible exact H2_) | with_reducible exact H | (rw [hy269]; exact H) | exact H
         have Ny269 := Aside0.mk hy269
         clear hy269
         replace H := Option.bind_eq_some_iff.mp H
         obtain ⟨t273, A430, H⟩ := H
         replace H : ((slices_Reverse_int_int.f k2 t273).bind fun t276 => (if 0 ≤ x9_2 then (if x9_2 ≤ (t249.length : Int) then ((some (t249.drop (x9_2 : Int).toNat : List Int)).bind fun y277 => (if t276.length + y277.length < 17592186044416 then (some (t276 ++ y277)) else (none))) else (none)) else (none))) = some r := H
         have A43 := Aside0.mk A430
         clear A430
         replace H := Option.bind_eq_some_iff.mp H
         obtain ⟨t276, A440, H⟩ := H
         replace H : (if 0 ≤ x9_2 then (if x9_2 ≤ (t249.length : Int) then ((some (t249.drop (x9_2 : Int).toNat : List Int)).bind fun y277 => (if t276.length + y277.length < 17592186044416 then (some (t276 ++ y277)) else (none))) else (none)) else (none)) = some r := H
         have A44 := Aside0.mk A440
         clear A440
         by_cases c45 : 0 ≤ x9_2
         ·rw [if_pos c45] at H
          have c45b0 := eq_true c45
          have c45b1 : decide (0 ≤ x9_2) = true := decide_eq_true c45
          clear c45
          by_cases c46 : x9_2 ≤ (t249.length : Int)
          ·rw [if_pos c46] at H
           have c46b0 := eq_true c46
           have c46b1 : decide (x9_2 ≤ (t249.length : Int)) = true := decide_eq_true c46
           clear c46
           obtain ⟨y277, hy277⟩ : ∃ y_ : List Int, y_ = (t249.drop (x9_2 : Int).toNat) := ⟨_, rfl⟩
           replace H : (if t276.length + y277.length < 17592186044416 then (some (t276 ++ y277)) else (none)) = some r := by first | (rw [hy277]; with_reducible exact H) | (have H2_ := (Option.bind_some _ _).symm.trans H; rw [hy277]; with_reducible exact H2_) | (have H2_ := (Option.bind_some _ _).symm.trans H; with_reducible exact H2_) | with_reducible exact H | (rw [hy277]; exact H) | exact H
           have Ny277 := Aside0.mk hy277
           clear hy277
           by_cases c47 : t276.length + y277.length < 17592186044416
           ·rw [if_pos c47] at H
            have LMc47 := Aside0.mk c47
            clear c47
            obtain ⟨y281, hy281⟩ : ∃ y_ : List Int, y_ = (t276 ++ y277) := ⟨_, rfl⟩
            replace H : (some y281) = some r := by first | (rw [hy281]; with_reducible exact H) | (have H2_ := (Option.bind_some _ _).symm.trans H; rw [hy281]; with_reducible exact H2_) | (have H2_ := (Option.bind_some _ _).symm.trans H; with_reducible exact H2_) | with_reducible exact H | (rw [hy281]; exact H) | exact H
            have Ny281 := Aside0.mk hy281
            clear hy281
            obtain rfl := Option.some.inj H
            obtain ⟨Ao48, co48, eo48⟩ := Kd.R_slice HO_7.out
            subst eo48
            obtain ⟨Ao49, co49, eo49⟩ := Kd.R_slice HO_8.out
            subst eo49
            have q50 : ((ji40) : Int) ≤ ((t246.length : Int) : Int) := of_decide_eq_true as_
            obtain ⟨i050, hi050, _, hsz50, _⟩ := info_parts info3
            have hroom50 : t246.length ≤ co48 := (Kd.R_reads' HO_7.out).2.1
            have hC50 : Kd.C (Kd.int .i64) _ Ao48 t246.length t246 := (Kd.R_reads' HO_7.out).2.2
            have q050 : (0 : Int) ≤ ((ji40) : Int) := of_decide_eq_true as_
            have hcut50 := cut_from (P := Try.prog) 23 3 .i64 Try.underlying23 hi050 1 hsz50 Ao48 t246.length co48 (ji40) q050 q50
            have hr50 := Kd.C_drop (m := ((ji40) : Int).toNat) (c := co48) hC50 (by omega) hroom50
            obtain ⟨A50, hA50⟩ : ∃ A1, A1 = (if co48 = ((ji40) : Int).toNat then Ao48 else (Ao48 : Option Addr).map (·.add (((ji40) : Int).toNat * 1))) := ⟨_, rfl⟩
            obtain ⟨c50, hc50⟩ : ∃ c1, c1 = co48 - ((ji40) : Int).toNat := ⟨_, rfl⟩
            have hy50 : y269.length = t246.length - ((ji40) : Int).toNat := (by rw [Ny269.out, List.length_drop] <;> omega)
            rw [show (t246).drop ((ji40) : Int).toNat = y269 from Ny269.out.symm] at hr50
            replace hr50 : Kd.C (Kd.int .i64) _ A50 y269.length y269 := (by rw [hA50]; exact hr50)
            rw [← hy50, ← hA50, ← hc50] at hcut50
            have HR272 := Aside0.mk hr50
            have HC272 := Aside0.mk (show y269.length ≤ c50 from by rw [hy50, hc50]; exact Nat.sub_le_sub_right hroom50 _)
            clear hr50 hC50 hroom50 hi050 hsz50 hc50
            have KY50 := Aside0.mk hy50
            have KA50 := Aside0.mk hA50
            clear hy50 hA50
            have KL50 := Aside0.mk (show ((ji40) : Int).toNat ≤ t246.length from by omega)
            replace q50 := eq_true q50
            go_wp2_with (first | (go_at_call 99; (with_reducible refine (slices_Clone_int_int.calls _ _ y269 t273 _ ?side1 ?side2 A43.out).mono ?_); (case side1 => repeat (first | exact (by repeat (first | (with_reducible exact HR272.out) | (with_reducible refine Kd.C_alloc ?_ _) | (with_reducible refine Kd.C_drewN ?_ _) | (with_reducible refine Kd.C_drew ?_) | exact HR272.out)) | (with_reducible refine Kd.C_alloc ?_ _) | (with_reducible refine Kd.C_drewN ?_ _) | (with_reducible refine Kd.C_drew ?_))); (case side2 => exact HC272.out); rintro e w51 ⟨v274, rfl, ho0, hb⟩; have t_ := fc5 (Kd.R_elder' (ra HO_7.out) (Kd.R_base ho0) hb) (Kd.R_elder' (ra HO_8.out) (Kd.R_base ho0) hb) (Kd.R_lower (Kd.R_new' (Kd.R_new' ho0 (Kd.R_lt (ra HO_7.out))) (Kd.R_lt (ra HO_8.out))) (below_size bb)) (Kd.C_below (by repeat (first | (with_reducible exact HR272.out) | (with_reducible refine Kd.C_alloc ?_ _) | (with_reducible refine Kd.C_drewN ?_ _) | (with_reducible refine Kd.C_drew ?_) | exact HR272.out)) hb) (below_step bb hb); clear HO_7 HO_8 HR272 HB; obtain ⟨HO_7, HO_8, HO275, HR272, HB⟩ := t_; (try clear hb); (try clear hk); (try clear ho0); obtain ⟨Ao52, co52, eo52⟩ := Kd.R_slice HO275.out; subst eo52) | (go_at_call 115; (with_reducible refine (slices_Reverse_int_int.calls k2 (fun k_ => some k_ = (.slice Ao52 t273.length co52 : Value).ownBlock) (.slice Ao52 t273.length co52) t273 t276 w _ ?side1 ?side2 A44.out).mono ?_); (case side1 => exact bb); (case side2 => exact Kd.R_tight rfl HO275.out); rintro e w53 ⟨rfl, hy0, hb, hkp⟩; have t_ := fc4 (Kd.R_mono (ok' := fun k_ => some k_ ≠ (.slice Ao49 t249.length co49 : Value).ownBlock ∧ some k_ ≠ (.slice Ao52 t273.length co52 : Value).ownBlock) (Kd.R_keptB (HO_7.out) hkp (fun k_ hk_ hs_ => by first | exact (hk_.2) hs_ | (revert hs_; simp only [ne_eq, hk_, false_imp_iff]))) (fun k_ hk_ => by first | exact ⟨hk_.1.1, hk_.1.2⟩ | simp only [ne_eq, hk_, not_false_eq_true, and_self, true_and, and_true])) (Kd.R_mono (ok' := fun k_ => some k_ ≠ (.slice Ao48 t246.length co48 : Value).ownBlock ∧ some k_ ≠ (.slice Ao52 t273.length co52 : Value).ownBlock) (Kd.R_keptB (HO_8.out) hkp (fun k_ hk_ hs_ => by first | exact (hk_.2) hs_ | (revert hs_; simp only [ne_eq, hk_, false_imp_iff]))) (fun k_ hk_ => by first | exact ⟨hk_.1.1, hk_.1.2⟩ | simp only [ne_eq, hk_, not_false_eq_true, and_self, true_and, and_true])) (Kd.R_reok rfl hy0 (fun k_ e_ => HO275.out.1 k_ e_)) (hb); clear HO_7 HO_8 HO275 HB; obtain ⟨HO_7, HO_8, HO275, HB⟩ := t_; (try clear hb); (try clear hkp); (try clear hy0); have q54 : (x9_2 : Int) ≤ ((t249.length : Int) : Int) := of_decide_eq_true as_; obtain ⟨i054, hi054, _, hsz54, _⟩ := info_parts info3; have hroom54 : t249.length ≤ co49 := (Kd.R_reads' HO_8.out).2.1; have hC54 : Kd.C (Kd.int .i64) _ Ao49 t249.length t249 := (Kd.R_reads' HO_8.out).2.2; have q054 : (0 : Int) ≤ (x9_2 : Int) := of_decide_eq_true as_; have hcut54 := cut_from (P := Try.prog) 23 3 .i64 Try.underlying23 hi054 1 hsz54 Ao49 t249.length co49 x9_2 q054 q54; have hr54 := Kd.C_drop (m := (x9_2 : Int).toNat) (c := co49) hC54 (by omega) hroom54; obtain ⟨A54, hA54⟩ : ∃ A1, A1 = (if co49 = (x9_2 : Int).toNat then Ao49 else (Ao49 : Option Addr).map (·.add ((x9_2 : Int).toNat * 1))) := ⟨_, rfl⟩; obtain ⟨c54, hc54⟩ : ∃ c1, c1 = co49 - (x9_2 : Int).toNat := ⟨_, rfl⟩; have hy54 : y277.length = t249.length - (x9_2 : Int).toNat := (by rw [Ny277.out, List.length_drop] <;> omega); rw [show (t249).drop (x9_2 : Int).toNat = y277 from Ny277.out.symm] at hr54; replace hr54 : Kd.C (Kd.int .i64) _ A54 y277.length y277 := (by rw [hA54]; exact hr54); rw [← hy54, ← hA54, ← hc54] at hcut54; have HR280 := Aside0.mk hr54; have HC280 := Aside0.mk (show y277.length ≤ c54 from by rw [hy54, hc54]; exact Nat.sub_le_sub_right hroom54 _); clear hr54 hC54 hroom54 hi054 hsz54 hc54; have KY54 := Aside0.mk hy54; have KA54 := Aside0.mk hA54; clear hy54 hA54; have KL54 := Aside0.mk (show (x9_2 : Int).toNat ≤ t249.length from by omega); replace q54 := eq_true q54) | ((with_reducible refine gate_builtin (b := .append) (xs := #[.tmp 54, .tmp 57]) rfl ?_); at_builtin; refine Kd.R_append_rows (Kd.int .i64) (w0 := w) w.heap.size rfl (.tmp 54) (.tmp 57) 23 3 (.int .i64 0) 8 rfl Try.underlying23 info3 rfl (by decide) (by omega) (.slice Ao52 t273.length co52) t276 y277 _ _ _ (fun k_ => some k_ ≠ (.slice Ao48 t246.length co48 : Value).ownBlock ∧ some k_ ≠ (.slice Ao49 t249.length co49 : Value).ownBlock) (fun _ => False) rfl rfl ?aO ?aR (fun _ _ h => h) (fun _ h => h.elim) ?aF ?aB ?aS ?aL ?_; (case aR => repeat (first | exact (by repeat (first | (with_reducible exact HR280.out) | (with_reducible refine Kd.C_alloc ?_ _) | (with_reducible refine Kd.C_drewN ?_ _) | (with_reducible refine Kd.C_drew ?_) | exact HR280.out)) | (with_reducible refine Kd.C_alloc ?_ _) | (with_reducible refine Kd.C_drewN ?_ _) | (with_reducible refine Kd.C_drew ?_))); (case aB => exact bb); (case aF => exact (fun k_ hk => ⟨Kd.fresh' (Kd.R_lt (ra HO_7.out)) k_ hk, Kd.fresh' (Kd.R_lt (ra HO_8.out)) k_ hk⟩)); (case aO => exact (ra (Kd.R_mono HO275.out (fun _ hk => (And.intro (hk.1.2) (hk.2)))))); (case aS => exact (below_size bb)); (case aL => have := LMc47.out; omega); intro v282 w55 ho hb hg hat; rw [← Ny281.out] at ho; have t_ := fc5 (Kd.R_after (ok := (fun k_ => some k_ ≠ (.slice Ao49 t249.length co49 : Value).ownBlock)) (ra HO_7.out) hg hat) (Kd.R_after (ok := (fun k_ => some k_ ≠ (.slice Ao48 t246.length co48 : Value).ownBlock)) (ra HO_8.out) hg hat) (hb) ((show Kd.C (Kd.int .i64) w55 A54 y277.length y277 from by rw [Ny277.out, KA54.out]; exact Kd.C_drop (m := (x9_2 : Int).toNat) (c := co49) ((Kd.R_reads' (Kd.R_after (ok := (fun k_ => some k_ ≠ (.slice Ao48 t246.length co48 : Value).ownBlock)) (ra HO_8.out) hg hat)).2.2) KL54.out ((Kd.R_reads' (Kd.R_after (ok := (fun k_ => some k_ ≠ (.slice Ao48 t246.length co48 : Value).ownBlock)) (ra HO_8.out) hg hat)).2.1))) (ho); clear HO_7 HO_8 HB HR280 HO275; obtain ⟨HO_7, HO_8, HB, HR280, HO283⟩ := t_; clear ho hb hg hat))
            repeat (go_quiet (first | (go_at_call 99; (with_reducible refine (slices_Clone_int_int.calls _ _ y269 t273 _ ?side1 ?side2 A43.out).mono ?_); (case side1 => repeat (first | exact (by repeat (first | (with_reducible exact HR272.out) | (with_reducible refine Kd.C_alloc ?_ _) | (with_reducible refine Kd.C_drewN ?_ _) | (with_reducible refine Kd.C_drew ?_) | exact HR272.out)) | (with_reducible refine Kd.C_alloc ?_ _) | (with_reducible refine Kd.C_drewN ?_ _) | (with_reducible refine Kd.C_drew ?_))); (case side2 => exact HC272.out); rintro e w51 ⟨v274, rfl, ho0, hb⟩; have t_ := fc5 (Kd.R_elder' (ra HO_7.out) (Kd.R_base ho0) hb) (Kd.R_elder' (ra HO_8.out) (Kd.R_base ho0) hb) (Kd.R_lower (Kd.R_new' (Kd.R_new' ho0 (Kd.R_lt (ra HO_7.out))) (Kd.R_lt (ra HO_8.out))) (below_size bb)) (Kd.C_below (by repeat (first | (with_reducible exact HR272.out) | (with_reducible refine Kd.C_alloc ?_ _) | (with_reducible refine Kd.C_drewN ?_ _) | (with_reducible refine Kd.C_drew ?_) | exact HR272.out)) hb) (below_step bb hb); clear HO_7 HO_8 HR272 HB; obtain ⟨HO_7, HO_8, HO275, HR272, HB⟩ := t_; (try clear hb); (try clear hk); (try clear ho0); obtain ⟨Ao52, co52, eo52⟩ := Kd.R_slice HO275.out; subst eo52) | (go_at_call 115; (with_reducible refine (slices_Reverse_int_int.calls k2 (fun k_ => some k_ = (.slice Ao52 t273.length co52 : Value).ownBlock) (.slice Ao52 t273.length co52) t273 t276 w _ ?side1 ?side2 A44.out).mono ?_); (case side1 => exact bb); (case side2 => exact Kd.R_tight rfl HO275.out); rintro e w53 ⟨rfl, hy0, hb, hkp⟩; have t_ := fc4 (Kd.R_mono (ok' := fun k_ => some k_ ≠ (.slice Ao49 t249.length co49 : Value).ownBlock ∧ some k_ ≠ (.slice Ao52 t273.length co52 : Value).ownBlock) (Kd.R_keptB (HO_7.out) hkp (fun k_ hk_ hs_ => by first | exact (hk_.2) hs_ | (revert hs_; simp only [ne_eq, hk_, false_imp_iff]))) (fun k_ hk_ => by first | exact ⟨hk_.1.1, hk_.1.2⟩ | simp only [ne_eq, hk_, not_false_eq_true, and_self, true_and, and_true])) (Kd.R_mono (ok' := fun k_ => some k_ ≠ (.slice Ao48 t246.length co48 : Value).ownBlock ∧ some k_ ≠ (.slice Ao52 t273.length co52 : Value).ownBlock) (Kd.R_keptB (HO_8.out) hkp (fun k_ hk_ hs_ => by first | exact (hk_.2) hs_ | (revert hs_; simp only [ne_eq, hk_, false_imp_iff]))) (fun k_ hk_ => by first | exact ⟨hk_.1.1, hk_.1.2⟩ | simp only [ne_eq, hk_, not_false_eq_true, and_self, true_and, and_true])) (Kd.R_reok rfl hy0 (fun k_ e_ => HO275.out.1 k_ e_)) (hb); clear HO_7 HO_8 HO275 HB; obtain ⟨HO_7, HO_8, HO275, HB⟩ := t_; (try clear hb); (try clear hkp); (try clear hy0); have q54 : (x9_2 : Int) ≤ ((t249.length : Int) : Int) := of_decide_eq_true as_; obtain ⟨i054, hi054, _, hsz54, _⟩ := info_parts info3; have hroom54 : t249.length ≤ co49 := (Kd.R_reads' HO_8.out).2.1; have hC54 : Kd.C (Kd.int .i64) _ Ao49 t249.length t249 := (Kd.R_reads' HO_8.out).2.2; have q054 : (0 : Int) ≤ (x9_2 : Int) := of_decide_eq_true as_; have hcut54 := cut_from (P := Try.prog) 23 3 .i64 Try.underlying23 hi054 1 hsz54 Ao49 t249.length co49 x9_2 q054 q54; have hr54 := Kd.C_drop (m := (x9_2 : Int).toNat) (c := co49) hC54 (by omega) hroom54; obtain ⟨A54, hA54⟩ : ∃ A1, A1 = (if co49 = (x9_2 : Int).toNat then Ao49 else (Ao49 : Option Addr).map (·.add ((x9_2 : Int).toNat * 1))) := ⟨_, rfl⟩; obtain ⟨c54, hc54⟩ : ∃ c1, c1 = co49 - (x9_2 : Int).toNat := ⟨_, rfl⟩; have hy54 : y277.length = t249.length - (x9_2 : Int).toNat := (by rw [Ny277.out, List.length_drop] <;> omega); rw [show (t249).drop (x9_2 : Int).toNat = y277 from Ny277.out.symm] at hr54; replace hr54 : Kd.C (Kd.int .i64) _ A54 y277.length y277 := (by rw [hA54]; exact hr54); rw [← hy54, ← hA54, ← hc54] at hcut54; have HR280 := Aside0.mk hr54; have HC280 := Aside0.mk (show y277.length ≤ c54 from by rw [hy54, hc54]; exact Nat.sub_le_sub_right hroom54 _); clear hr54 hC54 hroom54 hi054 hsz54 hc54; have KY54 := Aside0.mk hy54; have KA54 := Aside0.mk hA54; clear hy54 hA54; have KL54 := Aside0.mk (show (x9_2 : Int).toNat ≤ t249.length from by omega); replace q54 := eq_true q54) | ((with_reducible refine gate_builtin (b := .append) (xs := #[.tmp 54, .tmp 57]) rfl ?_); at_builtin; refine Kd.R_append_rows (Kd.int .i64) (w0 := w) w.heap.size rfl (.tmp 54) (.tmp 57) 23 3 (.int .i64 0) 8 rfl Try.underlying23 info3 rfl (by decide) (by omega) (.slice Ao52 t273.length co52) t276 y277 _ _ _ (fun k_ => some k_ ≠ (.slice Ao48 t246.length co48 : Value).ownBlock ∧ some k_ ≠ (.slice Ao49 t249.length co49 : Value).ownBlock) (fun _ => False) rfl rfl ?aO ?aR (fun _ _ h => h) (fun _ h => h.elim) ?aF ?aB ?aS ?aL ?_; (case aR => repeat (first | exact (by repeat (first | (with_reducible exact HR280.out) | (with_reducible refine Kd.C_alloc ?_ _) | (with_reducible refine Kd.C_drewN ?_ _) | (with_reducible refine Kd.C_drew ?_) | exact HR280.out)) | (with_reducible refine Kd.C_alloc ?_ _) | (with_reducible refine Kd.C_drewN ?_ _) | (with_reducible refine Kd.C_drew ?_))); (case aB => exact bb); (case aF => exact (fun k_ hk => ⟨Kd.fresh' (Kd.R_lt (ra HO_7.out)) k_ hk, Kd.fresh' (Kd.R_lt (ra HO_8.out)) k_ hk⟩)); (case aO => exact (ra (Kd.R_mono HO275.out (fun _ hk => (And.intro (hk.1.2) (hk.2)))))); (case aS => exact (below_size bb)); (case aL => have := LMc47.out; omega); intro v282 w55 ho hb hg hat; rw [← Ny281.out] at ho; have t_ := fc5 (Kd.R_after (ok := (fun k_ => some k_ ≠ (.slice Ao49 t249.length co49 : Value).ownBlock)) (ra HO_7.out) hg hat) (Kd.R_after (ok := (fun k_ => some k_ ≠ (.slice Ao48 t246.length co48 : Value).ownBlock)) (ra HO_8.out) hg hat) (hb) ((show Kd.C (Kd.int .i64) w55 A54 y277.length y277 from by rw [Ny277.out, KA54.out]; exact Kd.C_drop (m := (x9_2 : Int).toNat) (c := co49) ((Kd.R_reads' (Kd.R_after (ok := (fun k_ => some k_ ≠ (.slice Ao48 t246.length co48 : Value).ownBlock)) (ra HO_8.out) hg hat)).2.2) KL54.out ((Kd.R_reads' (Kd.R_after (ok := (fun k_ => some k_ ≠ (.slice Ao48 t246.length co48 : Value).ownBlock)) (ra HO_8.out) hg hat)).2.1))) (ho); clear HO_7 HO_8 HB HR280 HO275; obtain ⟨HO_7, HO_8, HB, HR280, HO283⟩ := t_; clear ho hb hg hat)); try go_wp2_with (first | (go_at_call 99; (with_reducible refine (slices_Clone_int_int.calls _ _ y269 t273 _ ?side1 ?side2 A43.out).mono ?_); (case side1 => repeat (first | exact (by repeat (first | (with_reducible exact HR272.out) | (with_reducible refine Kd.C_alloc ?_ _) | (with_reducible refine Kd.C_drewN ?_ _) | (with_reducible refine Kd.C_drew ?_) | exact HR272.out)) | (with_reducible refine Kd.C_alloc ?_ _) | (with_reducible refine Kd.C_drewN ?_ _) | (with_reducible refine Kd.C_drew ?_))); (case side2 => exact HC272.out); rintro e w51 ⟨v274, rfl, ho0, hb⟩; have t_ := fc5 (Kd.R_elder' (ra HO_7.out) (Kd.R_base ho0) hb) (Kd.R_elder' (ra HO_8.out) (Kd.R_base ho0) hb) (Kd.R_lower (Kd.R_new' (Kd.R_new' ho0 (Kd.R_lt (ra HO_7.out))) (Kd.R_lt (ra HO_8.out))) (below_size bb)) (Kd.C_below (by repeat (first | (with_reducible exact HR272.out) | (with_reducible refine Kd.C_alloc ?_ _) | (with_reducible refine Kd.C_drewN ?_ _) | (with_reducible refine Kd.C_drew ?_) | exact HR272.out)) hb) (below_step bb hb); clear HO_7 HO_8 HR272 HB; obtain ⟨HO_7, HO_8, HO275, HR272, HB⟩ := t_; (try clear hb); (try clear hk); (try clear ho0); obtain ⟨Ao52, co52, eo52⟩ := Kd.R_slice HO275.out; subst eo52) | (go_at_call 115; (with_reducible refine (slices_Reverse_int_int.calls k2 (fun k_ => some k_ = (.slice Ao52 t273.length co52 : Value).ownBlock) (.slice Ao52 t273.length co52) t273 t276 w _ ?side1 ?side2 A44.out).mono ?_); (case side1 => exact bb); (case side2 => exact Kd.R_tight rfl HO275.out); rintro e w53 ⟨rfl, hy0, hb, hkp⟩; have t_ := fc4 (Kd.R_mono (ok' := fun k_ => some k_ ≠ (.slice Ao49 t249.length co49 : Value).ownBlock ∧ some k_ ≠ (.slice Ao52 t273.length co52 : Value).ownBlock) (Kd.R_keptB (HO_7.out) hkp (fun k_ hk_ hs_ => by first | exact (hk_.2) hs_ | (revert hs_; simp only [ne_eq, hk_, false_imp_iff]))) (fun k_ hk_ => by first | exact ⟨hk_.1.1, hk_.1.2⟩ | simp only [ne_eq, hk_, not_false_eq_true, and_self, true_and, and_true])) (Kd.R_mono (ok' := fun k_ => some k_ ≠ (.slice Ao48 t246.length co48 : Value).ownBlock ∧ some k_ ≠ (.slice Ao52 t273.length co52 : Value).ownBlock) (Kd.R_keptB (HO_8.out) hkp (fun k_ hk_ hs_ => by first | exact (hk_.2) hs_ | (revert hs_; simp only [ne_eq, hk_, false_imp_iff]))) (fun k_ hk_ => by first | exact ⟨hk_.1.1, hk_.1.2⟩ | simp only [ne_eq, hk_, not_false_eq_true, and_self, true_and, and_true])) (Kd.R_reok rfl hy0 (fun k_ e_ => HO275.out.1 k_ e_)) (hb); clear HO_7 HO_8 HO275 HB; obtain ⟨HO_7, HO_8, HO275, HB⟩ := t_; (try clear hb); (try clear hkp); (try clear hy0); have q54 : (x9_2 : Int) ≤ ((t249.length : Int) : Int) := of_decide_eq_true as_; obtain ⟨i054, hi054, _, hsz54, _⟩ := info_parts info3; have hroom54 : t249.length ≤ co49 := (Kd.R_reads' HO_8.out).2.1; have hC54 : Kd.C (Kd.int .i64) _ Ao49 t249.length t249 := (Kd.R_reads' HO_8.out).2.2; have q054 : (0 : Int) ≤ (x9_2 : Int) := of_decide_eq_true as_; have hcut54 := cut_from (P := Try.prog) 23 3 .i64 Try.underlying23 hi054 1 hsz54 Ao49 t249.length co49 x9_2 q054 q54; have hr54 := Kd.C_drop (m := (x9_2 : Int).toNat) (c := co49) hC54 (by omega) hroom54; obtain ⟨A54, hA54⟩ : ∃ A1, A1 = (if co49 = (x9_2 : Int).toNat then Ao49 else (Ao49 : Option Addr).map (·.add ((x9_2 : Int).toNat * 1))) := ⟨_, rfl⟩; obtain ⟨c54, hc54⟩ : ∃ c1, c1 = co49 - (x9_2 : Int).toNat := ⟨_, rfl⟩; have hy54 : y277.length = t249.length - (x9_2 : Int).toNat := (by rw [Ny277.out, List.length_drop] <;> omega); rw [show (t249).drop (x9_2 : Int).toNat = y277 from Ny277.out.symm] at hr54; replace hr54 : Kd.C (Kd.int .i64) _ A54 y277.length y277 := (by rw [hA54]; exact hr54); rw [← hy54, ← hA54, ← hc54] at hcut54; have HR280 := Aside0.mk hr54; have HC280 := Aside0.mk (show y277.length ≤ c54 from by rw [hy54, hc54]; exact Nat.sub_le_sub_right hroom54 _); clear hr54 hC54 hroom54 hi054 hsz54 hc54; have KY54 := Aside0.mk hy54; have KA54 := Aside0.mk hA54; clear hy54 hA54; have KL54 := Aside0.mk (show (x9_2 : Int).toNat ≤ t249.length from by omega); replace q54 := eq_true q54) | ((with_reducible refine gate_builtin (b := .append) (xs := #[.tmp 54, .tmp 57]) rfl ?_); at_builtin; refine Kd.R_append_rows (Kd.int .i64) (w0 := w) w.heap.size rfl (.tmp 54) (.tmp 57) 23 3 (.int .i64 0) 8 rfl Try.underlying23 info3 rfl (by decide) (by omega) (.slice Ao52 t273.length co52) t276 y277 _ _ _ (fun k_ => some k_ ≠ (.slice Ao48 t246.length co48 : Value).ownBlock ∧ some k_ ≠ (.slice Ao49 t249.length co49 : Value).ownBlock) (fun _ => False) rfl rfl ?aO ?aR (fun _ _ h => h) (fun _ h => h.elim) ?aF ?aB ?aS ?aL ?_; (case aR => repeat (first | exact (by repeat (first | (with_reducible exact HR280.out) | (with_reducible refine Kd.C_alloc ?_ _) | (with_reducible refine Kd.C_drewN ?_ _) | (with_reducible refine Kd.C_drew ?_) | exact HR280.out)) | (with_reducible refine Kd.C_alloc ?_ _) | (with_reducible refine Kd.C_drewN ?_ _) | (with_reducible refine Kd.C_drew ?_))); (case aB => exact bb); (case aF => exact (fun k_ hk => ⟨Kd.fresh' (Kd.R_lt (ra HO_7.out)) k_ hk, Kd.fresh' (Kd.R_lt (ra HO_8.out)) k_ hk⟩)); (case aO => exact (ra (Kd.R_mono HO275.out (fun _ hk => (And.intro (hk.1.2) (hk.2)))))); (case aS => exact (below_size bb)); (case aL => have := LMc47.out; omega); intro v282 w55 ho hb hg hat; rw [← Ny281.out] at ho; have t_ := fc5 (Kd.R_after (ok := (fun k_ => some k_ ≠ (.slice Ao49 t249.length co49 : Value).ownBlock)) (ra HO_7.out) hg hat) (Kd.R_after (ok := (fun k_ => some k_ ≠ (.slice Ao48 t246.length co48 : Value).ownBlock)) (ra HO_8.out) hg hat) (hb) ((show Kd.C (Kd.int .i64) w55 A54 y277.length y277 from by rw [Ny277.out, KA54.out]; exact Kd.C_drop (m := (x9_2 : Int).toNat) (c := co49) ((Kd.R_reads' (Kd.R_after (ok := (fun k_ => some k_ ≠ (.slice Ao48 t246.length co48 : Value).ownBlock)) (ra HO_8.out) hg hat)).2.2) KL54.out ((Kd.R_reads' (Kd.R_after (ok := (fun k_ => some k_ ≠ (.slice Ao48 t246.length co48 : Value).ownBlock)) (ra HO_8.out) hg hat)).2.1))) (ho); clear HO_7 HO_8 HB HR280 HO275; obtain ⟨HO_7, HO_8, HB, HR280, HO283⟩ := t_; clear ho hb hg hat)))
            go_ret
            exact ⟨_, by first | rfl | (simp [errW_none, errW_some] <;> rfl) | (simp only [← hji16, ← hji40]; first | rfl | (simp [errW_none, errW_some] <;> rfl)) | (simp [*, errW_none, errW_some] <;> rfl), by (with_reducible repeat (first | apply Kd.R_alloc | apply Kd.R_drewN | apply Kd.R_drew)); exact Kd.R_mono HO283.out (fun _ hk => trivial), bb⟩
           ·rw [if_neg c47] at H
            exact absurd H (by simp)
          ·rw [if_neg c46] at H
           exact absurd H (by simp)
         ·rw [if_neg c45] at H
          exact absurd H (by simp)
        ·rw [if_neg c42] at H
         exact absurd H (by simp)
       ·rw [if_neg c41] at H
        exact absurd H (by simp)

end Go.Proofs.Ytbbppknnkghkjaa.PFnIdRoutes
