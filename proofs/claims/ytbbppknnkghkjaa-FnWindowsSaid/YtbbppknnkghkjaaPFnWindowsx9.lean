/- Printed: each Go function as a Lean function, with the proof that Go comes to just its answer (squeezed) -/
import Derived.Test.YtbbppknnkghkjaaPFnWindowsx0
import Derived.Test.YtbbppknnkghkjaaPFnWindowsx5
import Derived.Test.YtbbppknnkghkjaaPFnWindowsx6
import Derived.Test.YtbbppknnkghkjaaPFnWindowsx7
namespace Go.Proofs.Ytbbppknnkghkjaa.PFnWindows
open Go.RowKit Go.Proofs.YtbbppknnkghkjaaW.PrintWords Go.Proofs.YtbbppknnkghkjaaW.PrintLast Go.Proofs.YtbbppknnkghkjaaW.PrintMore Go.Proofs.Ytbbppknnkghkjaa.Kit Go.Proofs.Ytbbppknnkghkjaa.Kit2 Go.Proofs.Ytbbppknnkghkjaa.Kit3
attribute [local go_sem] max2_int min2_int max_two min_two max_three min_three max_four min_four   -- for this text's walks alone
set_option linter.unusedVariables false
set_option linter.unusedSimpArgs false
open Go.Proofs.YtbbppknnkghkjaaW.PrintWords.Kd (R_below R_mono R_far R_types R_elder' R_base R_lower R_new' R_newB R_lt R_after R_slice R_drew R_drewN R_alloc R_reads' R_bound R_append R_ne R_step C_below C_alloc C_drew C_drewN)
def spec_l01New.l0 : Nat → List Int → Int → Int → Option (List Int × Int × Int)
 | 0, _, _, _ => none
 | k + 1, x0, x3, x4 => if x4 < (x0.length : Int) then (if x4 < 4000 then (if 0 ≤ x4 then (spec_l01New.l0 k x0 (Go.bits .and .i64 (wrap64 ((wrap64 ((wrap64 (x3 * 131)) + (wrap64 (rd x0 x4)))) + 7)) 1073741823) (wrap64 (x4 + 1))) else (none)) else (some (x0, 0, x3))) else (some (x0, 0, x3))
def spec_l01New.f (k : Nat) (l0 : List Int) : Option (List Int × Int × Int) := spec_l01New.l0 k l0 (wrap64 (98663 + (l0.length : Int))) 0
set_option maxHeartbeats 8000000 in
set_option maxRecDepth 100000 in
theorem spec_l01New.calls (k : Nat) (A0 : Option Addr) (c0 : Nat) (l0 : List Int) (r1 : List Int) (r2 : Int) (r3 : Int) (w0 w : World) (hB : Below w0.heap.size w0 w) (hr0 : Kd.C (Kd.int .u8) w0 A0 l0.length l0) (hc0 : l0.length ≤ c0) (h : spec_l01New.f k l0 = some (r1, r2, r3)) :
  Calls Try.prog 89 #[.slice A0 l0.length c0] w fun e w' => ∃ g_ : Nat, e = .returned (.pointer (some ⟨g_, 0, none⟩)) ∧ IsS109 w0 w' g_ r1 r2 r3 ∧ Below w0.heap.size w0 w' ∧ Below w.heap.size w w' := by
 have hu109 := Try.underlying109; have HR0 := Aside0.mk hr0; have HC0 := Aside0.mk hc0; clear hr0 hc0; have HBW := Aside0.mk (Below.refl w.heap.size w); have HW0 := Aside0.mk hB.size; have HB := Aside0.mk hB; clear hB; have H : (spec_l01New.l0 k l0 (wrap64 (98663 + (l0.length : Int))) 0) = some (r1, r2, r3) := h; clear h; have H' := Aside0.mk H; clear H; go_enter Try.func89, Try.ntmps89; go_wp2
 go_loopg [3, 4] k (fun kq v3 v4 w' => ∃ (x3_1 : Int) (x4_1 : Int), v3 = .int .i64 x3_1 ∧ v4 = .int .i64 x4_1 ∧ Aside0 (spec_l01New.l0 kq l0 x3_1 x4_1 = some (r1, r2, r3)) ∧ Aside0 (kq ≤ k) ∧ Aside0 (Below w.heap.size w w') ∧ Aside0 (Below w0.heap.size w0 w'))
 case atStart => exact ⟨(wrap64 (98663 + (l0.length : Int))), (0), sd_, sd_, H', ⟨Nat.le_refl _⟩, ⟨by repeat (first | (with_reducible first | exact HBW.out | apply below_alloc | apply pw_below_drewN | apply below_drew1) | exact HBW.out)⟩, ⟨bb⟩⟩
 case round =>
  clear H'; obtain ⟨x3_1, x4_1, rfl, rfl, HA, HK1, HBW, HB⟩ := hrel
  cases gk with
  | zero => exact absurd HA.out (by simp [spec_l01New.l0])
  | succ k1 =>
   have H := HA.out; clear HA; simp only [spec_l01New.l0] at H
   by_cases c2 : x4_1 < (l0.length : Int)
   ·rw [if_pos c2] at H
    have c2b0 : decide (x4_1 < (l0.length : Int)) = true := decide_eq_true c2; clear c2
    by_cases c3 : x4_1 < 4000
    ·rw [if_pos c3] at H
     have c3b0 : decide (x4_1 < 4000) = true := decide_eq_true c3; clear c3
     by_cases c4 : 0 ≤ x4_1
     ·rw [if_pos c4] at H
      have c4b0 : decide (0 ≤ x4_1) = true := decide_eq_true c4; clear c4; have H' := Aside0.mk H; clear H; have p217 : 0 ≤ (x4_1 : Int) := of_decide_eq_true as_; have q217 : x4_1 < (l0.length : Int) := of_decide_eq_true as_; obtain ⟨ad217, e217, hx217_0⟩ := Kd.at_int HR0.out x4_1 p217 q217; cases e217; replace hx217_0 := pw_cell_below HB.out hx217_0; replace p217 := eq_true p217; replace q217 := eq_true q217; go_wp2
      go_roundg k1
      case measure => have := HK1.out; omega
      case rel => exact ⟨(Go.bits .and .i64 (wrap64 ((wrap64 ((wrap64 (x3_1 * 131)) + (wrap64 (rd l0 x4_1)))) + 7)) 1073741823), (wrap64 (x4_1 + 1)), sd_, sd_, H', ⟨by have := HK1.out; omega⟩, ⟨by repeat (first | (with_reducible first | exact HBW.out | apply below_alloc | apply pw_below_drewN | apply below_drew1) | exact HBW.out)⟩, ⟨bb⟩⟩
     ·rw [if_neg c4] at H
      exact absurd H (by simp)
    ·rw [if_neg c3] at H
     have c3b0 : decide (x4_1 < 4000) = false := decide_eq_false c3; clear c3; simp only [Option.some.injEq, Prod.mk.injEq] at H; obtain ⟨rfl, rfl, rfl⟩ := H; go_wp2_with (first | ((with_reducible refine gate_dst (N := 31) rfl ?_); refine box_event ?hg (N := 31) ?hd (cs := #[.slice A0 l0.length c0, .int .i64 0, .int .i64 x3_1]) (t := 109) ?hr ?_; (case hd => rfl); (case hg => rfl); (case hr => exact hr_); intro gb218 hg w5 hbox hb; have t_ := fc5 (below_step HBW.out hb) (below_step bb hb) (hbox) ((by rw [hg]; exact (below_size (by repeat (first | (with_reducible first | exact HBW.out | apply below_alloc | apply pw_below_drewN | apply below_drew1) | exact HBW.out))) : w.heap.size ≤ gb218)) ((Nat.le_trans HW0.out (by rw [hg]; exact (below_size (by repeat (first | (with_reducible first | exact HBW.out | apply below_alloc | apply pw_below_drewN | apply below_drew1) | exact HBW.out))) : w.heap.size ≤ gb218) : w0.heap.size ≤ gb218)); clear HBW HB; obtain ⟨HBW, HB, BK218, GW218, GE218⟩ := t_; clear hb hbox hg)); go_ret; exact ⟨_, rfl, (show IsS109 w0 _ gb218 l0 0 x3_1 from ⟨_, _, by exact bk, GE218.out, HR0.out⟩), bb, by repeat (first | (with_reducible first | exact HBW.out | apply below_alloc | apply pw_below_drewN | apply below_drew1 | refine below_set ?_ GW218.out) | exact HBW.out)⟩
   ·rw [if_neg c2] at H
    have c2b0 : decide (x4_1 < (l0.length : Int)) = false := decide_eq_false c2; clear c2; simp only [Option.some.injEq, Prod.mk.injEq] at H; obtain ⟨rfl, rfl, rfl⟩ := H; go_wp2_with (first | ((with_reducible refine gate_dst (N := 31) rfl ?_); refine box_event ?hg (N := 31) ?hd (cs := #[.slice A0 l0.length c0, .int .i64 0, .int .i64 x3_1]) (t := 109) ?hr ?_; (case hd => rfl); (case hg => rfl); (case hr => exact hr_); intro gb219 hg w6 hbox hb; have t_ := fc5 (below_step HBW.out hb) (below_step bb hb) (hbox) ((by rw [hg]; exact (below_size (by repeat (first | (with_reducible first | exact HBW.out | apply below_alloc | apply pw_below_drewN | apply below_drew1) | exact HBW.out))) : w.heap.size ≤ gb219)) ((Nat.le_trans HW0.out (by rw [hg]; exact (below_size (by repeat (first | (with_reducible first | exact HBW.out | apply below_alloc | apply pw_below_drewN | apply below_drew1) | exact HBW.out))) : w.heap.size ≤ gb219) : w0.heap.size ≤ gb219)); clear HBW HB; obtain ⟨HBW, HB, BK219, GW219, GE219⟩ := t_; clear hb hbox hg)); go_ret; exact ⟨_, rfl, (show IsS109 w0 _ gb219 l0 0 x3_1 from ⟨_, _, by exact bk, GE219.out, HR0.out⟩), bb, by repeat (first | (with_reducible first | exact HBW.out | apply below_alloc | apply pw_below_drewN | apply below_drew1 | refine below_set ?_ GW219.out) | exact HBW.out)⟩

def spec_l24Sizes.l0 : Nat → List (S50) → List Int → Int → List Int → Int → Int → Option (List Int × Int × Int)
 | 0, _, _, _, _, _, _ => none
 | k + 1, x1, x5, x6, x1000, x1001, x1002 => if x6 < (x1.length : Int) then ((spec_l01PickInt.f x1000 x1001 x1002 (([16, 64, 16, 256, 4096, 0] : List Int))).bind fun bt226 => (if 0 ≤ x6 then (if ((rd_T50 x1 x6).f2) = 0 then (if x5.length < 17592186044416 then (spec_l24Sizes.l0 k x1 (x5 ++ [0]) (wrap64 (x6 + 1)) x1000 bt226.2.1 bt226.2.2) else (none)) else (if x5.length < 17592186044416 then (spec_l24Sizes.l0 k x1 (x5 ++ [bt226.1]) (wrap64 (x6 + 1)) x1000 bt226.2.1 bt226.2.2) else (none))) else (none))) else (some (x5, x1001, x1002))
def spec_l24Sizes.f (k : Nat) (s0_0 : List Int) (s0_1 : Int) (s0_2 : Int) (l1 : List (S50)) : Option (List Int × Int × Int) := spec_l24Sizes.l0 k l1 (([] : List Int)) 0 s0_0 s0_1 s0_2
set_option maxHeartbeats 8000000 in
set_option maxRecDepth 100000 in
theorem spec_l24Sizes.calls (k : Nat) (g : Nat) (s0_0 : List Int) (s0_1 : Int) (s0_2 : Int) (A1 : Option Addr) (c1 : Nat) (l1 : List (S50)) (r1 : List Int) (r2 : Int) (r3 : Int) (w0 w : World) (hI : IsS109 w0 w g s0_0 s0_1 s0_2) (hB : Below w0.heap.size w0 w) (hr1 : ∀ W_, KeepBut w W_ g none → Kd.C k50 W_ A1 l1.length l1) (hc1 : l1.length ≤ c1) (h : spec_l24Sizes.f k s0_0 s0_1 s0_2 l1 = some (r1, r2, r3)) :
  Calls Try.prog 108 #[.pointer (some ⟨g, 0, none⟩), .slice A1 l1.length c1] w fun e w' => ∃ v0_ : Value, e = .returned (v0_) ∧ Kd.R (Kd.int .i64) 3 w' w.heap.size (fun _ => True) v0_ r1 ∧ IsS109 w0 w' g s0_0 r2 r3 ∧ Below w0.heap.size w0 w' ∧ KeepBut w w' g none := by
 have HR1 := Aside0.mk hr1; have HC1 := Aside0.mk hc1; clear hr1 hc1; have HI0 := Aside0.mk hI; have HK := Aside0.mk (KeepBut.refl w g none); have HL := Aside0.mk hB.size; clear hI; have HW0 := Aside0.mk hB.size; have HB := Aside0.mk hB; clear hB; have H : (spec_l24Sizes.l0 k l1 (([] : List Int)) 0 s0_0 s0_1 s0_2) = some (r1, r2, r3) := h; clear h
 obtain ⟨y220, hy220⟩ : ∃ y_ : List Int, y_ = (([] : List Int)) := ⟨_, rfl⟩
 (replace H : (spec_l24Sizes.l0 k l1 y220 0 s0_0 s0_1 s0_2) = some (r1, r2, r3) := by first | (rw [hy220]; with_reducible exact H) | (have H2_ := bs_ H; rw [hy220]; with_reducible exact H2_) | (have H2_ := bs_ H; with_reducible exact H2_) | with_reducible exact H | (rw [hy220]; exact H) | exact H); have Ny220 := Aside0.mk hy220; clear hy220; have H' := Aside0.mk H; clear H; go_enter Try.func108, Try.ntmps108; go_wp2_with (first | ((with_reducible refine gate_dst (N := 8) rfl ?_); refine Kd.R_lit (Kd.int .i64) _ 3 ?hg (N := 8) ?hd (xs := ([] : List Int)) (inner := []) (ok := fun _ => True) (okp := fun _ => True) ?hr ?hp (fun _ hk => hk) trivial (Below.refl _ _) (Nat.le_refl _) (by simp) ?_; (case hd => rfl); (case hg => rfl); (case hr => exact hr_); (case hp => exact (Reps.none _ _)); intro v221 w3 ho4 hb hg_ hnew_; clear hg_ hnew_; (first | rw [← Ny220.out] at ho4 | (simp only [Int.reduceToNat] at ho4; rw [← Ny220.out] at ho4)); have t_ := fc4 (R_lower ho4 (keep_size (w := w) (g := g) (row := none) (by repeat (first | (with_reducible first | exact HK.out | apply KeepBut.set_ | apply keep_drewN | apply keep_drew | apply keep_alloc) | exact HK.out)))) (IsS109.below (by repeat (first | (with_reducible first | exact HI0.out | apply IsS109.alloc | apply IsS109.drewN | apply IsS109.drew | apply IsS109.set_1 | apply IsS109.set_2) | exact HI0.out)) hb) (KeepBut.trans (by repeat (first | (with_reducible first | exact HK.out | apply KeepBut.set_ | apply keep_drewN | apply keep_drew | apply keep_alloc) | exact HK.out)) (KeepBut.of_below hb g none) (.inl rfl)) (below_step (by repeat (first | (with_reducible first | exact HB.out | apply below_alloc | apply pw_below_drewN | apply below_drew1 | refine below_set ?_ (IsS109.ge HI0.out)) | exact HB.out)) hb); clear HI0 HK HB; obtain ⟨HO222, HI0, HK, HB⟩ := t_; clear hb ho4))
 go_loopg [5, 6] k (fun kq v5 v6 w' => ∃ (x5_1 : List Int) (x6_1 : Int) (x1001_1 : Int) (x1002_1 : Int), v6 = .int .i64 x6_1 ∧ Aside0 (spec_l24Sizes.l0 kq l1 x5_1 x6_1 s0_0 x1001_1 x1002_1 = some (r1, r2, r3)) ∧ Aside0 (kq ≤ k) ∧ Aside0 (Kd.R (Kd.int .i64) 3 w' w.heap.size (fun _ => True) v5 x5_1) ∧ Aside0 (IsS109 w0 w' g s0_0 x1001_1 x1002_1) ∧ Aside0 (KeepBut w w' g none) ∧ Aside0 (Below w0.heap.size w0 w'))
 case atStart => exact ⟨(y220), (0), (s0_1), (s0_2), sd_, H', ⟨Nat.le_refl _⟩, ⟨(ra HO222.out)⟩, ⟨by repeat (first | (with_reducible first | exact HI0.out | apply IsS109.alloc | apply IsS109.drewN | apply IsS109.drew | apply IsS109.set_1 | apply IsS109.set_2) | exact HI0.out)⟩, ⟨by repeat (first | (with_reducible first | exact HK.out | apply KeepBut.set_ | apply keep_drewN | apply keep_drew | apply keep_alloc) | exact HK.out)⟩, ⟨by repeat (first | (with_reducible first | exact HB.out | apply below_alloc | apply pw_below_drewN | apply below_drew1 | refine below_set ?_ (IsS109.ge HI0.out)) | exact HB.out)⟩⟩
 case round =>
  clear H'; (try clear c1); (try clear p2); obtain ⟨x5_1, x6_1, x1001_1, x1002_1, rfl, HA, HK1, HO_5, HI0, HK, HB⟩ := hrel
  cases gk with
  | zero => exact absurd HA.out (by simp [spec_l24Sizes.l0])
  | succ k1 =>
   have H := HA.out; clear HA; simp only [spec_l24Sizes.l0] at H
   by_cases c5 : x6_1 < (l1.length : Int)
   ·rw [if_pos c5] at H
    have c5b0 : decide (x6_1 < (l1.length : Int)) = true := decide_eq_true c5; clear c5
    obtain ⟨y223, hy223⟩ : ∃ y_ : List Int, y_ = (([16, 64, 16, 256, 4096, 0] : List Int)) := ⟨_, rfl⟩
    (replace H : ((spec_l01PickInt.f s0_0 x1001_1 x1002_1 y223).bind fun bt226 => (if 0 ≤ x6_1 then (if ((rd_T50 l1 x6_1).f2) = 0 then (if x5_1.length < 17592186044416 then (spec_l24Sizes.l0 k1 l1 (x5_1 ++ [0]) (wrap64 (x6_1 + 1)) s0_0 bt226.2.1 bt226.2.2) else (none)) else (if x5_1.length < 17592186044416 then (spec_l24Sizes.l0 k1 l1 (x5_1 ++ [bt226.1]) (wrap64 (x6_1 + 1)) s0_0 bt226.2.1 bt226.2.2) else (none))) else (none))) = some (r1, r2, r3) := by first | (rw [hy223]; with_reducible exact H) | (have H2_ := bs_ H; rw [hy223]; with_reducible exact H2_) | (have H2_ := bs_ H; with_reducible exact H2_) | with_reducible exact H | (rw [hy223]; exact H) | exact H); have Ny223 := Aside0.mk hy223; clear hy223; replace H := Option.bind_eq_some_iff.mp H; obtain ⟨⟨t226, t227, t228⟩, A60, H⟩ := H; replace H : (if 0 ≤ x6_1 then (if ((rd_T50 l1 x6_1).f2) = 0 then (if x5_1.length < 17592186044416 then (spec_l24Sizes.l0 k1 l1 (x5_1 ++ [0]) (wrap64 (x6_1 + 1)) s0_0 t227 t228) else (none)) else (if x5_1.length < 17592186044416 then (spec_l24Sizes.l0 k1 l1 (x5_1 ++ [t226]) (wrap64 (x6_1 + 1)) s0_0 t227 t228) else (none))) else (none)) = some (r1, r2, r3) := H; have A6 := Aside0.mk A60; clear A60
    by_cases c7 : 0 ≤ x6_1
    ·rw [if_pos c7] at H
     have c7b0 : decide (0 ≤ x6_1) = true := decide_eq_true c7; clear c7
     by_cases c8 : ((rd_T50 l1 x6_1).f2) = 0
     ·rw [if_pos c8] at H
      have c8b0 : (((rd_T50 l1 x6_1).f2) == 0) = true := beq_iff_eq.mpr c8; have c8b1 : (((rd_T50 l1 x6_1).f2) != 0) = false := bne_eq_false_iff_eq.mpr c8; clear c8
      by_cases c9 : x5_1.length < 17592186044416
      ·rw [if_pos c9] at H
       have LMc9 := Aside0.mk c9; clear c9
       obtain ⟨y230, hy230⟩ : ∃ y_ : List Int, y_ = (x5_1 ++ [0]) := ⟨_, rfl⟩
       (replace H : (spec_l24Sizes.l0 k1 l1 y230 (wrap64 (x6_1 + 1)) s0_0 t227 t228) = some (r1, r2, r3) := by first | (rw [hy230]; with_reducible exact H) | (have H2_ := bs_ H; rw [hy230]; with_reducible exact H2_) | (have H2_ := bs_ H; with_reducible exact H2_) | with_reducible exact H | (rw [hy230]; exact H) | exact H); have Ny230 := Aside0.mk hy230; clear hy230; have H' := Aside0.mk H; clear H; go_wp2_with (first | ((with_reducible refine gate_dst (N := 16) rfl ?_); refine Kd.R_lit (Kd.int .i64) _ 3 ?hg (N := 16) ?hd (xs := ([16, 64, 16, 256, 4096, 0] : List Int)) (inner := [.int .i64 16, .int .i64 64, .int .i64 16, .int .i64 256, .int .i64 4096, .int .i64 0]) (ok := fun _ => True) (okp := fun _ => True) ?hr ?hp (fun _ hk => hk) trivial (Below.refl _ _) (Nat.le_refl _) (by simp) ?_; (case hd => rfl); (case hg => rfl); (case hr => exact hr_); (case hp => exact (Reps.one (show Kd.M (Kd.int .i64) _ _ _ 16 [.int .i64 16] from rfl) (Reps.one (show Kd.M (Kd.int .i64) _ _ _ 64 [.int .i64 64] from rfl) (Reps.one (show Kd.M (Kd.int .i64) _ _ _ 16 [.int .i64 16] from rfl) (Reps.one (show Kd.M (Kd.int .i64) _ _ _ 256 [.int .i64 256] from rfl) (Reps.one (show Kd.M (Kd.int .i64) _ _ _ 4096 [.int .i64 4096] from rfl) (Reps.one (show Kd.M (Kd.int .i64) _ _ _ 0 [.int .i64 0] from rfl) (Reps.none _ _)))))))); intro v224 w10 ho11 hb hg_ hnew_; clear hg_ hnew_; (first | rw [← Ny223.out] at ho11 | (simp only [Int.reduceToNat] at ho11; rw [← Ny223.out] at ho11)); have t_ := fc5 (R_elder' (ra HO_5.out) (R_base ho11) hb) (R_lower (R_new' ho11 (R_lt (ra HO_5.out))) (keep_size (w := w) (g := g) (row := none) (by repeat (first | (with_reducible first | exact HK.out | apply KeepBut.set_ | apply keep_drewN | apply keep_drew | apply keep_alloc) | exact HK.out)))) (IsS109.below (by repeat (first | (with_reducible first | exact HI0.out | apply IsS109.alloc | apply IsS109.drewN | apply IsS109.drew | apply IsS109.set_1 | apply IsS109.set_2) | exact HI0.out)) hb) (KeepBut.trans (by repeat (first | (with_reducible first | exact HK.out | apply KeepBut.set_ | apply keep_drewN | apply keep_drew | apply keep_alloc) | exact HK.out)) (KeepBut.of_below hb g none) (.inl rfl)) (below_step (by repeat (first | (with_reducible first | exact HB.out | apply below_alloc | apply pw_below_drewN | apply below_drew1 | refine below_set ?_ (IsS109.ge HI0.out)) | exact HB.out)) hb); clear HO_5 HI0 HK HB; obtain ⟨HO_5, HO225, HI0, HK, HB⟩ := t_; clear hb ho11; obtain ⟨Ao12, co12, eo12⟩ := R_slice HO225.out; subst eo12) | ((with_reducible refine gate_callee (f := 124) rfl ?_); refine goesL_ (some 17) rfl rfl Try.func124 (by kernel_rfl) rfl #[.pointer (some ⟨g, 0, none⟩), .slice Ao12 y223.length co12] rfl ms ?_; (with_reducible refine (spec_l01PickInt.calls g s0_0 x1001_1 x1002_1 _ _ y223 t226 t227 t228 w0 _ ?side1 ?side2 ?side3 ?side4 ?side5 A6.out).mono ?_); (case side1 => repeat (first | (with_reducible first | exact HI0.out | apply IsS109.alloc | apply IsS109.drewN | apply IsS109.drew | apply IsS109.set_1 | apply IsS109.set_2) | exact HI0.out)); (case side2 => repeat (first | (with_reducible first | exact HB.out | apply below_alloc | apply pw_below_drewN | apply below_drew1 | refine below_set ?_ (IsS109.ge HI0.out)) | exact HB.out)); (case side3 => exact rc HO225); (case side4 => exact (R_reads' HO225.out).2.1); (case side5 => exact far_slice (IsS109.own_ne HI0.out HO225.out (by decide))); rintro e w13 ⟨rfl, hi, hb, hk⟩; refine ⟨_, rfl, ?_⟩; have t_ := fc5 (R_mono (Kd.R_keep (IsS109.apart (show IsS109 w0 _ g s0_0 x1001_1 x1002_1 from by repeat (first | (with_reducible first | exact HI0.out | apply IsS109.alloc | apply IsS109.drewN | apply IsS109.drew | apply IsS109.set_1 | apply IsS109.set_2) | exact HI0.out)) (ra HO_5.out) (by decide)) hk (fun _ h => h.2)) (fun _ h => h.1)) (R_mono (Kd.R_keep (IsS109.apart (show IsS109 w0 _ g s0_0 x1001_1 x1002_1 from by repeat (first | (with_reducible first | exact HI0.out | apply IsS109.alloc | apply IsS109.drewN | apply IsS109.drew | apply IsS109.set_1 | apply IsS109.set_2) | exact HI0.out)) (ra HO225.out) (by decide)) hk (fun _ h => h.2)) (fun _ h => h.1)) (KeepBut.trans (by repeat (first | (with_reducible first | exact HK.out | apply KeepBut.set_ | apply keep_drewN | apply keep_drew | apply keep_alloc) | exact HK.out)) hk (.inl rfl)) (hb) (hi); clear HO_5 HO225 HK HB HI0; obtain ⟨HO_5, HO225, HK, HB, HI0⟩ := t_; (try clear hb); (try clear hb2); (try clear hk); (try clear hi); have p229 : 0 ≤ (x6_1 : Int) := of_decide_eq_true as_; have q229 : x6_1 < (l1.length : Int) := of_decide_eq_true as_; obtain ⟨ad229, e229, hx229_0, hx229_1, hx229_2⟩ := at_T50 (Kd.C_foot_now HR1.out HK.out) x6_1 p229 q229; cases e229; replace p229 := eq_true p229; replace q229 := eq_true q229) | ((with_reducible refine gate_builtin (b := .append) (xs := #[.tmp 24, .tmp 26]) rfl ?_); at_builtin; refine R_append (Kd.int .i64) w.heap.size rfl (.tmp 24) (.tmp 26) 23 3 (.int .i64 0) 8 rfl Try.underlying23 info3 rfl (by decide) (by omega) u5 x5_1 0 [.int .i64 0] (fun k_ => some k_ ≠ (.slice Ao12 y223.length co12 : Value).ownBlock) (fun _ => False) rfl rfl ?aP (fun _ hk => hk.elim) ?aF ?aO (Below.refl _ _) ?aS ?aL ?_; (case aP => exact rfl); (case aF => exact (fun k_ hk => Kd.fresh' (R_lt (ra HO225.out)) k_ hk)); (case aO => exact (ra (R_mono HO_5.out fk))); (case aS => exact (keep_size (w := w) (g := g) (row := none) (by repeat (first | (with_reducible first | exact HK.out | apply KeepBut.set_ | apply keep_drewN | apply keep_drew | apply keep_alloc) | exact HK.out)))); (case aL => have := LMc9.out; omega); intro v231 w14 ho hb hg hat; rw [← Ny230.out] at ho; have t_ := fc5 (IsS109.grown (by repeat (first | (with_reducible first | exact HI0.out | apply IsS109.alloc | apply IsS109.drewN | apply IsS109.drew | apply IsS109.set_1 | apply IsS109.set_2) | exact HI0.out)) hg (IsS109.own_ne HI0.out HO_5.out (by decide))) (R_after (ok := (fun _ => True)) (ra HO225.out) hg hat) (below_weaken (by repeat (first | (with_reducible first | exact HB.out | apply below_alloc | apply pw_below_drewN | apply below_drew1 | refine below_set ?_ (IsS109.ge HI0.out)) | exact HB.out)) HL.out hb) (KeepBut.trans (by repeat (first | (with_reducible first | exact HK.out | apply KeepBut.set_ | apply keep_drewN | apply keep_drew | apply keep_alloc) | exact HK.out)) (KeepBut.of_grown hg g) (Kd.R_base2 HO_5.out)) (ho); clear HI0 HO225 HB HK HO_5; obtain ⟨HI0, HO225, HB, HK, HO232⟩ := t_; clear ho hb hg hat))
       go_roundg k1
       case measure => have := HK1.out; omega
       case rel => exact ⟨(y230), (wrap64 (x6_1 + 1)), (t227), (t228), sd_, H', ⟨by have := HK1.out; omega⟩, ⟨by (with_reducible repeat (first | apply R_alloc | apply R_drewN | apply R_drew)); exact R_mono HO232.out (fun _ hk => trivial)⟩, ⟨by repeat (first | (with_reducible first | exact HI0.out | apply IsS109.alloc | apply IsS109.drewN | apply IsS109.drew | apply IsS109.set_1 | apply IsS109.set_2) | exact HI0.out)⟩, ⟨by repeat (first | (with_reducible first | exact HK.out | apply KeepBut.set_ | apply keep_drewN | apply keep_drew | apply keep_alloc) | exact HK.out)⟩, ⟨by repeat (first | (with_reducible first | exact HB.out | apply below_alloc | apply pw_below_drewN | apply below_drew1 | refine below_set ?_ (IsS109.ge HI0.out)) | exact HB.out)⟩⟩
      ·rw [if_neg c9] at H
       exact absurd H (by simp)
     ·rw [if_neg c8] at H
      have c8b0 : (((rd_T50 l1 x6_1).f2) == 0) = false := beq_eq_false_iff_ne.mpr c8; have c8b1 : (((rd_T50 l1 x6_1).f2) != 0) = true := bne_iff_ne.mpr c8
      by_cases c15 : x5_1.length < 17592186044416
      ·rw [if_pos c15] at H
       have LMc15 := Aside0.mk c15; clear c15
       obtain ⟨y233, hy233⟩ : ∃ y_ : List Int, y_ = (x5_1 ++ [t226]) := ⟨_, rfl⟩
       (replace H : (spec_l24Sizes.l0 k1 l1 y233 (wrap64 (x6_1 + 1)) s0_0 t227 t228) = some (r1, r2, r3) := by first | (rw [hy233]; with_reducible exact H) | (have H2_ := bs_ H; rw [hy233]; with_reducible exact H2_) | (have H2_ := bs_ H; with_reducible exact H2_) | with_reducible exact H | (rw [hy233]; exact H) | exact H); have Ny233 := Aside0.mk hy233; clear hy233; have H' := Aside0.mk H; clear H; go_wp2_with (first | ((with_reducible refine gate_dst (N := 16) rfl ?_); refine Kd.R_lit (Kd.int .i64) _ 3 ?hg (N := 16) ?hd (xs := ([16, 64, 16, 256, 4096, 0] : List Int)) (inner := [.int .i64 16, .int .i64 64, .int .i64 16, .int .i64 256, .int .i64 4096, .int .i64 0]) (ok := fun _ => True) (okp := fun _ => True) ?hr ?hp (fun _ hk => hk) trivial (Below.refl _ _) (Nat.le_refl _) (by simp) ?_; (case hd => rfl); (case hg => rfl); (case hr => exact hr_); (case hp => exact (Reps.one (show Kd.M (Kd.int .i64) _ _ _ 16 [.int .i64 16] from rfl) (Reps.one (show Kd.M (Kd.int .i64) _ _ _ 64 [.int .i64 64] from rfl) (Reps.one (show Kd.M (Kd.int .i64) _ _ _ 16 [.int .i64 16] from rfl) (Reps.one (show Kd.M (Kd.int .i64) _ _ _ 256 [.int .i64 256] from rfl) (Reps.one (show Kd.M (Kd.int .i64) _ _ _ 4096 [.int .i64 4096] from rfl) (Reps.one (show Kd.M (Kd.int .i64) _ _ _ 0 [.int .i64 0] from rfl) (Reps.none _ _)))))))); intro v224 w16 ho17 hb hg_ hnew_; clear hg_ hnew_; (first | rw [← Ny223.out] at ho17 | (simp only [Int.reduceToNat] at ho17; rw [← Ny223.out] at ho17)); have t_ := fc5 (R_elder' (ra HO_5.out) (R_base ho17) hb) (R_lower (R_new' ho17 (R_lt (ra HO_5.out))) (keep_size (w := w) (g := g) (row := none) (by repeat (first | (with_reducible first | exact HK.out | apply KeepBut.set_ | apply keep_drewN | apply keep_drew | apply keep_alloc) | exact HK.out)))) (IsS109.below (by repeat (first | (with_reducible first | exact HI0.out | apply IsS109.alloc | apply IsS109.drewN | apply IsS109.drew | apply IsS109.set_1 | apply IsS109.set_2) | exact HI0.out)) hb) (KeepBut.trans (by repeat (first | (with_reducible first | exact HK.out | apply KeepBut.set_ | apply keep_drewN | apply keep_drew | apply keep_alloc) | exact HK.out)) (KeepBut.of_below hb g none) (.inl rfl)) (below_step (by repeat (first | (with_reducible first | exact HB.out | apply below_alloc | apply pw_below_drewN | apply below_drew1 | refine below_set ?_ (IsS109.ge HI0.out)) | exact HB.out)) hb); clear HO_5 HI0 HK HB; obtain ⟨HO_5, HO225, HI0, HK, HB⟩ := t_; clear hb ho17; obtain ⟨Ao18, co18, eo18⟩ := R_slice HO225.out; subst eo18) | ((with_reducible refine gate_callee (f := 124) rfl ?_); refine goesL_ (some 17) rfl rfl Try.func124 (by kernel_rfl) rfl #[.pointer (some ⟨g, 0, none⟩), .slice Ao18 y223.length co18] rfl ms ?_; (with_reducible refine (spec_l01PickInt.calls g s0_0 x1001_1 x1002_1 _ _ y223 t226 t227 t228 w0 _ ?side1 ?side2 ?side3 ?side4 ?side5 A6.out).mono ?_); (case side1 => repeat (first | (with_reducible first | exact HI0.out | apply IsS109.alloc | apply IsS109.drewN | apply IsS109.drew | apply IsS109.set_1 | apply IsS109.set_2) | exact HI0.out)); (case side2 => repeat (first | (with_reducible first | exact HB.out | apply below_alloc | apply pw_below_drewN | apply below_drew1 | refine below_set ?_ (IsS109.ge HI0.out)) | exact HB.out)); (case side3 => exact rc HO225); (case side4 => exact (R_reads' HO225.out).2.1); (case side5 => exact far_slice (IsS109.own_ne HI0.out HO225.out (by decide))); rintro e w19 ⟨rfl, hi, hb, hk⟩; refine ⟨_, rfl, ?_⟩; have t_ := fc5 (R_mono (Kd.R_keep (IsS109.apart (show IsS109 w0 _ g s0_0 x1001_1 x1002_1 from by repeat (first | (with_reducible first | exact HI0.out | apply IsS109.alloc | apply IsS109.drewN | apply IsS109.drew | apply IsS109.set_1 | apply IsS109.set_2) | exact HI0.out)) (ra HO_5.out) (by decide)) hk (fun _ h => h.2)) (fun _ h => h.1)) (R_mono (Kd.R_keep (IsS109.apart (show IsS109 w0 _ g s0_0 x1001_1 x1002_1 from by repeat (first | (with_reducible first | exact HI0.out | apply IsS109.alloc | apply IsS109.drewN | apply IsS109.drew | apply IsS109.set_1 | apply IsS109.set_2) | exact HI0.out)) (ra HO225.out) (by decide)) hk (fun _ h => h.2)) (fun _ h => h.1)) (KeepBut.trans (by repeat (first | (with_reducible first | exact HK.out | apply KeepBut.set_ | apply keep_drewN | apply keep_drew | apply keep_alloc) | exact HK.out)) hk (.inl rfl)) (hb) (hi); clear HO_5 HO225 HK HB HI0; obtain ⟨HO_5, HO225, HK, HB, HI0⟩ := t_; (try clear hb); (try clear hb2); (try clear hk); (try clear hi); have p229 : 0 ≤ (x6_1 : Int) := of_decide_eq_true as_; have q229 : x6_1 < (l1.length : Int) := of_decide_eq_true as_; obtain ⟨ad229, e229, hx229_0, hx229_1, hx229_2⟩ := at_T50 (Kd.C_foot_now HR1.out HK.out) x6_1 p229 q229; cases e229; replace p229 := eq_true p229; replace q229 := eq_true q229) | ((with_reducible refine gate_builtin (b := .append) (xs := #[.tmp 24, .tmp 26]) rfl ?_); at_builtin; refine R_append (Kd.int .i64) w.heap.size rfl (.tmp 24) (.tmp 26) 23 3 (.int .i64 0) 8 rfl Try.underlying23 info3 rfl (by decide) (by omega) u5 x5_1 t226 [.int .i64 t226] (fun k_ => some k_ ≠ (.slice Ao18 y223.length co18 : Value).ownBlock) (fun _ => False) rfl rfl ?aP (fun _ hk => hk.elim) ?aF ?aO (Below.refl _ _) ?aS ?aL ?_; (case aP => exact rfl); (case aF => exact (fun k_ hk => Kd.fresh' (R_lt (ra HO225.out)) k_ hk)); (case aO => exact (ra (R_mono HO_5.out fk))); (case aS => exact (keep_size (w := w) (g := g) (row := none) (by repeat (first | (with_reducible first | exact HK.out | apply KeepBut.set_ | apply keep_drewN | apply keep_drew | apply keep_alloc) | exact HK.out)))); (case aL => have := LMc15.out; omega); intro v234 w20 ho hb hg hat; rw [← Ny233.out] at ho; have t_ := fc5 (IsS109.grown (by repeat (first | (with_reducible first | exact HI0.out | apply IsS109.alloc | apply IsS109.drewN | apply IsS109.drew | apply IsS109.set_1 | apply IsS109.set_2) | exact HI0.out)) hg (IsS109.own_ne HI0.out HO_5.out (by decide))) (R_after (ok := (fun _ => True)) (ra HO225.out) hg hat) (below_weaken (by repeat (first | (with_reducible first | exact HB.out | apply below_alloc | apply pw_below_drewN | apply below_drew1 | refine below_set ?_ (IsS109.ge HI0.out)) | exact HB.out)) HL.out hb) (KeepBut.trans (by repeat (first | (with_reducible first | exact HK.out | apply KeepBut.set_ | apply keep_drewN | apply keep_drew | apply keep_alloc) | exact HK.out)) (KeepBut.of_grown hg g) (Kd.R_base2 HO_5.out)) (ho); clear HI0 HO225 HB HK HO_5; obtain ⟨HI0, HO225, HB, HK, HO235⟩ := t_; clear ho hb hg hat))
       go_roundg k1
       case measure => have := HK1.out; omega
       case rel => exact ⟨(y233), (wrap64 (x6_1 + 1)), (t227), (t228), sd_, H', ⟨by have := HK1.out; omega⟩, ⟨by (with_reducible repeat (first | apply R_alloc | apply R_drewN | apply R_drew)); exact R_mono HO235.out (fun _ hk => trivial)⟩, ⟨by repeat (first | (with_reducible first | exact HI0.out | apply IsS109.alloc | apply IsS109.drewN | apply IsS109.drew | apply IsS109.set_1 | apply IsS109.set_2) | exact HI0.out)⟩, ⟨by repeat (first | (with_reducible first | exact HK.out | apply KeepBut.set_ | apply keep_drewN | apply keep_drew | apply keep_alloc) | exact HK.out)⟩, ⟨by repeat (first | (with_reducible first | exact HB.out | apply below_alloc | apply pw_below_drewN | apply below_drew1 | refine below_set ?_ (IsS109.ge HI0.out)) | exact HB.out)⟩⟩
      ·rw [if_neg c15] at H
       exact absurd H (by simp)
    ·rw [if_neg c7] at H
     exact absurd H (by simp)
   ·rw [if_neg c5] at H
    have c5b0 : decide (x6_1 < (l1.length : Int)) = false := decide_eq_false c5; clear c5; simp only [Option.some.injEq, Prod.mk.injEq] at H; obtain ⟨rfl, rfl, rfl⟩ := H; go_wp2; go_ret; exact ⟨_, er, (ra HO_5.out), by repeat (first | (with_reducible first | exact HI0.out | apply IsS109.alloc | apply IsS109.drewN | apply IsS109.drew | apply IsS109.set_1 | apply IsS109.set_2) | exact HI0.out), by repeat (first | (with_reducible first | exact HB.out | apply below_alloc | apply pw_below_drewN | apply below_drew1 | refine below_set ?_ (IsS109.ge HI0.out)) | exact HB.out), by repeat (first | (with_reducible first | exact HK.out | apply KeepBut.set_ | apply keep_drewN | apply keep_drew | apply keep_alloc) | exact HK.out)⟩

def spec_DrawSizes.f (k : Nat) (l0 : List Int) : Option ((List (S50)) × List Int) := (spec_l01New.f k l0).bind fun bt236 => ((spec_l19Tree.f k bt236.1 bt236.2.1 bt236.2.2).bind fun bt240 => ((spec_l24Sizes.f k bt236.1 bt240.2.1 bt240.2.2 bt240.1).bind fun bt245 => (some (bt240.1, bt245.1))))
set_option maxHeartbeats 8000000 in
set_option maxRecDepth 100000 in
theorem spec_DrawSizes.calls (k : Nat) (A0 : Option Addr) (c0 : Nat) (l0 : List Int) (r1 : List (S50)) (r2 : List Int) (w : World) (hr0 : Kd.C (Kd.int .u8) w A0 l0.length l0) (hc0 : l0.length ≤ c0) (h : spec_DrawSizes.f k l0 = some (r1, r2)) :
  Calls Try.prog 53 #[.slice A0 l0.length c0] w fun e w' => ∃ v0_ v1_ : Value, e = .returned (.tuple #[v0_, v1_]) ∧ Kd.R k50 50 w' w.heap.size (fun _ => True) v0_ r1 ∧ Kd.R (Kd.int .i64) 3 w' w.heap.size (fun _ => True) v1_ r2 ∧ Below w.heap.size w w' := by
 have HR0 := Aside0.mk hr0; have HC0 := Aside0.mk hc0; clear hr0 hc0; have HB := Aside0.mk (Below.refl w.heap.size w); have H : ((spec_l01New.f k l0).bind fun bt236 => ((spec_l19Tree.f k bt236.1 bt236.2.1 bt236.2.2).bind fun bt240 => ((spec_l24Sizes.f k bt236.1 bt240.2.1 bt240.2.2 bt240.1).bind fun bt245 => (some (bt240.1, bt245.1))))) = some (r1, r2) := h; clear h; replace H := Option.bind_eq_some_iff.mp H; obtain ⟨⟨t236, t237, t238⟩, A20, H⟩ := H; replace H : ((spec_l19Tree.f k t236 t237 t238).bind fun bt240 => ((spec_l24Sizes.f k t236 bt240.2.1 bt240.2.2 bt240.1).bind fun bt245 => (some (bt240.1, bt245.1)))) = some (r1, r2) := H; have A2 := Aside0.mk A20; clear A20; replace H := Option.bind_eq_some_iff.mp H; obtain ⟨⟨t240, t243, t244⟩, A30, H⟩ := H; replace H : ((spec_l24Sizes.f k t236 t243 t244 t240).bind fun bt245 => (some (t240, bt245.1))) = some (r1, r2) := H; have A3 := Aside0.mk A30; clear A30; replace H := Option.bind_eq_some_iff.mp H; obtain ⟨⟨t245, t248, t249⟩, A40, H⟩ := H; replace H : (some (t240, t245)) = some (r1, r2) := H; have A4 := Aside0.mk A40; clear A40; simp only [Option.some.injEq, Prod.mk.injEq] at H; obtain ⟨rfl, rfl⟩ := H; go_enter Try.func53, Try.ntmps53; go_wp2_with (first | ((with_reducible refine gate_callee (f := 89) rfl ?_); refine goesL_ (some 7) rfl rfl Try.func89 (by kernel_rfl) rfl #[.slice A0 l0.length c0] rfl ms ?_; (with_reducible refine (spec_l01New.calls k _ _ l0 t236 t237 t238 w _ ?side1 ?side2 ?side3 A2.out).mono ?_); (case side1 => exact bb); (case side2 => exact HR0.out); (case side3 => exact HC0.out); rintro e w5 ⟨g239, rfl, hi, hb, hb2⟩; refine ⟨_, rfl, ?_⟩; have t_ := fc2 (hb) (hi); clear HB; obtain ⟨HB, HI239⟩ := t_; (try clear hb); (try clear hb2); (try clear hk); (try clear hi)) | ((with_reducible refine gate_callee (f := 88) rfl ?_); refine goesL_ (some 9) rfl rfl Try.func88 (by kernel_rfl) rfl #[.pointer (some ⟨g239, 0, none⟩)] rfl ms ?_; (with_reducible refine (spec_l19Tree.calls k g239 t236 t237 t238 t240 t243 t244 w _ ?side1 ?side2 A3.out).mono ?_); (case side1 => repeat (first | (with_reducible first | exact HI239.out | apply IsS109.alloc | apply IsS109.drewN | apply IsS109.drew | apply IsS109.set_1 | apply IsS109.set_2) | exact HI239.out)); (case side2 => repeat (first | (with_reducible first | exact HB.out | apply below_alloc | apply pw_below_drewN | apply below_drew1 | refine below_set ?_ (IsS109.ge HI239.out)) | exact HB.out)); rintro e w6 ⟨v241, rfl, ho0, hi, hb, hk⟩; refine ⟨_, rfl, ?_⟩; have t_ := fc3 (R_lower ho0 (below_size (by repeat (first | (with_reducible first | exact HB.out | apply below_alloc | apply pw_below_drewN | apply below_drew1 | refine below_set ?_ (IsS109.ge HI239.out)) | exact HB.out)))) (hb) (hi); clear HB HI239; obtain ⟨HO242, HB, HI239⟩ := t_; (try clear hb); (try clear hb2); (try clear hk); (try clear hi); (try clear ho0); obtain ⟨Ao7, co7, eo7⟩ := R_slice HO242.out; subst eo7) | ((with_reducible refine gate_callee (f := 108) rfl ?_); refine goesL_ (some 13) rfl rfl Try.func108 (by kernel_rfl) rfl #[.pointer (some ⟨g239, 0, none⟩), .slice Ao7 t240.length co7] rfl ms ?_; (with_reducible refine (spec_l24Sizes.calls k g239 t236 t243 t244 _ _ t240 t245 t248 t249 w _ ?side1 ?side2 ?side3 ?side4 A4.out).mono ?_); (case side1 => repeat (first | (with_reducible first | exact HI239.out | apply IsS109.alloc | apply IsS109.drewN | apply IsS109.drew | apply IsS109.set_1 | apply IsS109.set_2) | exact HI239.out)); (case side2 => repeat (first | (with_reducible first | exact HB.out | apply below_alloc | apply pw_below_drewN | apply below_drew1 | refine below_set ?_ (IsS109.ge HI239.out)) | exact HB.out)); (case side3 => exact Kd.C_foot_own (IsS109.apart (show IsS109 w _ g239 t236 t243 t244 from by repeat (first | (with_reducible first | exact HI239.out | apply IsS109.alloc | apply IsS109.drewN | apply IsS109.drew | apply IsS109.set_1 | apply IsS109.set_2) | exact HI239.out)) (ra HO242.out) (by decide)) (fun _ h_ => h_.2)); (case side4 => exact (R_reads' HO242.out).2.1); rintro e w8 ⟨v246, rfl, ho0, hi, hb, hk⟩; refine ⟨_, rfl, ?_⟩; have t_ := fc4 (R_mono (Kd.R_keep (IsS109.apart (show IsS109 w _ g239 t236 t243 t244 from by repeat (first | (with_reducible first | exact HI239.out | apply IsS109.alloc | apply IsS109.drewN | apply IsS109.drew | apply IsS109.set_1 | apply IsS109.set_2) | exact HI239.out)) (ra HO242.out) (by decide)) hk (fun _ h => h.2)) (fun _ h => h.1)) (R_lower ho0 (below_size (by repeat (first | (with_reducible first | exact HB.out | apply below_alloc | apply pw_below_drewN | apply below_drew1 | refine below_set ?_ (IsS109.ge HI239.out)) | exact HB.out)))) (hb) (hi); clear HO242 HB HI239; obtain ⟨HO242, HO247, HB, HI239⟩ := t_; (try clear hb); (try clear hb2); (try clear hk); (try clear hi); (try clear ho0))); go_ret2; exact ⟨_, _, er, (ra HO242.out), (ra HO247.out), by repeat (first | (with_reducible first | exact HB.out | apply below_alloc | apply pw_below_drewN | apply below_drew1 | refine below_set ?_ (IsS109.ge HI239.out)) | exact HB.out)⟩

def spec_IsPower.l0 : Nat → Int → Int → Option (Bool)
 | 0, _, _ => none
 | k + 1, x0, x3 => if x3 ≤ 20 then (if 0 ≤ x3 then (if x0 = (shl .i64 1 x3) then (some true) else (spec_IsPower.l0 k x0 (wrap64 (x3 + 1)))) else (none)) else (some false)
def spec_IsPower.f (k : Nat) (a0 : Int) : Option (Bool) := spec_IsPower.l0 k a0 0
set_option maxHeartbeats 8000000 in
set_option maxRecDepth 100000 in
theorem spec_IsPower.calls (k : Nat) (a0 : Int) (r : Bool) (w : World) (h : spec_IsPower.f k a0 = some r) :
  Calls Try.prog 130 #[.int .i64 a0] w fun e w' => e = .returned (.bool r) ∧ Drawn0 w w' := by
 have H : (spec_IsPower.l0 k a0 0) = some r := h; clear h; have H' := Aside0.mk H; clear H; go_enter Try.func130, Try.ntmps130; go_wp2
 go_loopg [3] k (fun kq v3 w' => ∃ (x3_1 : Int), v3 = .int .i64 x3_1 ∧ Aside0 (spec_IsPower.l0 kq a0 x3_1 = some r) ∧ Aside0 (kq ≤ k) ∧ Drawn0 w w')
 case atStart => exact ⟨(0), sd_, H', ⟨Nat.le_refl _⟩, by repeat (first | exact Drawn0.refl _ | apply Drawn0.step)⟩
 case round =>
  clear H'; (try clear c1); obtain ⟨x3_1, rfl, HA, HK1, ⟨m1, rfl⟩⟩ := hrel
  cases gk with
  | zero => exact absurd HA.out (by simp [spec_IsPower.l0])
  | succ k1 =>
   have H := HA.out; clear HA; simp only [spec_IsPower.l0] at H
   by_cases c2 : x3_1 ≤ 20
   ·rw [if_pos c2] at H
    have c2b0 : decide (x3_1 ≤ 20) = true := decide_eq_true c2; clear c2
    by_cases c3 : 0 ≤ x3_1
    ·rw [if_pos c3] at H
     have c3b0 := eq_true c3; have c3b1 : decide (0 ≤ x3_1) = true := decide_eq_true c3; clear c3
     obtain ⟨ji4, hji4⟩ : ∃ j_ : Int, (shl .i64 1 x3_1) = j_ := ⟨_, rfl⟩
     replace H : (if a0 = (ji4) then (some true) else (spec_IsPower.l0 k1 a0 (wrap64 (x3_1 + 1)))) = some r := by first | (rw [hji4] at H; exact H) | (simp only [hji4] at H ⊢; exact H)
     have hji4_ : (IntKind.i64.wrap (1 * 2 ^ min x3_1.toNat 64)) = ji4 := hji4; have hji4z : x3_1 ≤ 64 → (IntKind.i64.wrap (1 * 2 ^ x3_1.toNat)) = ji4 := shl_small hji4; (have hji4u : (IntKind.i64.wrap (2 ^ min x3_1.toNat 64)) = ji4 := by have h_ := hji4_; rw [Int.one_mul] at h_; exact h_); (have hji4v : x3_1 ≤ 64 → (IntKind.i64.wrap (2 ^ x3_1.toNat)) = ji4 := fun hle_ => by have h_ := hji4z hle_; rw [Int.one_mul] at h_; exact h_); have hji4y : (wrap64 (1 * 2 ^ min x3_1.toNat 64)) = ji4 := (i64_w _).symm.trans hji4_; (have hji4x : x3_1 ≤ 64 → (wrap64 (1 * 2 ^ x3_1.toNat)) = ji4 := fun h_ => (i64_w _).symm.trans (hji4z h_))
     by_cases c5 : a0 = (ji4)
     ·rw [if_pos c5] at H
      have c5b0 : (a0 == (ji4)) = true := beq_iff_eq.mpr c5; have c5b1 : (a0 != (ji4)) = false := bne_eq_false_iff_eq.mpr c5; clear c5; obtain rfl := Option.some.inj H; go_wp2; go_ret; exact ⟨by first | rfl | (simp; done) | (simp only [← hji4] <;> (first | rfl | simp)) | (simp [*]; done), by repeat (first | exact Drawn0.refl _ | apply Drawn0.step)⟩
     ·rw [if_neg c5] at H
      have c5b0 : (a0 == (ji4)) = false := beq_eq_false_iff_ne.mpr c5; have c5b1 : (a0 != (ji4)) = true := bne_iff_ne.mpr c5; have H' := Aside0.mk H; clear H; go_wp2
      go_roundg k1
      case measure => have := HK1.out; omega
      case rel => exact ⟨(wrap64 (x3_1 + 1)), sd_, H', ⟨by have := HK1.out; omega⟩, by repeat (first | exact Drawn0.refl _ | apply Drawn0.step)⟩
    ·rw [if_neg c3] at H
     exact absurd H (by simp)
   ·rw [if_neg c2] at H
    have c2b0 : decide (x3_1 ≤ 20) = false := decide_eq_false c2; clear c2; obtain rfl := Option.some.inj H; go_wp2; go_ret; exact ⟨sd_, ds_⟩

mutual
def spec_SizesOk.j0 : Nat → List (S50) → List Int → Bool → Option (Bool)
 | 0, _, _, _ => none
 | k + 1, x0, x1, x15 => if x15 = true then (some false) else (spec_SizesOk.l0 k x0 x1 0)
def spec_SizesOk.l0 : Nat → List (S50) → List Int → Int → Option (Bool)
 | 0, _, _, _ => none
 | k + 1, x0, x1, x5 => if x5 < (x0.length : Int) then (if 0 ≤ x5 then (if x5 < (x1.length : Int) then (if (rd x1 x5) = 0 then (spec_SizesOk.l0 k x0 x1 (wrap64 (x5 + 1))) else (if ((rd_T50 x0 x5).f2) = 0 then (some false) else ((spec_IsPower.f k (rd x1 x5)).bind fun t254 => (if t254 = true then ((spec_l01In.f (rd x1 x5) 16 4096).bind fun t256 => (if t256 = true then (spec_SizesOk.l0 k x0 x1 (wrap64 (x5 + 1))) else (some false))) else (some false))))) else (none)) else (none)) else (some true)
end
def spec_SizesOk.f (k : Nat) (l0 : List (S50)) (l1 : List Int) : Option (Bool) := (spec_TreeOk.f k l0).bind fun t250 => (if t250 = true then (spec_SizesOk.j0 k l0 l1 ((l1.length : Int) != (l0.length : Int))) else (spec_SizesOk.j0 k l0 l1 true))
set_option maxHeartbeats 8000000 in
set_option maxRecDepth 100000 in
theorem spec_SizesOk.calls (k : Nat) (A0 : Option Addr) (c0 : Nat) (l0 : List (S50)) (A1 : Option Addr) (c1 : Nat) (l1 : List Int) (r : Bool) (w : World) (hr0 : Kd.C k50 w A0 l0.length l0) (hc0 : l0.length ≤ c0) (hr1 : Kd.C (Kd.int .i64) w A1 l1.length l1) (hc1 : l1.length ≤ c1) (h : spec_SizesOk.f k l0 l1 = some r) :
  Calls Try.prog 102 #[.slice A0 l0.length c0, .slice A1 l1.length c1] w fun e w' => e = .returned (.bool r) ∧ Below w.heap.size w w' := by
 have HR0 := Aside0.mk hr0; have HC0 := Aside0.mk hc0; clear hr0 hc0; have HR1 := Aside0.mk hr1; have HC1 := Aside0.mk hc1; clear hr1 hc1; have HB := Aside0.mk (Below.refl w.heap.size w); have H : ((spec_TreeOk.f k l0).bind fun t250 => (if t250 = true then (spec_SizesOk.j0 k l0 l1 ((l1.length : Int) != (l0.length : Int))) else (spec_SizesOk.j0 k l0 l1 true))) = some r := h; clear h; have HC3 := Aside0.mk H; clear H; go_enter Try.func102, Try.ntmps102
 go_upto_region 1 with (fail)
 go_cut [15] (fun v15 wc => ∃ (kq : Nat) (x15_2 : Bool), v15 = .bool x15_2 ∧ Aside0 (spec_SizesOk.j0 kq l0 l1 x15_2 = some r) ∧ Aside0 (kq ≤ k) ∧ Aside0 (Below w.heap.size w wc))
 case first =>
  have H := HC3.out; clear HC3; replace H := Option.bind_eq_some_iff.mp H; obtain ⟨t250, A40, H⟩ := H; replace H : (if t250 = true then (spec_SizesOk.j0 k l0 l1 ((l1.length : Int) != (l0.length : Int))) else (spec_SizesOk.j0 k l0 l1 true)) = some r := H; have A4 := Aside0.mk A40; clear A40
  by_cases c5 : t250 = true
  ·subst c5
   (have H1 : (spec_SizesOk.j0 k l0 l1 ((l1.length : Int) != (l0.length : Int))) = some r := by rw [if_pos rfl] at H; exact H); clear H; have H := H1; clear H1; have H' := Aside0.mk H; clear H; go_wp2_with (first | ((with_reducible refine gate_callee (f := 106) rfl ?_); refine goesL_ (some 7) rfl rfl Try.func106 (by kernel_rfl) rfl #[.slice A0 l0.length c0] rfl ms ?_; (with_reducible refine (spec_TreeOk.calls k _ _ l0 true _ ?side1 ?side2 A4.out).mono ?_); (case side1 => exact kc); (case side2 => exact HC0.out); rintro e w6 ⟨rfl, hb⟩; refine ⟨_, rfl, ?_⟩; replace HB := Aside0.mk (below_step bb hb); (try clear hb); (try clear hb2); (try clear hk); (try clear hi)))
   go_meet
   case rel => exact ⟨_, (((l1.length : Int) != (l0.length : Int))), sd_, H', ⟨by first | omega | exact Nat.le_refl _⟩, ⟨bb⟩⟩
  ·replace c5 := Bool.eq_false_iff.mpr c5
   subst c5; (have H1 : (spec_SizesOk.j0 k l0 l1 true) = some r := by rw [if_neg (show ¬ (false = true) by decide)] at H; exact H); clear H; have H := H1; clear H1; have H' := Aside0.mk H; clear H; go_wp2_with (first | ((with_reducible refine gate_callee (f := 106) rfl ?_); refine goesL_ (some 7) rfl rfl Try.func106 (by kernel_rfl) rfl #[.slice A0 l0.length c0] rfl ms ?_; (with_reducible refine (spec_TreeOk.calls k _ _ l0 false _ ?side1 ?side2 A4.out).mono ?_); (case side1 => exact kc); (case side2 => exact HC0.out); rintro e w7 ⟨rfl, hb⟩; refine ⟨_, rfl, ?_⟩; replace HB := Aside0.mk (below_step bb hb); (try clear hb); (try clear hb2); (try clear hk); (try clear hi)))
   go_meet
   case rel => exact ⟨_, (true), sd_, H', ⟨by first | omega | exact Nat.le_refl _⟩, ⟨bb⟩⟩
 case rest =>
  clear HC3; (try clear c1); (try clear p2); (try clear c5); obtain ⟨kq, x15_2, rfl, HA, HJ2, HB⟩ := hcut
  cases kq with
  | zero => exact absurd HA.out (by simp [spec_SizesOk.j0])
  | succ kj2 =>
   have H := HA.out; clear HA; simp only [spec_SizesOk.j0] at H
   by_cases c8 : x15_2 = true
   ·subst c8
    (have H1 : (some false) = some r := by rw [if_pos rfl] at H; exact H); clear H; have H := H1; clear H1; obtain rfl := Option.some.inj H; go_wp2; go_ret; exact ⟨er, bb⟩
   ·replace c8 := Bool.eq_false_iff.mpr c8
    subst c8; (have H1 : (spec_SizesOk.l0 kj2 l0 l1 0) = some r := by rw [if_neg (show ¬ (false = true) by decide)] at H; exact H); clear H; have H := H1; clear H1; have H' := Aside0.mk H; clear H; go_wp2
    go_loopg [5] kj2 (fun kq v5 w' => ∃ (x5_2 : Int), v5 = .int .i64 x5_2 ∧ Aside0 (spec_SizesOk.l0 kq l0 l1 x5_2 = some r) ∧ Aside0 (kq ≤ kj2) ∧ Aside0 (Below w.heap.size w w'))
    case atStart => exact ⟨(0), sd_, H', ⟨Nat.le_refl _⟩, ⟨bb⟩⟩
    case round =>
     clear H'; (try clear c1); (try clear p2); (try clear c5); (try clear c8); (try clear p2); obtain ⟨x5_2, rfl, HA, HK2, HB⟩ := hrel
     cases gk with
     | zero => exact absurd HA.out (by simp [spec_SizesOk.l0])
     | succ k2 =>
      have H := HA.out; clear HA; simp only [spec_SizesOk.l0] at H
      by_cases c9 : x5_2 < (l0.length : Int)
      ·rw [if_pos c9] at H
       have c9b0 : decide (x5_2 < (l0.length : Int)) = true := decide_eq_true c9; clear c9
       by_cases c10 : 0 ≤ x5_2
       ·rw [if_pos c10] at H
        have c10b0 : decide (0 ≤ x5_2) = true := decide_eq_true c10; clear c10
        by_cases c11 : x5_2 < (l1.length : Int)
        ·rw [if_pos c11] at H
         have c11b0 : decide (x5_2 < (l1.length : Int)) = true := decide_eq_true c11; clear c11
         by_cases c12 : (rd l1 x5_2) = 0
         ·rw [if_pos c12] at H
          have c12b0 : ((rd l1 x5_2) == 0) = true := beq_iff_eq.mpr c12; have c12b1 : ((rd l1 x5_2) != 0) = false := bne_eq_false_iff_eq.mpr c12; clear c12; have H' := Aside0.mk H; clear H; have p251 : 0 ≤ (x5_2 : Int) := of_decide_eq_true as_; have q251 : x5_2 < (l1.length : Int) := of_decide_eq_true as_; obtain ⟨ad251, e251, hx251_0⟩ := Kd.at_int HR1.out x5_2 p251 q251; cases e251; replace hx251_0 := pw_cell_below HB.out hx251_0; replace p251 := eq_true p251; replace q251 := eq_true q251; go_wp2
          go_roundg k2
          case measure => have := HJ2.out; have := HK2.out; omega
          case rel => exact ⟨(wrap64 (x5_2 + 1)), sd_, H', ⟨by have := HJ2.out; have := HK2.out; omega⟩, ⟨bb⟩⟩
         ·rw [if_neg c12] at H
          have c12b0 : ((rd l1 x5_2) == 0) = false := beq_eq_false_iff_ne.mpr c12; have c12b1 : ((rd l1 x5_2) != 0) = true := bne_iff_ne.mpr c12
          by_cases c13 : ((rd_T50 l0 x5_2).f2) = 0
          ·rw [if_pos c13] at H
           have c13b0 : (((rd_T50 l0 x5_2).f2) == 0) = true := beq_iff_eq.mpr c13; have c13b1 : (((rd_T50 l0 x5_2).f2) != 0) = false := bne_eq_false_iff_eq.mpr c13; clear c13; obtain rfl := Option.some.inj H; have p251 : 0 ≤ (x5_2 : Int) := of_decide_eq_true as_; have q251 : x5_2 < (l1.length : Int) := of_decide_eq_true as_; obtain ⟨ad251, e251, hx251_0⟩ := Kd.at_int HR1.out x5_2 p251 q251; cases e251; replace hx251_0 := pw_cell_below HB.out hx251_0; replace p251 := eq_true p251; replace q251 := eq_true q251; have p252 : 0 ≤ (x5_2 : Int) := of_decide_eq_true as_; have q252 : x5_2 < (l0.length : Int) := of_decide_eq_true as_; obtain ⟨ad252, e252, hx252_0, hx252_1, hx252_2⟩ := at_T50 HR0.out x5_2 p252 q252; cases e252; replace hx252_0 := pw_cell_below HB.out hx252_0; replace hx252_1 := pw_cell_below HB.out hx252_1; replace hx252_2 := pw_cell_below HB.out hx252_2; replace p252 := eq_true p252; replace q252 := eq_true q252; go_wp2; go_ret; exact ⟨er, bb⟩
          ·rw [if_neg c13] at H
           have c13b0 : (((rd_T50 l0 x5_2).f2) == 0) = false := beq_eq_false_iff_ne.mpr c13; have c13b1 : (((rd_T50 l0 x5_2).f2) != 0) = true := bne_iff_ne.mpr c13; replace H := Option.bind_eq_some_iff.mp H; obtain ⟨t254, A140, H⟩ := H; replace H : (if t254 = true then ((spec_l01In.f (rd l1 x5_2) 16 4096).bind fun t256 => (if t256 = true then (spec_SizesOk.l0 k2 l0 l1 (wrap64 (x5_2 + 1))) else (some false))) else (some false)) = some r := H; have A14 := Aside0.mk A140; clear A140
           by_cases c15 : t254 = true
           ·subst c15
            (have H1 : ((spec_l01In.f (rd l1 x5_2) 16 4096).bind fun t256 => (if t256 = true then (spec_SizesOk.l0 k2 l0 l1 (wrap64 (x5_2 + 1))) else (some false))) = some r := by rw [if_pos rfl] at H; exact H); clear H; have H := H1; clear H1; replace H := Option.bind_eq_some_iff.mp H; obtain ⟨t256, A160, H⟩ := H; replace H : (if t256 = true then (spec_SizesOk.l0 k2 l0 l1 (wrap64 (x5_2 + 1))) else (some false)) = some r := H; have A16 := Aside0.mk A160; clear A160
            by_cases c17 : t256 = true
            ·subst c17
             (have H1 : (spec_SizesOk.l0 k2 l0 l1 (wrap64 (x5_2 + 1))) = some r := by rw [if_pos rfl] at H; exact H); clear H; have H := H1; clear H1; have H' := Aside0.mk H; clear H; have p251 : 0 ≤ (x5_2 : Int) := of_decide_eq_true as_; have q251 : x5_2 < (l1.length : Int) := of_decide_eq_true as_; obtain ⟨ad251, e251, hx251_0⟩ := Kd.at_int HR1.out x5_2 p251 q251; cases e251; replace hx251_0 := pw_cell_below HB.out hx251_0; replace p251 := eq_true p251; replace q251 := eq_true q251; have p252 : 0 ≤ (x5_2 : Int) := of_decide_eq_true as_; have q252 : x5_2 < (l0.length : Int) := of_decide_eq_true as_; obtain ⟨ad252, e252, hx252_0, hx252_1, hx252_2⟩ := at_T50 HR0.out x5_2 p252 q252; cases e252; replace hx252_0 := pw_cell_below HB.out hx252_0; replace hx252_1 := pw_cell_below HB.out hx252_1; replace hx252_2 := pw_cell_below HB.out hx252_2; replace p252 := eq_true p252; replace q252 := eq_true q252; have p253 : 0 ≤ (x5_2 : Int) := of_decide_eq_true as_; have q253 : x5_2 < (l1.length : Int) := of_decide_eq_true as_; obtain ⟨ad253, e253, hx253_0⟩ := Kd.at_int HR1.out x5_2 p253 q253
             obtain rfl : ad251 = ad253 := (by injection e253)
             replace hx253_0 := pw_cell_below HB.out hx253_0; replace p253 := eq_true p253; replace q253 := eq_true q253; go_wp2_with (first | (go_at_call 130; (with_reducible refine (spec_IsPower.calls k2 (rd l1 x5_2) true _ A14.out).mono ?_); rintro e w' ⟨rfl, ⟨nd, rfl⟩⟩; have p255 : 0 ≤ (x5_2 : Int) := of_decide_eq_true as_; have q255 : x5_2 < (l1.length : Int) := of_decide_eq_true as_; obtain ⟨ad255, e255, hx255_0⟩ := Kd.at_int HR1.out x5_2 p255 q255; obtain rfl : ad251 = ad255 := (by injection e255); replace hx255_0 := pw_cell_below HB.out hx255_0; replace p255 := eq_true p255; replace q255 := eq_true q255) | (go_at_call 103; (with_reducible refine (spec_l01In.calls (rd l1 x5_2) 16 4096 true _ A16.out).mono ?_); rintro e w' ⟨rfl, ⟨nd, rfl⟩⟩))
             go_roundg k2
             case measure => have := HJ2.out; have := HK2.out; omega
             case rel => exact ⟨(wrap64 (x5_2 + 1)), sd_, H', ⟨by have := HJ2.out; have := HK2.out; omega⟩, ⟨bb⟩⟩
            ·replace c17 := Bool.eq_false_iff.mpr c17
             subst c17; (have H1 : (some false) = some r := by rw [if_neg (show ¬ (false = true) by decide)] at H; exact H); clear H; have H := H1; clear H1; obtain rfl := Option.some.inj H; have p251 : 0 ≤ (x5_2 : Int) := of_decide_eq_true as_; have q251 : x5_2 < (l1.length : Int) := of_decide_eq_true as_; obtain ⟨ad251, e251, hx251_0⟩ := Kd.at_int HR1.out x5_2 p251 q251; cases e251; replace hx251_0 := pw_cell_below HB.out hx251_0; replace p251 := eq_true p251; replace q251 := eq_true q251; have p252 : 0 ≤ (x5_2 : Int) := of_decide_eq_true as_; have q252 : x5_2 < (l0.length : Int) := of_decide_eq_true as_; obtain ⟨ad252, e252, hx252_0, hx252_1, hx252_2⟩ := at_T50 HR0.out x5_2 p252 q252; cases e252; replace hx252_0 := pw_cell_below HB.out hx252_0; replace hx252_1 := pw_cell_below HB.out hx252_1; replace hx252_2 := pw_cell_below HB.out hx252_2; replace p252 := eq_true p252; replace q252 := eq_true q252; have p253 : 0 ≤ (x5_2 : Int) := of_decide_eq_true as_; have q253 : x5_2 < (l1.length : Int) := of_decide_eq_true as_; obtain ⟨ad253, e253, hx253_0⟩ := Kd.at_int HR1.out x5_2 p253 q253
             obtain rfl : ad251 = ad253 := (by injection e253)
             replace hx253_0 := pw_cell_below HB.out hx253_0; replace p253 := eq_true p253; replace q253 := eq_true q253; go_wp2_with (first | (go_at_call 130; (with_reducible refine (spec_IsPower.calls k2 (rd l1 x5_2) true _ A14.out).mono ?_); rintro e w' ⟨rfl, ⟨nd, rfl⟩⟩; have p255 : 0 ≤ (x5_2 : Int) := of_decide_eq_true as_; have q255 : x5_2 < (l1.length : Int) := of_decide_eq_true as_; obtain ⟨ad255, e255, hx255_0⟩ := Kd.at_int HR1.out x5_2 p255 q255; obtain rfl : ad251 = ad255 := (by injection e255); replace hx255_0 := pw_cell_below HB.out hx255_0; replace p255 := eq_true p255; replace q255 := eq_true q255) | (go_at_call 103; (with_reducible refine (spec_l01In.calls (rd l1 x5_2) 16 4096 false _ A16.out).mono ?_); rintro e w' ⟨rfl, ⟨nd, rfl⟩⟩)); go_ret; exact ⟨er, bb⟩
           ·replace c15 := Bool.eq_false_iff.mpr c15
            subst c15; (have H1 : (some false) = some r := by rw [if_neg (show ¬ (false = true) by decide)] at H; exact H); clear H; have H := H1; clear H1; obtain rfl := Option.some.inj H; have p251 : 0 ≤ (x5_2 : Int) := of_decide_eq_true as_; have q251 : x5_2 < (l1.length : Int) := of_decide_eq_true as_; obtain ⟨ad251, e251, hx251_0⟩ := Kd.at_int HR1.out x5_2 p251 q251; cases e251; replace hx251_0 := pw_cell_below HB.out hx251_0; replace p251 := eq_true p251; replace q251 := eq_true q251; have p252 : 0 ≤ (x5_2 : Int) := of_decide_eq_true as_; have q252 : x5_2 < (l0.length : Int) := of_decide_eq_true as_; obtain ⟨ad252, e252, hx252_0, hx252_1, hx252_2⟩ := at_T50 HR0.out x5_2 p252 q252; cases e252; replace hx252_0 := pw_cell_below HB.out hx252_0; replace hx252_1 := pw_cell_below HB.out hx252_1; replace hx252_2 := pw_cell_below HB.out hx252_2; replace p252 := eq_true p252; replace q252 := eq_true q252; have p253 : 0 ≤ (x5_2 : Int) := of_decide_eq_true as_; have q253 : x5_2 < (l1.length : Int) := of_decide_eq_true as_; obtain ⟨ad253, e253, hx253_0⟩ := Kd.at_int HR1.out x5_2 p253 q253
            obtain rfl : ad251 = ad253 := (by injection e253)
            replace hx253_0 := pw_cell_below HB.out hx253_0; replace p253 := eq_true p253; replace q253 := eq_true q253; go_wp2_with (first | (go_at_call 130; (with_reducible refine (spec_IsPower.calls k2 (rd l1 x5_2) false _ A14.out).mono ?_); rintro e w' ⟨rfl, ⟨nd, rfl⟩⟩)); go_ret; exact ⟨er, bb⟩
        ·rw [if_neg c11] at H
         exact absurd H (by simp)
       ·rw [if_neg c10] at H
        exact absurd H (by simp)
      ·rw [if_neg c9] at H
       have c9b0 : decide (x5_2 < (l0.length : Int)) = false := decide_eq_false c9; clear c9; obtain rfl := Option.some.inj H; go_wp2; go_ret; exact ⟨er, bb⟩

def spec_l19Ok.f (k : Nat) (l0 : List (S50)) (a1 : Int) : Option (Bool) := (spec_TreeOk.f k l0).bind fun t257 => (if t257 = true then ((spec_l01In.f a1 0 (wrap64 ((l0.length : Int) - 1))).bind fun t258 => (some t258)) else (some false))
set_option maxHeartbeats 8000000 in
set_option maxRecDepth 100000 in
theorem spec_l19Ok.calls (k : Nat) (A0 : Option Addr) (c0 : Nat) (l0 : List (S50)) (a1 : Int) (r : Bool) (w : World) (hr0 : Kd.C k50 w A0 l0.length l0) (hc0 : l0.length ≤ c0) (h : spec_l19Ok.f k l0 a1 = some r) :
  Calls Try.prog 97 #[.slice A0 l0.length c0, .int .i64 a1] w fun e w' => e = .returned (.bool r) ∧ Below w.heap.size w w' := by
 have HR0 := Aside0.mk hr0; have HC0 := Aside0.mk hc0; clear hr0 hc0; have HB := Aside0.mk (Below.refl w.heap.size w); have H : ((spec_TreeOk.f k l0).bind fun t257 => (if t257 = true then ((spec_l01In.f a1 0 (wrap64 ((l0.length : Int) - 1))).bind fun t258 => (some t258)) else (some false))) = some r := h; clear h; replace H := Option.bind_eq_some_iff.mp H; obtain ⟨t257, A30, H⟩ := H; replace H : (if t257 = true then ((spec_l01In.f a1 0 (wrap64 ((l0.length : Int) - 1))).bind fun t258 => (some t258)) else (some false)) = some r := H; have A3 := Aside0.mk A30; clear A30
 by_cases c4 : t257 = true
 ·subst c4
  (have H1 : ((spec_l01In.f a1 0 (wrap64 ((l0.length : Int) - 1))).bind fun t258 => (some t258)) = some r := by rw [if_pos rfl] at H; exact H); clear H; have H := H1; clear H1; replace H := Option.bind_eq_some_iff.mp H; obtain ⟨t258, A50, H⟩ := H; replace H : (some t258) = some r := H; have A5 := Aside0.mk A50; clear A50; obtain rfl := Option.some.inj H; go_enter Try.func97, Try.ntmps97; go_wp2_with (first | ((with_reducible refine gate_callee (f := 106) rfl ?_); refine goesL_ (some 6) rfl rfl Try.func106 (by kernel_rfl) rfl #[.slice A0 l0.length c0] rfl ms ?_; (with_reducible refine (spec_TreeOk.calls k _ _ l0 true _ ?side1 ?side2 A3.out).mono ?_); (case side1 => repeat (first | exact HR0.out | (with_reducible refine C_alloc ?_ _) | (with_reducible refine C_drewN ?_ _) | (with_reducible refine C_drew ?_))); (case side2 => exact HC0.out); rintro e w6 ⟨rfl, hb⟩; refine ⟨_, rfl, ?_⟩; replace HB := Aside0.mk (below_step bb hb); (try clear hb); (try clear hb2); (try clear hk); (try clear hi)) | (go_at_call 103; (with_reducible refine (spec_l01In.calls a1 0 (wrap64 ((l0.length : Int) - 1)) t258 _ A5.out).mono ?_); rintro e w' ⟨rfl, ⟨nd, rfl⟩⟩)); go_ret; exact ⟨er, bb⟩
 ·replace c4 := Bool.eq_false_iff.mpr c4
  subst c4; (have H1 : (some false) = some r := by rw [if_neg (show ¬ (false = true) by decide)] at H; exact H); clear H; have H := H1; clear H1; obtain rfl := Option.some.inj H; go_enter Try.func97, Try.ntmps97; go_wp2_with (first | ((with_reducible refine gate_callee (f := 106) rfl ?_); refine goesL_ (some 6) rfl rfl Try.func106 (by kernel_rfl) rfl #[.slice A0 l0.length c0] rfl ms ?_; (with_reducible refine (spec_TreeOk.calls k _ _ l0 false _ ?side1 ?side2 A3.out).mono ?_); (case side1 => repeat (first | exact HR0.out | (with_reducible refine C_alloc ?_ _) | (with_reducible refine C_drewN ?_ _) | (with_reducible refine C_drew ?_))); (case side2 => exact HC0.out); rintro e w7 ⟨rfl, hb⟩; refine ⟨_, rfl, ?_⟩; replace HB := Aside0.mk (below_step bb hb); (try clear hb); (try clear hb2); (try clear hk); (try clear hi))); go_ret; exact ⟨er, bb⟩
mutual
def spec_ChildrenOf.l0 : Nat → List (S50) → Int → List Int → Int → Option (List Int)
 | 0, _, _, _, _ => none
 | k + 1, x0, x1, x5, x6 => if x6 ≤ 3 then (spec_ChildrenOf.l1 k x0 x1 x5 x6 1) else (some x5)
def spec_ChildrenOf.l1 : Nat → List (S50) → Int → List Int → Int → Int → Option (List Int)
 | 0, _, _, _, _, _ => none
 | k + 1, x0, x1, x5, x6, x7 => if x7 < (x0.length : Int) then (if 0 ≤ x7 then (if ((rd_T50 x0 x7).f0) = x1 then (if ((rd_T50 x0 x7).f1) = x6 then (if x5.length < 17592186044416 then (spec_ChildrenOf.l1 k x0 x1 (x5 ++ [x7]) x6 (wrap64 (x7 + 1))) else (none)) else (spec_ChildrenOf.l1 k x0 x1 x5 x6 (wrap64 (x7 + 1)))) else (spec_ChildrenOf.l1 k x0 x1 x5 x6 (wrap64 (x7 + 1)))) else (none)) else (spec_ChildrenOf.l0 k x0 x1 x5 (wrap64 (x6 + 1)))
end
def spec_ChildrenOf.f (k : Nat) (l0 : List (S50)) (a1 : Int) : Option (List Int) := (some (([] : List Int) : List Int)).bind fun y259 => ((spec_l19Ok.f k l0 a1).bind fun t262 => (if t262 = true then (spec_ChildrenOf.l0 k l0 a1 y259 0) else (some y259)))
set_option maxHeartbeats 8000000 in
set_option maxRecDepth 100000 in
theorem spec_ChildrenOf.calls (k : Nat) (A0 : Option Addr) (c0 : Nat) (l0 : List (S50)) (a1 : Int) (r : List Int) (w : World) (hr0 : Kd.C k50 w A0 l0.length l0) (hc0 : l0.length ≤ c0) (h : spec_ChildrenOf.f k l0 a1 = some r) :
  Calls Try.prog 41 #[.slice A0 l0.length c0, .int .i64 a1] w fun e w' => ∃ v0_ : Value, e = .returned (v0_) ∧ Kd.R (Kd.int .i64) 3 w' w.heap.size (fun _ => True) v0_ r ∧ Below w.heap.size w w' := by
 have HR0 := Aside0.mk hr0; have HC0 := Aside0.mk hc0; clear hr0 hc0; have HB := Aside0.mk (Below.refl w.heap.size w); have H : ((some (([] : List Int) : List Int)).bind fun y259 => ((spec_l19Ok.f k l0 a1).bind fun t262 => (if t262 = true then (spec_ChildrenOf.l0 k l0 a1 y259 0) else (some y259)))) = some r := h; clear h
 obtain ⟨y259, hy259⟩ : ∃ y_ : List Int, y_ = (([] : List Int)) := ⟨_, rfl⟩
 (replace H : ((spec_l19Ok.f k l0 a1).bind fun t262 => (if t262 = true then (spec_ChildrenOf.l0 k l0 a1 y259 0) else (some y259))) = some r := by first | (rw [hy259]; with_reducible exact H) | (have H2_ := bs_ H; rw [hy259]; with_reducible exact H2_) | (have H2_ := bs_ H; with_reducible exact H2_) | with_reducible exact H | (rw [hy259]; exact H) | exact H); have Ny259 := Aside0.mk hy259; clear hy259; replace H := Option.bind_eq_some_iff.mp H; obtain ⟨t262, A30, H⟩ := H; replace H : (if t262 = true then (spec_ChildrenOf.l0 k l0 a1 y259 0) else (some y259)) = some r := H; have A3 := Aside0.mk A30; clear A30
 by_cases c4 : t262 = true
 ·subst c4
  (have H1 : (spec_ChildrenOf.l0 k l0 a1 y259 0) = some r := by rw [if_pos rfl] at H; exact H); clear H; have H := H1; clear H1; have H' := Aside0.mk H; clear H; go_enter Try.func41, Try.ntmps41; go_wp2_with (first | ((with_reducible refine gate_dst (N := 8) rfl ?_); refine Kd.R_lit (Kd.int .i64) _ 3 ?hg (N := 8) ?hd (xs := ([] : List Int)) (inner := []) (ok := fun _ => True) (okp := fun _ => True) ?hr ?hp (fun _ hk => hk) trivial (Below.refl _ _) (Nat.le_refl _) (by simp) ?_; (case hd => rfl); (case hg => rfl); (case hr => exact hr_); (case hp => exact (Reps.none _ _)); intro v260 w5 ho6 hb hg_ hnew_; clear hg_ hnew_; (first | rw [← Ny259.out] at ho6 | (simp only [Int.reduceToNat] at ho6; rw [← Ny259.out] at ho6)); have t_ := fc2 (R_lower ho6 (below_size bb)) (below_step bb hb); clear HB; obtain ⟨HO261, HB⟩ := t_; clear hb ho6) | ((with_reducible refine gate_callee (f := 97) rfl ?_); refine goesL_ (some 11) rfl rfl Try.func97 (by kernel_rfl) rfl #[.slice A0 l0.length c0, .int .i64 a1] rfl ms ?_; (with_reducible refine (spec_l19Ok.calls k _ _ l0 a1 true _ ?side1 ?side2 A3.out).mono ?_); (case side1 => exact kc); (case side2 => exact HC0.out); rintro e w7 ⟨rfl, hb⟩; refine ⟨_, rfl, ?_⟩; have t_ := fc2 (R_below (ra HO261.out) hb) (below_step bb hb); clear HO261 HB; obtain ⟨HO261, HB⟩ := t_; (try clear hb)))
  go_loopg [5, 6] k (fun kq v5 v6 w' => ∃ (x5_1 : List Int) (x6_1 : Int), v6 = .int .i64 x6_1 ∧ Aside0 (spec_ChildrenOf.l0 kq l0 a1 x5_1 x6_1 = some r) ∧ Aside0 (kq ≤ k) ∧ Aside0 (Kd.R (Kd.int .i64) 3 w' w.heap.size (fun _ => True) v5 x5_1) ∧ Aside0 (Below w.heap.size w w'))
  case atStart => exact ⟨(y259), (0), sd_, H', ⟨Nat.le_refl _⟩, ⟨(ra HO261.out)⟩, ⟨bb⟩⟩
  case round =>
   clear H'; (try clear p2); (try clear c4); obtain ⟨x5_1, x6_1, rfl, HA, HK1, HO_5, HB⟩ := hrel
   cases gk with
   | zero => exact absurd HA.out (by simp [spec_ChildrenOf.l0])
   | succ k1 =>
    have H := HA.out; clear HA; simp only [spec_ChildrenOf.l0] at H
    by_cases c8 : x6_1 ≤ 3
    ·rw [if_pos c8] at H
     have c8b0 : decide (x6_1 ≤ 3) = true := decide_eq_true c8; clear c8; have H' := Aside0.mk H; clear H; go_wp2
     go_loopg [5, 7] k1 (fun kq v5 v7 w' => ∃ (x5_2 : List Int) (x7_2 : Int), v7 = .int .i64 x7_2 ∧ Aside0 (spec_ChildrenOf.l1 kq l0 a1 x5_2 x6_1 x7_2 = some r) ∧ Aside0 (kq ≤ k1) ∧ Aside0 (Kd.R (Kd.int .i64) 3 w' w.heap.size (fun _ => True) v5 x5_2) ∧ Aside0 (Below w.heap.size w w'))
     case atStart => exact ⟨(x5_1), (1), sd_, H', ⟨Nat.le_refl _⟩, ⟨(ra HO_5.out)⟩, ⟨bb⟩⟩
     case round =>
      clear H'; (try clear p2); (try clear c4); (try clear c8); (try clear c8b0); (try clear p2); obtain ⟨x5_2, x7_2, rfl, HA, HK2, HO_5, HB⟩ := hrel
      cases gk with
      | zero => exact absurd HA.out (by simp [spec_ChildrenOf.l1])
      | succ k2 =>
       have H := HA.out; clear HA; simp only [spec_ChildrenOf.l1] at H
       by_cases c9 : x7_2 < (l0.length : Int)
       ·rw [if_pos c9] at H
        have c9b0 : decide (x7_2 < (l0.length : Int)) = true := decide_eq_true c9; clear c9
        by_cases c10 : 0 ≤ x7_2
        ·rw [if_pos c10] at H
         have c10b0 : decide (0 ≤ x7_2) = true := decide_eq_true c10; clear c10
         by_cases c11 : ((rd_T50 l0 x7_2).f0) = a1
         ·rw [if_pos c11] at H
          have c11b0 : (((rd_T50 l0 x7_2).f0) == a1) = true := beq_iff_eq.mpr c11; have c11b1 : (((rd_T50 l0 x7_2).f0) != a1) = false := bne_eq_false_iff_eq.mpr c11; clear c11
          by_cases c12 : ((rd_T50 l0 x7_2).f1) = x6_1
          ·rw [if_pos c12] at H
           have c12b0 : (((rd_T50 l0 x7_2).f1) == x6_1) = true := beq_iff_eq.mpr c12; have c12b1 : (((rd_T50 l0 x7_2).f1) != x6_1) = false := bne_eq_false_iff_eq.mpr c12; clear c12
           by_cases c13 : x5_2.length < 17592186044416
           ·rw [if_pos c13] at H
            have LMc13 := Aside0.mk c13; clear c13
            obtain ⟨y265, hy265⟩ : ∃ y_ : List Int, y_ = (x5_2 ++ [x7_2]) := ⟨_, rfl⟩
            (replace H : (spec_ChildrenOf.l1 k2 l0 a1 y265 x6_1 (wrap64 (x7_2 + 1))) = some r := by first | (rw [hy265]; with_reducible exact H) | (have H2_ := bs_ H; rw [hy265]; with_reducible exact H2_) | (have H2_ := bs_ H; with_reducible exact H2_) | with_reducible exact H | (rw [hy265]; exact H) | exact H); have Ny265 := Aside0.mk hy265; clear hy265; have H' := Aside0.mk H; clear H; have p263 : 0 ≤ (x7_2 : Int) := of_decide_eq_true as_; have q263 : x7_2 < (l0.length : Int) := of_decide_eq_true as_; obtain ⟨ad263, e263, hx263_0, hx263_1, hx263_2⟩ := at_T50 HR0.out x7_2 p263 q263; cases e263; replace hx263_0 := pw_cell_below HB.out hx263_0; replace hx263_1 := pw_cell_below HB.out hx263_1; replace hx263_2 := pw_cell_below HB.out hx263_2; replace p263 := eq_true p263; replace q263 := eq_true q263; have p264 : 0 ≤ (x7_2 : Int) := of_decide_eq_true as_; have q264 : x7_2 < (l0.length : Int) := of_decide_eq_true as_; obtain ⟨ad264, e264, hx264_0, hx264_1, hx264_2⟩ := at_T50 HR0.out x7_2 p264 q264
            obtain rfl : ad263 = ad264 := (by injection e264)
            replace hx264_0 := pw_cell_below HB.out hx264_0; replace hx264_1 := pw_cell_below HB.out hx264_1; replace hx264_2 := pw_cell_below HB.out hx264_2; replace p264 := eq_true p264; replace q264 := eq_true q264; go_wp2_with (first | ((with_reducible refine gate_builtin (b := .append) (xs := #[.tmp 40, .tmp 42]) rfl ?_); at_builtin; refine R_append (Kd.int .i64) (w0 := w) w.heap.size rfl (.tmp 40) (.tmp 42) 23 3 (.int .i64 0) 8 rfl Try.underlying23 info3 rfl (by decide) (by omega) u5 x5_2 x7_2 [.int .i64 x7_2] (fun _ => True) (fun _ => False) rfl rfl ?aP (fun _ hk => hk.elim) ?aF ?aO ?aB ?aS ?aL ?_; (case aP => exact rfl); (case aB => exact bb); (case aF => exact (fun _ _ => trivial)); (case aO => exact (ra HO_5.out)); (case aS => exact (below_size bb)); (case aL => have := LMc13.out; omega); intro v266 w14 ho hb hg hat; rw [← Ny265.out] at ho; have t_ := fc2 (hb) (ho); clear HB HO_5; obtain ⟨HB, HO267⟩ := t_; clear ho hb hg hat))
            go_roundg k2
            case measure => have := HK1.out; have := HK2.out; omega
            case rel => exact ⟨(y265), (wrap64 (x7_2 + 1)), sd_, H', ⟨by have := HK1.out; have := HK2.out; omega⟩, ⟨(ra HO267.out)⟩, ⟨bb⟩⟩
           ·rw [if_neg c13] at H
            exact absurd H (by simp)
          ·rw [if_neg c12] at H
           have c12b0 : (((rd_T50 l0 x7_2).f1) == x6_1) = false := beq_eq_false_iff_ne.mpr c12; have c12b1 : (((rd_T50 l0 x7_2).f1) != x6_1) = true := bne_iff_ne.mpr c12; have H' := Aside0.mk H; clear H; have p263 : 0 ≤ (x7_2 : Int) := of_decide_eq_true as_; have q263 : x7_2 < (l0.length : Int) := of_decide_eq_true as_; obtain ⟨ad263, e263, hx263_0, hx263_1, hx263_2⟩ := at_T50 HR0.out x7_2 p263 q263; cases e263; replace hx263_0 := pw_cell_below HB.out hx263_0; replace hx263_1 := pw_cell_below HB.out hx263_1; replace hx263_2 := pw_cell_below HB.out hx263_2; replace p263 := eq_true p263; replace q263 := eq_true q263; have p264 : 0 ≤ (x7_2 : Int) := of_decide_eq_true as_; have q264 : x7_2 < (l0.length : Int) := of_decide_eq_true as_; obtain ⟨ad264, e264, hx264_0, hx264_1, hx264_2⟩ := at_T50 HR0.out x7_2 p264 q264
           obtain rfl : ad263 = ad264 := (by injection e264)
           replace hx264_0 := pw_cell_below HB.out hx264_0; replace hx264_1 := pw_cell_below HB.out hx264_1; replace hx264_2 := pw_cell_below HB.out hx264_2; replace p264 := eq_true p264; replace q264 := eq_true q264; go_wp2
           go_roundg k2
           case measure => have := HK1.out; have := HK2.out; omega
           case rel => exact ⟨(x5_2), (wrap64 (x7_2 + 1)), sd_, H', ⟨by have := HK1.out; have := HK2.out; omega⟩, ⟨(ra HO_5.out)⟩, ⟨bb⟩⟩
         ·rw [if_neg c11] at H
          have c11b0 : (((rd_T50 l0 x7_2).f0) == a1) = false := beq_eq_false_iff_ne.mpr c11; have c11b1 : (((rd_T50 l0 x7_2).f0) != a1) = true := bne_iff_ne.mpr c11; have H' := Aside0.mk H; clear H; have p263 : 0 ≤ (x7_2 : Int) := of_decide_eq_true as_; have q263 : x7_2 < (l0.length : Int) := of_decide_eq_true as_; obtain ⟨ad263, e263, hx263_0, hx263_1, hx263_2⟩ := at_T50 HR0.out x7_2 p263 q263; cases e263; replace hx263_0 := pw_cell_below HB.out hx263_0; replace hx263_1 := pw_cell_below HB.out hx263_1; replace hx263_2 := pw_cell_below HB.out hx263_2; replace p263 := eq_true p263; replace q263 := eq_true q263; go_wp2
          go_roundg k2
          case measure => have := HK1.out; have := HK2.out; omega
          case rel => exact ⟨(x5_2), (wrap64 (x7_2 + 1)), sd_, H', ⟨by have := HK1.out; have := HK2.out; omega⟩, ⟨(ra HO_5.out)⟩, ⟨bb⟩⟩
        ·rw [if_neg c10] at H
         exact absurd H (by simp)
       ·rw [if_neg c9] at H
        have c9b0 : decide (x7_2 < (l0.length : Int)) = false := decide_eq_false c9; clear c9; have H' := Aside0.mk H; clear H; go_wp2
        go_roundg k2
        case measure => have := HK1.out; have := HK2.out; omega
        case rel => exact ⟨(x5_2), (wrap64 (x6_1 + 1)), sd_, H', ⟨by have := HK1.out; have := HK2.out; omega⟩, ⟨(ra HO_5.out)⟩, ⟨bb⟩⟩
    ·rw [if_neg c8] at H
     have c8b0 : decide (x6_1 ≤ 3) = false := decide_eq_false c8; clear c8; obtain rfl := Option.some.inj H; go_wp2; go_ret; exact ⟨_, er, (ra HO_5.out), bb⟩
 ·replace c4 := Bool.eq_false_iff.mpr c4
  subst c4; (have H1 : (some y259) = some r := by rw [if_neg (show ¬ (false = true) by decide)] at H; exact H); clear H; have H := H1; clear H1; obtain rfl := Option.some.inj H; go_enter Try.func41, Try.ntmps41; go_wp2_with (first | ((with_reducible refine gate_dst (N := 8) rfl ?_); refine Kd.R_lit (Kd.int .i64) _ 3 ?hg (N := 8) ?hd (xs := ([] : List Int)) (inner := []) (ok := fun _ => True) (okp := fun _ => True) ?hr ?hp (fun _ hk => hk) trivial (Below.refl _ _) (Nat.le_refl _) (by simp) ?_; (case hd => rfl); (case hg => rfl); (case hr => exact hr_); (case hp => exact (Reps.none _ _)); intro v260 w15 ho16 hb hg_ hnew_; clear hg_ hnew_; (first | rw [← Ny259.out] at ho16 | (simp only [Int.reduceToNat] at ho16; rw [← Ny259.out] at ho16)); have t_ := fc2 (R_lower ho16 (below_size bb)) (below_step bb hb); clear HB; obtain ⟨HO261, HB⟩ := t_; clear hb ho16) | ((with_reducible refine gate_callee (f := 97) rfl ?_); refine goesL_ (some 11) rfl rfl Try.func97 (by kernel_rfl) rfl #[.slice A0 l0.length c0, .int .i64 a1] rfl ms ?_; (with_reducible refine (spec_l19Ok.calls k _ _ l0 a1 false _ ?side1 ?side2 A3.out).mono ?_); (case side1 => exact kc); (case side2 => exact HC0.out); rintro e w17 ⟨rfl, hb⟩; refine ⟨_, rfl, ?_⟩; have t_ := fc2 (R_below (ra HO261.out) hb) (below_step bb hb); clear HO261 HB; obtain ⟨HO261, HB⟩ := t_; (try clear hb))); go_ret; exact ⟨_, er, (ra HO261.out), bb⟩

mutual
def spec_l24Window.l0 : Nat → List (S50) → List Int → List Int → Int → Int → Option (Int)
 | 0, _, _, _, _, _ => none
 | k + 1, x0, x1, x7, x8, x9 => if x9 < (x7.length : Int) then (if 0 ≤ x9 then ((spec_l24Window.f k x0 x1 (rd x7 x9)).bind fun t274 => (spec_l24Window.l0 k x0 x1 x7 (wrap64 (x8 + t274)) (wrap64 (x9 + 1)))) else (none)) else (spec_l24Window.l1 k x8 1)
def spec_l24Window.l1 : Nat → Int → Int → Option (Int)
 | 0, _, _ => none
 | k + 1, x8, x10 => if x10 < x8 then (spec_l24Window.l1 k x8 (wrap64 (x10 * 2))) else (some (mn x10 (wrap64 (x8 * x10))))
def spec_l24Window.f : Nat → List (S50) → List Int → Int → Option (Int)
 | 0, _, _, _ => none
 | k + 1, l0, l1, a2 => if 0 ≤ a2 then (if a2 < (l0.length : Int) then (if ((rd_T50 l0 a2).f2) > 0 then (if a2 < (l1.length : Int) then (some (rd l1 a2)) else (none)) else ((spec_ChildrenOf.f k l0 a2).bind fun t270 => (spec_l24Window.l0 k l0 l1 t270 0 0))) else (none)) else (none)
end
set_option maxHeartbeats 8000000 in
set_option maxRecDepth 100000 in
theorem spec_l24Window.calls (k : Nat) : ∀ (A0 : Option Addr) (c0 : Nat) (l0 : List (S50)) (A1 : Option Addr) (c1 : Nat) (l1 : List Int) (a2 : Int) (r : Int) (w : World) (hr0 : Kd.C k50 w A0 l0.length l0) (hc0 : l0.length ≤ c0) (hr1 : Kd.C (Kd.int .i64) w A1 l1.length l1) (hc1 : l1.length ≤ c1) (h : spec_l24Window.f k l0 l1 a2 = some r),
  Calls Try.prog 104 #[.slice A0 l0.length c0, .slice A1 l1.length c1, .int .i64 a2] w fun e w' => e = .returned (.int .i64 r) ∧ Below w.heap.size w w' := by
 induction k using Nat.strongRecOn with
 | _ k ih =>
 intro A0 c0 l0 A1 c1 l1 a2 r w hr0 hc0 hr1 hc1 h
 cases k with
 | zero => exact absurd h (by simp [spec_l24Window.f])
 | succ k =>
 simp only [spec_l24Window.f] at h; have HR0 := Aside0.mk hr0; have HC0 := Aside0.mk hc0; clear hr0 hc0; have HR1 := Aside0.mk hr1; have HC1 := Aside0.mk hc1; clear hr1 hc1; have HB := Aside0.mk (Below.refl w.heap.size w); have H : (if 0 ≤ a2 then (if a2 < (l0.length : Int) then (if ((rd_T50 l0 a2).f2) > 0 then (if a2 < (l1.length : Int) then (some (rd l1 a2)) else (none)) else ((spec_ChildrenOf.f k l0 a2).bind fun t270 => (spec_l24Window.l0 k l0 l1 t270 0 0))) else (none)) else (none)) = some r := h; clear h
 by_cases c4 : 0 ≤ a2
 ·rw [if_pos c4] at H
  have c4b0 : decide (0 ≤ a2) = true := decide_eq_true c4; clear c4
  by_cases c5 : a2 < (l0.length : Int)
  ·rw [if_pos c5] at H
   have c5b0 : decide (a2 < (l0.length : Int)) = true := decide_eq_true c5; clear c5
   by_cases c6 : ((rd_T50 l0 a2).f2) > 0
   ·rw [if_pos c6] at H
    have c6b0 : decide (0 < ((rd_T50 l0 a2).f2)) = true := decide_eq_true c6; clear c6
    by_cases c7 : a2 < (l1.length : Int)
    ·rw [if_pos c7] at H
     have c7b0 : decide (a2 < (l1.length : Int)) = true := decide_eq_true c7; clear c7; obtain rfl := Option.some.inj H; have p268 : 0 ≤ (a2 : Int) := of_decide_eq_true as_; have q268 : a2 < (l0.length : Int) := of_decide_eq_true as_; obtain ⟨ad268, e268, hx268_0, hx268_1, hx268_2⟩ := at_T50 HR0.out a2 p268 q268; cases e268; replace p268 := eq_true p268; replace q268 := eq_true q268; have p269 : 0 ≤ (a2 : Int) := of_decide_eq_true as_; have q269 : a2 < (l1.length : Int) := of_decide_eq_true as_; obtain ⟨ad269, e269, hx269_0⟩ := Kd.at_int HR1.out a2 p269 q269; cases e269; replace p269 := eq_true p269; replace q269 := eq_true q269; go_enter Try.func104, Try.ntmps104; go_wp2; go_ret; exact ⟨er, bb⟩
    ·rw [if_neg c7] at H
     exact absurd H (by simp)
   ·rw [if_neg c6] at H
    have c6b0 : decide (0 < ((rd_T50 l0 a2).f2)) = false := decide_eq_false c6; clear c6; replace H := Option.bind_eq_some_iff.mp H; obtain ⟨t270, A80, H⟩ := H; replace H : (spec_l24Window.l0 k l0 l1 t270 0 0) = some r := H; have A8 := Aside0.mk A80; clear A80; have H' := Aside0.mk H; clear H; have p268 : 0 ≤ (a2 : Int) := of_decide_eq_true as_; have q268 : a2 < (l0.length : Int) := of_decide_eq_true as_; obtain ⟨ad268, e268, hx268_0, hx268_1, hx268_2⟩ := at_T50 HR0.out a2 p268 q268; cases e268; replace p268 := eq_true p268; replace q268 := eq_true q268; go_enter Try.func104, Try.ntmps104; go_wp2_with (first | ((with_reducible refine gate_callee (f := 41) rfl ?_); refine goesL_ (some 23) rfl rfl Try.func41 (by kernel_rfl) rfl #[.slice (some ad268) l0.length c0, .int .i64 a2] rfl ms ?_; (with_reducible refine (spec_ChildrenOf.calls k _ _ l0 a2 t270 _ ?side1 ?side2 A8.out).mono ?_); (case side1 => repeat (first | exact HR0.out | (with_reducible refine C_alloc ?_ _) | (with_reducible refine C_drewN ?_ _) | (with_reducible refine C_drew ?_))); (case side2 => exact HC0.out); rintro e w9 ⟨v271, rfl, ho0, hb⟩; refine ⟨_, rfl, ?_⟩; have t_ := fc2 (R_lower ho0 (below_size bb)) (below_step bb hb); clear HB; obtain ⟨HO272, HB⟩ := t_; (try clear hb); (try clear ho0)))
    go_loopg [8, 9] k (fun kq v8 v9 w' => ∃ (x8_1 : Int) (x9_1 : Int), v8 = .int .i64 x8_1 ∧ v9 = .int .i64 x9_1 ∧ Aside0 (spec_l24Window.l0 kq l0 l1 t270 x8_1 x9_1 = some r) ∧ Aside0 (kq ≤ k) ∧ Aside0 (Kd.R (Kd.int .i64) 3 w' w.heap.size (fun _ => True) v271 t270) ∧ Aside0 (Below w.heap.size w w'))
    case atStart => exact ⟨(0), (0), sd_, sd_, H', ⟨Nat.le_refl _⟩, ⟨(ra HO272.out)⟩, ⟨bb⟩⟩
    case round =>
     clear H'; (try clear c1); (try clear p2); (try clear q2); (try clear hx2); (try clear c4); (try clear c4b0); (try clear c5); (try clear c5b0); (try clear c6); (try clear c6b0); (try clear c7); (try clear c7b0); (try clear hx268_0); (try clear hx268_1); (try clear hx268_2); (try clear hx269_0); (try clear p268); (try clear p269); (try clear q268); (try clear q269); obtain ⟨x8_1, x9_1, rfl, rfl, HA, HK1, HO_7, HB⟩ := hrel
     cases gk with
     | zero => exact absurd HA.out (by simp [spec_l24Window.l0])
     | succ k1 =>
      have H := HA.out; clear HA; simp only [spec_l24Window.l0] at H
      by_cases c10 : x9_1 < (t270.length : Int)
      ·rw [if_pos c10] at H
       have c10b0 : decide (x9_1 < (t270.length : Int)) = true := decide_eq_true c10; clear c10
       by_cases c11 : 0 ≤ x9_1
       ·rw [if_pos c11] at H
        have c11b0 : decide (0 ≤ x9_1) = true := decide_eq_true c11; clear c11; replace H := Option.bind_eq_some_iff.mp H; obtain ⟨t274, A120, H⟩ := H; replace H : (spec_l24Window.l0 k1 l0 l1 t270 (wrap64 (x8_1 + t274)) (wrap64 (x9_1 + 1))) = some r := H; have A12 := Aside0.mk A120; clear A120; have H' := Aside0.mk H; clear H; obtain ⟨Ao13, co13, eo13⟩ := R_slice HO_7.out; subst eo13; have p273 : 0 ≤ (x9_1 : Int) := of_decide_eq_true as_; have q273 : x9_1 < (t270.length : Int) := of_decide_eq_true as_; obtain ⟨ad273, e273, hx273_0⟩ := Kd.at_int (R_reads' HO_7.out).2.2 x9_1 p273 q273; cases e273; replace p273 := eq_true p273; replace q273 := eq_true q273; go_wp2_with (first | ((with_reducible refine gate_callee (f := 104) rfl ?_); refine goesL_ (some 37) rfl rfl Try.func104 (by kernel_rfl) rfl #[.slice (some ad268) l0.length c0, .slice A1 l1.length c1, .int .i64 (rd t270 x9_1)] rfl ms ?_; (with_reducible refine (ih k1 (by have := HK1.out; omega) _ _ l0 _ _ l1 (rd t270 x9_1) t274 _ ?side1 ?side2 ?side3 ?side4 A12.out).mono ?_); (case side1 => exact kc); (case side2 => exact HC0.out); (case side3 => exact kc); (case side4 => exact HC1.out); rintro e w14 ⟨rfl, hb⟩; refine ⟨_, rfl, ?_⟩; have t_ := fc2 (R_below (ra HO_7.out) hb) (below_step bb hb); clear HO_7 HB; obtain ⟨HO_7, HB⟩ := t_; (try clear hb)))
        go_roundg k1
        case measure => have := HK1.out; omega
        case rel => exact ⟨(wrap64 (x8_1 + t274)), (wrap64 (x9_1 + 1)), sd_, sd_, H', ⟨by have := HK1.out; omega⟩, ⟨(ra HO_7.out)⟩, ⟨bb⟩⟩
       ·rw [if_neg c11] at H
        exact absurd H (by simp)
      ·rw [if_neg c10] at H
       have c10b0 : decide (x9_1 < (t270.length : Int)) = false := decide_eq_false c10; clear c10; have H' := Aside0.mk H; clear H; obtain ⟨Ao15, co15, eo15⟩ := R_slice HO_7.out; subst eo15; go_wp2
       go_loopg [10] k1 (fun kq v10 w' => ∃ (x10_2 : Int), v10 = .int .i64 x10_2 ∧ Aside0 (spec_l24Window.l1 kq x8_1 x10_2 = some r) ∧ Aside0 (kq ≤ k1) ∧ Aside0 (Below w.heap.size w w'))
       case atStart => exact ⟨(1), sd_, H', ⟨Nat.le_refl _⟩, ⟨bb⟩⟩
       case round =>
        clear H'; (try clear c1); (try clear p2); (try clear q2); (try clear hx2); (try clear c4); (try clear c4b0); (try clear c5); (try clear c5b0); (try clear c6); (try clear c6b0); (try clear p6); (try clear c7); (try clear c7b0); (try clear c10); (try clear c10b0); (try clear c11); (try clear c11b0); (try clear hx268_0); (try clear hx268_1); (try clear hx268_2); (try clear hx269_0); (try clear hx273_0); (try clear p2); (try clear p268); (try clear p269); (try clear p273); (try clear q2); (try clear q268); (try clear q269); (try clear q273); obtain ⟨x10_2, rfl, HA, HK2, HB⟩ := hrel
        cases gk with
        | zero => exact absurd HA.out (by simp [spec_l24Window.l1])
        | succ k2 =>
         have H := HA.out; clear HA; simp only [spec_l24Window.l1] at H
         by_cases c16 : x10_2 < x8_1
         ·rw [if_pos c16] at H
          have c16b0 : decide (x10_2 < x8_1) = true := decide_eq_true c16; clear c16; have H' := Aside0.mk H; clear H; go_wp2
          go_roundg k2
          case measure => have := HK1.out; have := HK2.out; omega
          case rel => exact ⟨(wrap64 (x10_2 * 2)), sd_, H', ⟨by have := HK1.out; have := HK2.out; omega⟩, ⟨bb⟩⟩
         ·rw [if_neg c16] at H
          have c16b0 : decide (x10_2 < x8_1) = false := decide_eq_false c16; clear c16
          obtain ⟨ji17, hji17⟩ : ∃ j_ : Int, (mn x10_2 (wrap64 (x8_1 * x10_2))) = j_ := ⟨_, rfl⟩
          replace H : (some ji17) = some r := by first | (rw [hji17] at H; exact H) | (simp only [hji17] at H ⊢; exact H)
          have hji17_ : (if (wrap64 (x8_1 * x10_2)) < x10_2 then (wrap64 (x8_1 * x10_2)) else x10_2) = ji17 := hji17; obtain rfl := Option.some.inj H; go_wp2; go_ret; exact ⟨by first | rfl | (simp [errW_none, errW_some] <;> rfl) | (simp only [← hji17]; first | rfl | (simp [errW_none, errW_some] <;> rfl)) | (simp [*, errW_none, errW_some] <;> rfl), bb⟩
  ·rw [if_neg c5] at H
   exact absurd H (by simp)
 ·rw [if_neg c4] at H
  exact absurd H (by simp)
end Go.Proofs.Ytbbppknnkghkjaa.PFnWindows
