/- Printed: each Go function as a Lean function, with the proof that Go comes to just its answer (squeezed) -/
import Derived.Test.YtbbppknnkghkjaaPFnWindowsx0
import Derived.Test.YtbbppknnkghkjaaPFnWindowsx9
import Derived.Test.YtbbppknnkghkjaaSteps
import Derived.Test.YtbbppknnkghkjaaPFnWindowsx3
namespace Go.Proofs.Ytbbppknnkghkjaa.PFnWindows
open Go.RowKit Go.Proofs.YtbbppknnkghkjaaW.PrintWords Go.Proofs.YtbbppknnkghkjaaW.PrintLast Go.Proofs.YtbbppknnkghkjaaW.PrintMore Go.Proofs.Ytbbppknnkghkjaa.Kit Go.Proofs.Ytbbppknnkghkjaa.Kit2 Go.Proofs.Ytbbppknnkghkjaa.Kit3 Go.Proofs.Ytbbppknnkghkjaa.Steps
attribute [local go_sem] max2_int min2_int max_two min_two max_three min_three max_four min_four   -- for this text's walks alone
set_option linter.unusedVariables false
set_option linter.unusedSimpArgs false
open Go.Proofs.YtbbppknnkghkjaaW.PrintWords.Kd (R_below R_mono R_far R_types R_elder' R_base R_lower R_new' R_newB R_lt R_after R_slice R_drew R_drewN R_alloc R_reads' R_bound R_append R_ne R_step C_below C_alloc C_drew C_drewN)
mutual
def spec_l24Place.l0 : Nat → List (S50) → List (S73) → Int → Int → Int → Option ((List (S73)))
 | 0, _, _, _, _, _ => none
 | k + 1, x0, x1, x2, x6, x7 => if x7 > 0 then (spec_l24Place.l1 k x0 x1 x2 x6 x7 1) else (spec_l24Place.l2 k x0 x1 x2 1)
def spec_l24Place.l1 : Nat → List (S50) → List (S73) → Int → Int → Int → Int → Option ((List (S73)))
 | 0, _, _, _, _, _, _ => none
 | k + 1, x0, x1, x2, x6, x7, x8 => if x8 < (x0.length : Int) then (if 0 ≤ x8 then (if ((rd_T50 x0 x8).f0) = x2 then (if x8 < (x1.length : Int) then (if ((rd_T73 x1 x8).f0) = x7 then (spec_l24Place.l1 k x0 (x1.set (x8 : Int).toNat (⟨(rd_T73 x1 x8).f0, x6⟩ : S73)) x2 (wrap64 (x6 + x7)) x7 (wrap64 (x8 + 1))) else (spec_l24Place.l1 k x0 x1 x2 x6 x7 (wrap64 (x8 + 1)))) else (none)) else (spec_l24Place.l1 k x0 x1 x2 x6 x7 (wrap64 (x8 + 1)))) else (none)) else (spec_l24Place.l0 k x0 x1 x2 x6 (wrap64 (Int.tdiv x7 2)))
def spec_l24Place.l2 : Nat → List (S50) → List (S73) → Int → Int → Option ((List (S73)))
 | 0, _, _, _, _ => none
 | k + 1, x0, x1, x2, x9 => if x9 < (x0.length : Int) then (if 0 ≤ x9 then (if ((rd_T50 x0 x9).f0) = x2 then (if ((rd_T50 x0 x9).f2) = 0 then (if x9 < (x1.length : Int) then (if ((rd_T73 x1 x9).f0) > 0 then ((spec_l24Place.f k x0 x1 x9).bind fun t282 => (spec_l24Place.l2 k x0 t282 x2 (wrap64 (x9 + 1)))) else (spec_l24Place.l2 k x0 x1 x2 (wrap64 (x9 + 1)))) else (none)) else (spec_l24Place.l2 k x0 x1 x2 (wrap64 (x9 + 1)))) else (spec_l24Place.l2 k x0 x1 x2 (wrap64 (x9 + 1)))) else (none)) else (some x1)
def spec_l24Place.f : Nat → List (S50) → List (S73) → Int → Option ((List (S73)))
 | 0, _, _, _ => none
 | k + 1, l0, l1, a2 => if 0 ≤ a2 then (if a2 < (l1.length : Int) then (spec_l24Place.l0 k l0 l1 a2 ((rd_T73 l1 a2).f1) 65536) else (none)) else (none)
end
set_option maxHeartbeats 8000000 in
set_option maxRecDepth 100000 in
theorem spec_l24Place.calls (k : Nat) : ∀ (A0 : Option Addr) (c0 : Nat) (l0 : List (S50)) (P1_ : Nat → Prop) (u9000_ : Value) (l1 : List (S73)) (a2 : Int) (r : List (S73)) (w0 w : World) (hB : Below w0.heap.size w0 w) (hr0 : ∀ W_, Kept w W_ (fun k_ => P1_ k_) → Kd.C k50 W_ A0 l0.length l0) (hc0 : l0.length ≤ c0) (ho1 : Kd.R k73 73 w w0.heap.size P1_ u9000_ l1) (h : spec_l24Place.f k l0 l1 a2 = some r),
  Calls Try.prog 109 #[.slice A0 l0.length c0, u9000_, .int .i64 a2] w fun e w' => e = .returned (.tuple #[]) ∧ Kd.R k73 73 w' w0.heap.size (fun k_ => (P1_ k_ ∨ w.heap.size ≤ k_)) u9000_ r ∧ Below w0.heap.size w0 w' ∧ Kept w w' (fun k_ => P1_ k_) := by
 induction k using Nat.strongRecOn with
 | _ k ih =>
 intro A0 c0 l0 P1_ u9000_ l1 a2 r w0 w hB hr0 hc0 ho1 h
 cases k with
 | zero => exact absurd h (by simp [spec_l24Place.f])
 | succ k =>
 simp only [spec_l24Place.f] at h; have HR0 := Aside0.mk hr0; have HC0 := Aside0.mk hc0; clear hr0 hc0; have HO1 := Aside0.mk (show Kd.R k73 73 w w0.heap.size (fun k_ => (P1_ k_ ∨ w.heap.size ≤ k_)) u9000_ l1 from R_mono ho1 (fun k_ hk => (.inl hk))); have HK := Aside0.mk (Kept.refl w (fun k_ => P1_ k_)); have HW0 := Aside0.mk hB.size; have HB := Aside0.mk hB; clear hB; have H : (if 0 ≤ a2 then (if a2 < (l1.length : Int) then (spec_l24Place.l0 k l0 l1 a2 ((rd_T73 l1 a2).f1) 65536) else (none)) else (none)) = some r := h; clear h
 by_cases c4 : 0 ≤ a2
 ·rw [if_pos c4] at H
  have c4b0 : decide (0 ≤ a2) = true := decide_eq_true c4; clear c4
  by_cases c5 : a2 < (l1.length : Int)
  ·rw [if_pos c5] at H
   have c5b0 : decide (a2 < (l1.length : Int)) = true := decide_eq_true c5; clear c5; have H' := Aside0.mk H; clear H; obtain ⟨Ao6, co6, eo6⟩ := R_slice HO1.out; subst eo6; have p275 : 0 ≤ (a2 : Int) := of_decide_eq_true as_; have q275 : a2 < (l1.length : Int) := of_decide_eq_true as_; obtain ⟨ad275, e275, hx275_0, hx275_1⟩ := at_T73 (R_reads' HO1.out).2.2 a2 p275 q275; cases e275; obtain ⟨gh_, rfl⟩ := Kd.R_head HO1.out; (try simp only [add_plain] at hx275_0 hx275_1); replace p275 := eq_true p275; replace q275 := eq_true q275; go_enter Try.func109, Try.ntmps109; go_wp2
   go_loopg [6, 7] k (fun kq v6 v7 w' => ∃ (x1_1 : List (S73)) (x6_1 : Int) (x7_1 : Int), v6 = .int .i64 x6_1 ∧ v7 = .int .i64 x7_1 ∧ Aside0 (spec_l24Place.l0 kq l0 x1_1 a2 x6_1 x7_1 = some r) ∧ Aside0 (kq ≤ k) ∧ Aside0 (Kd.R k73 73 w' w0.heap.size (fun k_ => (P1_ k_ ∨ w.heap.size ≤ k_)) (.slice (some (⟨gh_, 0, none⟩ : Addr)) l1.length co6) x1_1) ∧ Aside0 (Kept w w' (fun k_ => P1_ k_)) ∧ Aside0 (Below w0.heap.size w0 w'))
   case atStart => exact ⟨(l1), ((rd_T73 l1 a2).f1), (65536), sd_, sd_, H', ⟨Nat.le_refl _⟩, ⟨(ra HO1.out)⟩, ⟨by repeat (first | (with_reducible first | exact HK.out | apply Kept.alloc | apply Kept.drewN | apply Kept.drew) | exact HK.out)⟩, ⟨bb⟩⟩
   case round =>
    clear H'; (try clear c1); (try clear p2); (try clear q2); (try clear hx2); (try clear c4); (try clear c4b0); (try clear c5); (try clear c5b0); (try clear hx275_0); (try clear hx275_1); (try clear p275); (try clear q275); obtain ⟨x1_1, x6_1, x7_1, rfl, rfl, HA, HK1, HO_1, HK, HB⟩ := hrel; have hl1_1 := (R_reads' HO_1.out).1; rw [hl1_1] at HO_1; (try simp only [hl1_1])
    cases gk with
    | zero => exact absurd HA.out (by simp [spec_l24Place.l0])
    | succ k1 =>
     have H := HA.out; clear HA; simp only [spec_l24Place.l0] at H
     by_cases c7 : x7_1 > 0
     ·rw [if_pos c7] at H
      have c7b0 : decide (0 < x7_1) = true := decide_eq_true c7; clear c7; have H' := Aside0.mk H; clear H; go_wp2
      go_loopg [6, 8] k1 (fun kq v6 v8 w' => ∃ (x1_2 : List (S73)) (x6_2 : Int) (x8_2 : Int), v6 = .int .i64 x6_2 ∧ v8 = .int .i64 x8_2 ∧ Aside0 (spec_l24Place.l1 kq l0 x1_2 a2 x6_2 x7_1 x8_2 = some r) ∧ Aside0 (kq ≤ k1) ∧ Aside0 (Kd.R k73 73 w' w0.heap.size (fun k_ => (P1_ k_ ∨ w.heap.size ≤ k_)) (.slice (some (⟨gh_, 0, none⟩ : Addr)) x1_1.length co6) x1_2) ∧ Aside0 (Kept w w' (fun k_ => P1_ k_)) ∧ Aside0 (Below w0.heap.size w0 w'))
      case atStart => exact ⟨(x1_1), (x6_1), (1), sd_, sd_, H', ⟨Nat.le_refl _⟩, ⟨by (try simp only [hl1_1]); (with_reducible repeat (first | apply R_alloc | apply R_drewN | apply R_drew)); exact HO_1.out⟩, ⟨by repeat (first | (with_reducible first | exact HK.out | apply Kept.alloc | apply Kept.drewN | apply Kept.drew) | exact HK.out)⟩, ⟨bb⟩⟩
      case round =>
       clear H'; (try clear c1); (try clear p2); (try clear q2); (try clear hx2); (try clear c4); (try clear c4b0); (try clear c5); (try clear c5b0); (try clear c7); (try clear c7b0); (try clear hx275_0); (try clear hx275_1); (try clear p2); (try clear p275); (try clear q2); (try clear q275); obtain ⟨x1_2, x6_2, x8_2, rfl, rfl, HA, HK2, HO_1, HK, HB⟩ := hrel; have hl1_2 := (R_reads' HO_1.out).1; rw [hl1_2] at HO_1; (try simp only [hl1_2])
       cases gk with
       | zero => exact absurd HA.out (by simp [spec_l24Place.l1])
       | succ k2 =>
        have H := HA.out; clear HA; simp only [spec_l24Place.l1] at H
        by_cases c8 : x8_2 < (l0.length : Int)
        ·rw [if_pos c8] at H
         have c8b0 : decide (x8_2 < (l0.length : Int)) = true := decide_eq_true c8; (try (have c8h0 := c8b0; simp only [hl1_1, hl1_2] at c8h0)); clear c8
         by_cases c9 : 0 ≤ x8_2
         ·rw [if_pos c9] at H
          have c9b0 : decide (0 ≤ x8_2) = true := decide_eq_true c9; clear c9
          by_cases c10 : ((rd_T50 l0 x8_2).f0) = a2
          ·rw [if_pos c10] at H
           have c10b0 : (((rd_T50 l0 x8_2).f0) == a2) = true := beq_iff_eq.mpr c10; have c10b1 : (((rd_T50 l0 x8_2).f0) != a2) = false := bne_eq_false_iff_eq.mpr c10; clear c10
           by_cases c11 : x8_2 < (x1_2.length : Int)
           ·rw [if_pos c11] at H
            have c11b0 : decide (x8_2 < (x1_2.length : Int)) = true := decide_eq_true c11; (try (have c11h0 := c11b0; simp only [hl1_1, hl1_2] at c11h0)); clear c11
            by_cases c12 : ((rd_T73 x1_2 x8_2).f0) = x7_1
            ·rw [if_pos c12] at H
             have c12b0 : (((rd_T73 x1_2 x8_2).f0) == x7_1) = true := beq_iff_eq.mpr c12; have c12b1 : (((rd_T73 x1_2 x8_2).f0) != x7_1) = false := bne_eq_false_iff_eq.mpr c12; clear c12
             obtain ⟨y278, hy278⟩ : ∃ y_ : List (S73), y_ = (x1_2.set (x8_2 : Int).toNat (⟨(rd_T73 x1_2 x8_2).f0, x6_2⟩ : S73)) := ⟨_, rfl⟩
             (replace H : (spec_l24Place.l1 k2 l0 y278 a2 (wrap64 (x6_2 + x7_1)) x7_1 (wrap64 (x8_2 + 1))) = some r := by first | (rw [hy278]; with_reducible exact H) | (have H2_ := bs_ H; rw [hy278]; with_reducible exact H2_) | (have H2_ := bs_ H; with_reducible exact H2_) | with_reducible exact H | (rw [hy278]; exact H) | exact H); have Ny278 := Aside0.mk hy278; clear hy278; have H' := Aside0.mk H; clear H; have p276 : 0 ≤ (x8_2 : Int) := of_decide_eq_true as_; have q276 : x8_2 < (l0.length : Int) := of_decide_eq_true as_; obtain ⟨ad276, e276, hx276_0, hx276_1, hx276_2⟩ := at_T50 (Kd.C_kept_now HR0.out HK.out) x8_2 p276 q276; cases e276; replace p276 := eq_true p276; replace q276 := eq_true q276; have p277 : 0 ≤ (x8_2 : Int) := of_decide_eq_true as_; have q277 : x8_2 < (x1_2.length : Int) := of_decide_eq_true as_; obtain ⟨ad277, e277, hx277_0, hx277_1⟩ := at_T73 (R_reads' HO_1.out).2.2 x8_2 p277 q277
             obtain rfl : (⟨gh_, 0, none⟩ : Addr) = ad277 := (by injection e277)
             (try simp only [add_plain] at hx277_0 hx277_1)
             replace p277 := eq_true p277; replace q277 := eq_true q277; have p13 : 0 ≤ (x8_2 : Int) := of_decide_eq_true as_; have q13 : (x8_2 : Int) < ((x1_2.length : Int) : Int) := of_decide_eq_true as_; obtain ⟨go13, co13, eo13, gb13, gl13, cl13, HG13⟩ := Kd.R_form HO_1.out (by omega); (first | cases eo13 | (injection eo13 with ea_ en_ ec_; (first | subst ea_ | (injection ea_ with ea_; subst ea_)); subst ec_; clear en_)); have GB13 := Aside0.mk gb13; have GG13 := Aside0.mk HG13; clear gb13 gl13 HG13; have HMgo13 := Aside0.mk (show (P1_ gh_ ∨ w.heap.size ≤ gh_) from (HO_1.out.1 _ rfl)); (first | simp only [add_plain] at hx275_0 | skip); (first | simp only [add_plain] at hx275_1 | skip); (first | simp only [add_plain] at hx277_0 | skip); (first | simp only [add_plain] at hx277_1 | skip); obtain ⟨ce13, hcl13, hM13, hcc13, hfr13⟩ := Kd.R_elem HO_1.out z73 (x8_2 : Int) p13 q13; obtain rfl := k73_openM hM13; have hx13_0 : wr.cell? ⟨gh_, (x8_2 : Int).toNat * 2, none⟩ = some (.int .i64 ((rd_T73 x1_2 x8_2).f0)) := hcc13 0 _ rfl; have hx13_1 : wr.cell? ⟨gh_, (x8_2 : Int).toNat * 2 + 1, none⟩ = some (.int .i64 ((rd_T73 x1_2 x8_2).f1)) := hcc13 1 _ rfl; have hf13_0 : wr.frozen? ⟨gh_, (x8_2 : Int).toNat * 2, none⟩ = false := hfr13 0; have hf13_1 : wr.frozen? ⟨gh_, (x8_2 : Int).toNat * 2 + 1, none⟩ = false := hfr13 1; clear hcl13 hcc13 hfr13 hM13; replace p13 := eq_true p13; replace q13 := eq_true q13; have HX14 := Aside0.mk (show Kd.R k73 73 wr w0.heap.size (fun k_ => (P1_ k_ ∨ w.heap.size ≤ k_)) (.slice (some ⟨gh_, 0, none⟩) x1_2.length co6) x1_2 from (ra HO_1.out)); obtain ⟨ce14, hcl14, hM14, hcc14, hfr14⟩ := Kd.R_elem HX14.out z73 (x8_2 : Int) (of_decide_eq_true as_) (by have h_ : (x8_2 : Int) < ((x1_2.length : Int) : Int) := of_decide_eq_true as_; first | exact h_ | (have e_ := (R_reads' HO_1.out).1; omega) | simpa using h_); obtain rfl := k73_openM hM14; have HP14 := Kd.R_seg HX14.out (x8_2 : Int) (of_decide_eq_true as_) (by have h_ : (x8_2 : Int) < ((x1_2.length : Int) : Int) := of_decide_eq_true as_; first | exact h_ | (have e_ := (R_reads' HO_1.out).1; omega) | simpa using h_) (seg := [.int .i64 x6_2]) (j := 1) hcl14 hcc14 (show 2 ≤ 2 from by decide) (x' := (⟨(rd_T73 x1_2 x8_2).f0, x6_2⟩ : S73)) (k73_mkM _ _ _ (⟨(rd_T73 x1_2 x8_2).f0, x6_2⟩ : S73) ) (fun _ hk => hk); have hx14_1 := hcc14 1 _ rfl; (try simp only [show (k73).sz = 2 from rfl, Nat.mul_one, Nat.add_zero] at hx14_1); have hf14_1 := hfr14 1; (try simp only [show (k73).sz = 2 from rfl, Nat.mul_one, Nat.add_zero] at hf14_1); clear hcl14 hcc14 hfr14 hM14; go_wp2_with (first | ((with_reducible refine gate_store (t := 3) (p := 45) rfl ?_); refine store_event (t := 3) (p := 45) (v := ?vo_w15) (w1 := (wr.setCell ⟨gh_, (x8_2 : Int).toNat * 2 + 1, none⟩ (.int .i64 x6_2))) ?hg ?ho ?hn ?hr ?_; (case ho => rfl); (case hg => rfl); (case hn => rfl); (case hr => exact hr_); intro w15 hw; have hg : wr.grownBy w15 (some gh_) := (by rw [hw]; exact HP14.2); have hp_ : Kd.R k73 73 w15 w0.heap.size (fun k_ => (P1_ k_ ∨ w.heap.size ≤ k_)) (.slice (some ⟨gh_, 0, none⟩) x1_2.length co6) y278 := (by rw [hw, Ny278.out]; exact HP14.1); clear HP14; have t_ := fc3 (hp_) ((by rw [hw]; exact below_set (HB.out) GB13.out : Below w0.heap.size w0 w15)) (Kept.of_grown (S := (fun k_ => P1_ k_)) hg (by repeat (first | (with_reducible first | exact HK.out | apply Kept.alloc | apply Kept.drewN | apply Kept.drew) | exact HK.out)) (fun k_ e_ => (HO_1.out.1 k_ e_))); clear HO_1 HB HK; obtain ⟨HO_1, HB, HK⟩ := t_; clear hg hw hp_)); (try simp only [← hl1_2])
             go_roundg k2
             case measure => have := HK1.out; have := HK2.out; omega
             case rel => exact ⟨(y278), (wrap64 (x6_2 + x7_1)), (wrap64 (x8_2 + 1)), sd_, sd_, H', ⟨by have := HK1.out; have := HK2.out; omega⟩, ⟨by (try simp only [hl1_1]); (try simp only [hl1_2]); (with_reducible repeat (first | apply R_alloc | apply R_drewN | apply R_drew)); exact HO_1.out⟩, ⟨by repeat (first | (with_reducible first | exact HK.out | apply Kept.alloc | apply Kept.drewN | apply Kept.drew) | exact HK.out)⟩, ⟨bb⟩⟩
            ·rw [if_neg c12] at H
             have c12b0 : (((rd_T73 x1_2 x8_2).f0) == x7_1) = false := beq_eq_false_iff_ne.mpr c12; have c12b1 : (((rd_T73 x1_2 x8_2).f0) != x7_1) = true := bne_iff_ne.mpr c12; have H' := Aside0.mk H; clear H; have p276 : 0 ≤ (x8_2 : Int) := of_decide_eq_true as_; have q276 : x8_2 < (l0.length : Int) := of_decide_eq_true as_; obtain ⟨ad276, e276, hx276_0, hx276_1, hx276_2⟩ := at_T50 (Kd.C_kept_now HR0.out HK.out) x8_2 p276 q276; cases e276; replace p276 := eq_true p276; replace q276 := eq_true q276; have p277 : 0 ≤ (x8_2 : Int) := of_decide_eq_true as_; have q277 : x8_2 < (x1_2.length : Int) := of_decide_eq_true as_; obtain ⟨ad277, e277, hx277_0, hx277_1⟩ := at_T73 (R_reads' HO_1.out).2.2 x8_2 p277 q277
             obtain rfl : (⟨gh_, 0, none⟩ : Addr) = ad277 := (by injection e277)
             (try simp only [add_plain] at hx277_0 hx277_1)
             replace p277 := eq_true p277; replace q277 := eq_true q277; go_wp2; (try simp only [← hl1_2])
             go_roundg k2
             case measure => have := HK1.out; have := HK2.out; omega
             case rel => exact ⟨(x1_2), (x6_2), (wrap64 (x8_2 + 1)), sd_, sd_, H', ⟨by have := HK1.out; have := HK2.out; omega⟩, ⟨by (try simp only [hl1_1]); (try simp only [hl1_2]); (with_reducible repeat (first | apply R_alloc | apply R_drewN | apply R_drew)); exact HO_1.out⟩, ⟨by repeat (first | (with_reducible first | exact HK.out | apply Kept.alloc | apply Kept.drewN | apply Kept.drew) | exact HK.out)⟩, ⟨bb⟩⟩
           ·rw [if_neg c11] at H
            exact absurd H (by simp)
          ·rw [if_neg c10] at H
           have c10b0 : (((rd_T50 l0 x8_2).f0) == a2) = false := beq_eq_false_iff_ne.mpr c10; have c10b1 : (((rd_T50 l0 x8_2).f0) != a2) = true := bne_iff_ne.mpr c10; have H' := Aside0.mk H; clear H; have p276 : 0 ≤ (x8_2 : Int) := of_decide_eq_true as_; have q276 : x8_2 < (l0.length : Int) := of_decide_eq_true as_; obtain ⟨ad276, e276, hx276_0, hx276_1, hx276_2⟩ := at_T50 (Kd.C_kept_now HR0.out HK.out) x8_2 p276 q276; cases e276; replace p276 := eq_true p276; replace q276 := eq_true q276; go_wp2; (try simp only [← hl1_2])
           go_roundg k2
           case measure => have := HK1.out; have := HK2.out; omega
           case rel => exact ⟨(x1_2), (x6_2), (wrap64 (x8_2 + 1)), sd_, sd_, H', ⟨by have := HK1.out; have := HK2.out; omega⟩, ⟨by (try simp only [hl1_1]); (try simp only [hl1_2]); (with_reducible repeat (first | apply R_alloc | apply R_drewN | apply R_drew)); exact HO_1.out⟩, ⟨by repeat (first | (with_reducible first | exact HK.out | apply Kept.alloc | apply Kept.drewN | apply Kept.drew) | exact HK.out)⟩, ⟨bb⟩⟩
         ·rw [if_neg c9] at H
          exact absurd H (by simp)
        ·rw [if_neg c8] at H
         have c8b0 : decide (x8_2 < (l0.length : Int)) = false := decide_eq_false c8; (try (have c8h0 := c8b0; simp only [hl1_1, hl1_2] at c8h0)); clear c8; have H' := Aside0.mk H; clear H; go_wp2; (try simp only [← hl1_1, ← hl1_2])
         go_roundg k2
         case measure => have := HK1.out; have := HK2.out; omega
         case rel => exact ⟨(x1_2), (x6_2), (wrap64 (Int.tdiv x7_1 2)), sd_, sd_, H', ⟨by have := HK1.out; have := HK2.out; omega⟩, ⟨by (try simp only [hl1_1]); (try simp only [hl1_2]); (with_reducible repeat (first | apply R_alloc | apply R_drewN | apply R_drew)); exact HO_1.out⟩, ⟨by repeat (first | (with_reducible first | exact HK.out | apply Kept.alloc | apply Kept.drewN | apply Kept.drew) | exact HK.out)⟩, ⟨bb⟩⟩
     ·rw [if_neg c7] at H
      have c7b0 : decide (0 < x7_1) = false := decide_eq_false c7; clear c7; have H' := Aside0.mk H; clear H; go_wp2
      go_loopg [9] k1 (fun kq v9 w' => ∃ (x1_2 : List (S73)) (x9_2 : Int), v9 = .int .i64 x9_2 ∧ Aside0 (spec_l24Place.l2 kq l0 x1_2 a2 x9_2 = some r) ∧ Aside0 (kq ≤ k1) ∧ Aside0 (Kd.R k73 73 w' w0.heap.size (fun k_ => (P1_ k_ ∨ w.heap.size ≤ k_)) (.slice (some (⟨gh_, 0, none⟩ : Addr)) x1_1.length co6) x1_2) ∧ Aside0 (Kept w w' (fun k_ => P1_ k_)) ∧ Aside0 (Below w0.heap.size w0 w'))
      case atStart => exact ⟨(x1_1), (1), sd_, H', ⟨Nat.le_refl _⟩, ⟨by (try simp only [hl1_1]); (with_reducible repeat (first | apply R_alloc | apply R_drewN | apply R_drew)); exact HO_1.out⟩, ⟨by repeat (first | (with_reducible first | exact HK.out | apply Kept.alloc | apply Kept.drewN | apply Kept.drew) | exact HK.out)⟩, ⟨bb⟩⟩
      case round =>
       clear H'; (try clear c1); (try clear p1); (try clear q1); (try clear hx1); (try clear p2); (try clear q2); (try clear hx2); (try clear c4); (try clear c4b0); (try clear c5); (try clear c5b0); (try clear p6); (try clear c7); (try clear c7b0); (try clear c8); (try clear c8b0); (try clear c9); (try clear c9b0); (try clear c10); (try clear c10b0); (try clear c10b1); (try clear c11); (try clear c11b0); (try clear c12); (try clear c12b0); (try clear c12b1); (try clear c13); (try clear p13); (try clear q13); (try clear hx13); (try clear hf13); (try clear c14); (try clear hx14); (try clear hf14); (try clear hx13_0); (try clear hx13_1); (try clear hx14_1); (try clear hx275_0); (try clear hx275_1); (try clear hx276_0); (try clear hx276_1); (try clear hx276_2); (try clear hx277_0); (try clear hx277_1); (try clear p13); (try clear p2); (try clear p275); (try clear p276); (try clear p277); (try clear q13); (try clear q2); (try clear q275); (try clear q276); (try clear q277); obtain ⟨x1_2, x9_2, rfl, HA, HK2, HO_1, HK, HB⟩ := hrel; have hl1_2 := (R_reads' HO_1.out).1; rw [hl1_2] at HO_1; (try simp only [hl1_2])
       cases gk with
       | zero => exact absurd HA.out (by simp [spec_l24Place.l2])
       | succ k2 =>
        have H := HA.out; clear HA; simp only [spec_l24Place.l2] at H
        by_cases c16 : x9_2 < (l0.length : Int)
        ·rw [if_pos c16] at H
         have c16b0 : decide (x9_2 < (l0.length : Int)) = true := decide_eq_true c16; (try (have c16h0 := c16b0; simp only [hl1_1, hl1_2] at c16h0)); clear c16
         by_cases c17 : 0 ≤ x9_2
         ·rw [if_pos c17] at H
          have c17b0 : decide (0 ≤ x9_2) = true := decide_eq_true c17; clear c17
          by_cases c18 : ((rd_T50 l0 x9_2).f0) = a2
          ·rw [if_pos c18] at H
           have c18b0 : (((rd_T50 l0 x9_2).f0) == a2) = true := beq_iff_eq.mpr c18; have c18b1 : (((rd_T50 l0 x9_2).f0) != a2) = false := bne_eq_false_iff_eq.mpr c18; clear c18
           by_cases c19 : ((rd_T50 l0 x9_2).f2) = 0
           ·rw [if_pos c19] at H
            have c19b0 : (((rd_T50 l0 x9_2).f2) == 0) = true := beq_iff_eq.mpr c19; have c19b1 : (((rd_T50 l0 x9_2).f2) != 0) = false := bne_eq_false_iff_eq.mpr c19; clear c19
            by_cases c20 : x9_2 < (x1_2.length : Int)
            ·rw [if_pos c20] at H
             have c20b0 : decide (x9_2 < (x1_2.length : Int)) = true := decide_eq_true c20; (try (have c20h0 := c20b0; simp only [hl1_1, hl1_2] at c20h0)); clear c20
             by_cases c21 : ((rd_T73 x1_2 x9_2).f0) > 0
             ·rw [if_pos c21] at H
              have c21b0 : decide (0 < ((rd_T73 x1_2 x9_2).f0)) = true := decide_eq_true c21; clear c21; replace H := Option.bind_eq_some_iff.mp H; obtain ⟨t282, A220, H⟩ := H; replace H : (spec_l24Place.l2 k2 l0 t282 a2 (wrap64 (x9_2 + 1))) = some r := H; have A22 := Aside0.mk A220; clear A220; have H' := Aside0.mk H; clear H; have p279 : 0 ≤ (x9_2 : Int) := of_decide_eq_true as_; have q279 : x9_2 < (l0.length : Int) := of_decide_eq_true as_; obtain ⟨ad279, e279, hx279_0, hx279_1, hx279_2⟩ := at_T50 (Kd.C_kept_now HR0.out HK.out) x9_2 p279 q279; cases e279; replace p279 := eq_true p279; replace q279 := eq_true q279; have p280 : 0 ≤ (x9_2 : Int) := of_decide_eq_true as_; have q280 : x9_2 < (l0.length : Int) := of_decide_eq_true as_; obtain ⟨ad280, e280, hx280_0, hx280_1, hx280_2⟩ := at_T50 (Kd.C_kept_now HR0.out HK.out) x9_2 p280 q280
              obtain rfl : ad279 = ad280 := (by injection e280)
              replace p280 := eq_true p280; replace q280 := eq_true q280; have p281 : 0 ≤ (x9_2 : Int) := of_decide_eq_true as_; have q281 : x9_2 < (x1_2.length : Int) := of_decide_eq_true as_; obtain ⟨ad281, e281, hx281_0, hx281_1⟩ := at_T73 (R_reads' HO_1.out).2.2 x9_2 p281 q281
              obtain rfl : (⟨gh_, 0, none⟩ : Addr) = ad281 := (by injection e281)
              (try simp only [add_plain] at hx281_0 hx281_1)
              replace p281 := eq_true p281; replace q281 := eq_true q281; go_wp2_with (first | ((with_reducible refine gate_callee (f := 109) rfl ?_); refine goesL_ (some 81) rfl rfl Try.func109 (by kernel_rfl) rfl #[.slice (some ad279) l0.length c0, .slice (some (⟨gh_, 0, none⟩ : Addr)) x1_2.length co6, .int .i64 x9_2] rfl ms ?_; (with_reducible refine (ih k2 (by have := HK1.out; have := HK2.out; omega) _ _ l0 (fun k_ => some k_ = (.slice (some (⟨gh_, 0, none⟩ : Addr)) x1_2.length co6 : Value).ownBlock) (.slice (some (⟨gh_, 0, none⟩ : Addr)) x1_2.length co6) x1_2 x9_2 t282 w0 _ ?side1 ?side2 ?side3 ?side4 A22.out).mono ?_); (case side1 => exact bb); (case side2 => exact Kd.C_kept_call HR0.out (by repeat (first | (with_reducible first | exact HK.out | apply Kept.alloc | apply Kept.drewN | apply Kept.drew) | exact HK.out)) (fun k_ hs_ => (fun e_ => (HO_1.out.1 k_ e_.symm)) hs_)); (case side3 => exact HC0.out); (case side4 => exact Kd.R_tight rfl HO_1.out); rintro e w23 ⟨rfl, hy0, hb, hkp⟩; refine ⟨_, rfl, ?_⟩; have t_ := fc3 (Kd.R_reok rfl hy0 (fun k_ e_ => HO_1.out.1 k_ e_)) (Kept.then_ (S := (fun k_ => P1_ k_)) (by repeat (first | (with_reducible first | exact HK.out | apply Kept.alloc | apply Kept.drewN | apply Kept.drew) | exact HK.out)) hkp (fun k_ hs_ => (fun e_ => (HO_1.out.1 k_ e_.symm)) hs_)) (hb); clear HO_1 HK HB; obtain ⟨HO_1, HK, HB⟩ := t_; (try clear hb); (try clear hkp); (try clear hy0))); (try simp only [← hl1_2])
              go_roundg k2
              case measure => have := HK1.out; have := HK2.out; omega
              case rel => exact ⟨(t282), (wrap64 (x9_2 + 1)), sd_, H', ⟨by have := HK1.out; have := HK2.out; omega⟩, ⟨by (try simp only [hl1_1]); (try simp only [hl1_2]); (with_reducible repeat (first | apply R_alloc | apply R_drewN | apply R_drew)); exact HO_1.out⟩, ⟨by repeat (first | (with_reducible first | exact HK.out | apply Kept.alloc | apply Kept.drewN | apply Kept.drew) | exact HK.out)⟩, ⟨bb⟩⟩
             ·rw [if_neg c21] at H
              have c21b0 : decide (0 < ((rd_T73 x1_2 x9_2).f0)) = false := decide_eq_false c21; clear c21; have H' := Aside0.mk H; clear H; have p279 : 0 ≤ (x9_2 : Int) := of_decide_eq_true as_; have q279 : x9_2 < (l0.length : Int) := of_decide_eq_true as_; obtain ⟨ad279, e279, hx279_0, hx279_1, hx279_2⟩ := at_T50 (Kd.C_kept_now HR0.out HK.out) x9_2 p279 q279; cases e279; replace p279 := eq_true p279; replace q279 := eq_true q279; have p280 : 0 ≤ (x9_2 : Int) := of_decide_eq_true as_; have q280 : x9_2 < (l0.length : Int) := of_decide_eq_true as_; obtain ⟨ad280, e280, hx280_0, hx280_1, hx280_2⟩ := at_T50 (Kd.C_kept_now HR0.out HK.out) x9_2 p280 q280
              obtain rfl : ad279 = ad280 := (by injection e280)
              replace p280 := eq_true p280; replace q280 := eq_true q280; have p281 : 0 ≤ (x9_2 : Int) := of_decide_eq_true as_; have q281 : x9_2 < (x1_2.length : Int) := of_decide_eq_true as_; obtain ⟨ad281, e281, hx281_0, hx281_1⟩ := at_T73 (R_reads' HO_1.out).2.2 x9_2 p281 q281
              obtain rfl : (⟨gh_, 0, none⟩ : Addr) = ad281 := (by injection e281)
              (try simp only [add_plain] at hx281_0 hx281_1)
              replace p281 := eq_true p281; replace q281 := eq_true q281; go_wp2; (try simp only [← hl1_2])
              go_roundg k2
              case measure => have := HK1.out; have := HK2.out; omega
              case rel => exact ⟨(x1_2), (wrap64 (x9_2 + 1)), sd_, H', ⟨by have := HK1.out; have := HK2.out; omega⟩, ⟨by (try simp only [hl1_1]); (try simp only [hl1_2]); (with_reducible repeat (first | apply R_alloc | apply R_drewN | apply R_drew)); exact HO_1.out⟩, ⟨by repeat (first | (with_reducible first | exact HK.out | apply Kept.alloc | apply Kept.drewN | apply Kept.drew) | exact HK.out)⟩, ⟨bb⟩⟩
            ·rw [if_neg c20] at H
             exact absurd H (by simp)
           ·rw [if_neg c19] at H
            have c19b0 : (((rd_T50 l0 x9_2).f2) == 0) = false := beq_eq_false_iff_ne.mpr c19; have c19b1 : (((rd_T50 l0 x9_2).f2) != 0) = true := bne_iff_ne.mpr c19; have H' := Aside0.mk H; clear H; have p279 : 0 ≤ (x9_2 : Int) := of_decide_eq_true as_; have q279 : x9_2 < (l0.length : Int) := of_decide_eq_true as_; obtain ⟨ad279, e279, hx279_0, hx279_1, hx279_2⟩ := at_T50 (Kd.C_kept_now HR0.out HK.out) x9_2 p279 q279; cases e279; replace p279 := eq_true p279; replace q279 := eq_true q279; have p280 : 0 ≤ (x9_2 : Int) := of_decide_eq_true as_; have q280 : x9_2 < (l0.length : Int) := of_decide_eq_true as_; obtain ⟨ad280, e280, hx280_0, hx280_1, hx280_2⟩ := at_T50 (Kd.C_kept_now HR0.out HK.out) x9_2 p280 q280
            obtain rfl : ad279 = ad280 := (by injection e280)
            replace p280 := eq_true p280; replace q280 := eq_true q280; go_wp2; (try simp only [← hl1_2])
            go_roundg k2
            case measure => have := HK1.out; have := HK2.out; omega
            case rel => exact ⟨(x1_2), (wrap64 (x9_2 + 1)), sd_, H', ⟨by have := HK1.out; have := HK2.out; omega⟩, ⟨by (try simp only [hl1_1]); (try simp only [hl1_2]); (with_reducible repeat (first | apply R_alloc | apply R_drewN | apply R_drew)); exact HO_1.out⟩, ⟨by repeat (first | (with_reducible first | exact HK.out | apply Kept.alloc | apply Kept.drewN | apply Kept.drew) | exact HK.out)⟩, ⟨bb⟩⟩
          ·rw [if_neg c18] at H
           have c18b0 : (((rd_T50 l0 x9_2).f0) == a2) = false := beq_eq_false_iff_ne.mpr c18; have c18b1 : (((rd_T50 l0 x9_2).f0) != a2) = true := bne_iff_ne.mpr c18; have H' := Aside0.mk H; clear H; have p279 : 0 ≤ (x9_2 : Int) := of_decide_eq_true as_; have q279 : x9_2 < (l0.length : Int) := of_decide_eq_true as_; obtain ⟨ad279, e279, hx279_0, hx279_1, hx279_2⟩ := at_T50 (Kd.C_kept_now HR0.out HK.out) x9_2 p279 q279; cases e279; replace p279 := eq_true p279; replace q279 := eq_true q279; go_wp2; (try simp only [← hl1_2])
           go_roundg k2
           case measure => have := HK1.out; have := HK2.out; omega
           case rel => exact ⟨(x1_2), (wrap64 (x9_2 + 1)), sd_, H', ⟨by have := HK1.out; have := HK2.out; omega⟩, ⟨by (try simp only [hl1_1]); (try simp only [hl1_2]); (with_reducible repeat (first | apply R_alloc | apply R_drewN | apply R_drew)); exact HO_1.out⟩, ⟨by repeat (first | (with_reducible first | exact HK.out | apply Kept.alloc | apply Kept.drewN | apply Kept.drew) | exact HK.out)⟩, ⟨bb⟩⟩
         ·rw [if_neg c17] at H
          exact absurd H (by simp)
        ·rw [if_neg c16] at H
         have c16b0 : decide (x9_2 < (l0.length : Int)) = false := decide_eq_false c16; (try (have c16h0 := c16b0; simp only [hl1_1, hl1_2] at c16h0)); clear c16; obtain rfl := Option.some.inj H; go_wp2
         first | go_end0 | ((try simp only [Exit.inBlock, Exit.then]); refine bodyPost_ret (results_none rfl _ _ _) rfl ?_)
         exact ⟨er, (by first | exact (ra HO_1.out) | (simp only [hl1_1, hl1_2]; exact (ra HO_1.out))), bb, by repeat (first | (with_reducible first | exact HK.out | apply Kept.alloc | apply Kept.drewN | apply Kept.drew) | exact HK.out)⟩
  ·rw [if_neg c5] at H
   exact absurd H (by simp)
 ·rw [if_neg c4] at H
  exact absurd H (by simp)

mutual
def spec_Allocate.j0 : Nat → List (S50) → List Int → Bool → Option ((List (S73)) × Bool)
 | 0, _, _, _ => none
 | k + 1, x0, x1, x17 => if x17 = true then (some ((([] : List (S73))), false)) else (spec_Allocate.l0 k x0 x1 (([] : List (S73))) 0)
def spec_Allocate.l0 : Nat → List (S50) → List Int → List (S73) → Int → Option ((List (S73)) × Bool)
 | 0, _, _, _, _ => none
 | k + 1, x0, x1, x6, x7 => if x7 < (x0.length : Int) then ((spec_l24Window.f k x0 x1 x7).bind fun t291 => (if x6.length < 8796093022208 then (spec_Allocate.l0 k x0 x1 (x6 ++ [(⟨t291, 0⟩ : S73)]) (wrap64 (x7 + 1))) else (none))) else ((spec_l24Place.f k x0 x6 0).bind fun t295 => (some (t295, true)))
end
def spec_Allocate.f (k : Nat) (l0 : List (S50)) (l1 : List Int) : Option ((List (S73)) × Bool) := (spec_SizesOk.f k l0 l1).bind fun t283 => (if t283 = true then ((spec_l24Window.f k l0 l1 0).bind fun t284 => (spec_Allocate.j0 k l0 l1 (decide (t284 > 65536)))) else (spec_Allocate.j0 k l0 l1 true))
set_option maxHeartbeats 8000000 in
set_option maxRecDepth 100000 in
theorem spec_Allocate.calls (k : Nat) (A0 : Option Addr) (c0 : Nat) (l0 : List (S50)) (A1 : Option Addr) (c1 : Nat) (l1 : List Int) (r1 : List (S73)) (r2 : Bool) (w : World) (hr0 : Kd.C k50 w A0 l0.length l0) (hc0 : l0.length ≤ c0) (hr1 : Kd.C (Kd.int .i64) w A1 l1.length l1) (hc1 : l1.length ≤ c1) (h : spec_Allocate.f k l0 l1 = some (r1, r2)) :
  Calls Try.prog 54 #[.slice A0 l0.length c0, .slice A1 l1.length c1] w fun e w' => ∃ v0_ : Value, e = .returned (.tuple #[v0_, .bool r2]) ∧ Kd.R k73 73 w' w.heap.size (fun _ => True) v0_ r1 ∧ Below w.heap.size w w' := by
 have hu73 := Try.underlying73; have HR0 := Aside0.mk hr0; have HC0 := Aside0.mk hc0; clear hr0 hc0; have HR1 := Aside0.mk hr1; have HC1 := Aside0.mk hc1; clear hr1 hc1; have HB := Aside0.mk (Below.refl w.heap.size w); have H : ((spec_SizesOk.f k l0 l1).bind fun t283 => (if t283 = true then ((spec_l24Window.f k l0 l1 0).bind fun t284 => (spec_Allocate.j0 k l0 l1 (decide (t284 > 65536)))) else (spec_Allocate.j0 k l0 l1 true))) = some (r1, r2) := h; clear h; have HC3 := Aside0.mk H; clear H; go_enter Try.func54, Try.ntmps54
 go_upto_region 1 with (fail)
 go_cut [17] (fun v17 wc => ∃ (kq : Nat) (x17_2 : Bool), v17 = .bool x17_2 ∧ Aside0 (spec_Allocate.j0 kq l0 l1 x17_2 = some (r1, r2)) ∧ Aside0 (kq ≤ k) ∧ Aside0 (Below w.heap.size w wc))
 case first =>
  have H := HC3.out; clear HC3; replace H := Option.bind_eq_some_iff.mp H; obtain ⟨t283, A40, H⟩ := H; replace H : (if t283 = true then ((spec_l24Window.f k l0 l1 0).bind fun t284 => (spec_Allocate.j0 k l0 l1 (decide (t284 > 65536)))) else (spec_Allocate.j0 k l0 l1 true)) = some (r1, r2) := H; have A4 := Aside0.mk A40; clear A40
  by_cases c5 : t283 = true
  ·subst c5
   (have H1 : ((spec_l24Window.f k l0 l1 0).bind fun t284 => (spec_Allocate.j0 k l0 l1 (decide (t284 > 65536)))) = some (r1, r2) := by rw [if_pos rfl] at H; exact H); clear H; have H := H1; clear H1; replace H := Option.bind_eq_some_iff.mp H; obtain ⟨t284, A60, H⟩ := H; replace H : (spec_Allocate.j0 k l0 l1 (decide (t284 > 65536))) = some (r1, r2) := H; have A6 := Aside0.mk A60; clear A60; have H' := Aside0.mk H; clear H; go_wp2_with (first | ((with_reducible refine gate_callee (f := 102) rfl ?_); refine goesL_ (some 10) rfl rfl Try.func102 (by kernel_rfl) rfl #[.slice A0 l0.length c0, .slice A1 l1.length c1] rfl ms ?_; (with_reducible refine (spec_SizesOk.calls k _ _ l0 _ _ l1 true _ ?side1 ?side2 ?side3 ?side4 A4.out).mono ?_); (case side1 => exact kc); (case side2 => exact HC0.out); (case side3 => exact kc); (case side4 => exact HC1.out); rintro e w7 ⟨rfl, hb⟩; refine ⟨_, rfl, ?_⟩; replace HB := Aside0.mk (below_step bb hb); (try clear hb)) | (go_at_call 104; (with_reducible refine (spec_l24Window.calls k _ _ l0 _ _ l1 0 t284 _ ?side1 ?side2 ?side3 ?side4 A6.out).mono ?_); (case side1 => exact kc); (case side2 => exact HC0.out); (case side3 => exact kc); (case side4 => exact HC1.out); rintro e w8 ⟨rfl, hb⟩; replace HB := Aside0.mk (below_step bb hb); (try clear hb)))
   go_meet
   case rel => exact ⟨_, (decide (t284 > 65536)), sd_, H', ⟨by first | omega | exact Nat.le_refl _⟩, ⟨bb⟩⟩
  ·replace c5 := Bool.eq_false_iff.mpr c5
   subst c5; (have H1 : (spec_Allocate.j0 k l0 l1 true) = some (r1, r2) := by rw [if_neg (show ¬ (false = true) by decide)] at H; exact H); clear H; have H := H1; clear H1; have H' := Aside0.mk H; clear H; go_wp2_with (first | ((with_reducible refine gate_callee (f := 102) rfl ?_); refine goesL_ (some 10) rfl rfl Try.func102 (by kernel_rfl) rfl #[.slice A0 l0.length c0, .slice A1 l1.length c1] rfl ms ?_; (with_reducible refine (spec_SizesOk.calls k _ _ l0 _ _ l1 false _ ?side1 ?side2 ?side3 ?side4 A4.out).mono ?_); (case side1 => exact kc); (case side2 => exact HC0.out); (case side3 => exact kc); (case side4 => exact HC1.out); rintro e w9 ⟨rfl, hb⟩; refine ⟨_, rfl, ?_⟩; replace HB := Aside0.mk (below_step bb hb); (try clear hb)))
   go_meet
   case rel => exact ⟨_, (true), sd_, H', ⟨by first | omega | exact Nat.le_refl _⟩, ⟨bb⟩⟩
 case rest =>
  clear HC3; (try clear c1); (try clear p2); (try clear c5); obtain ⟨kq, x17_2, rfl, HA, HJ2, HB⟩ := hcut
  cases kq with
  | zero => exact absurd HA.out (by simp [spec_Allocate.j0])
  | succ kj2 =>
   have H := HA.out; clear HA; simp only [spec_Allocate.j0] at H
   by_cases c10 : x17_2 = true
   ·subst c10
    (have H1 : (some ((([] : List (S73))), false)) = some (r1, r2) := by rw [if_pos rfl] at H; exact H); clear H; have H := H1; clear H1
    obtain ⟨y285, hy285⟩ : ∃ y_ : List (S73), y_ = (([] : List (S73))) := ⟨_, rfl⟩
    (replace H : (some (y285, false)) = some (r1, r2) := by first | (rw [hy285]; with_reducible exact H) | (have H2_ := bs_ H; rw [hy285]; with_reducible exact H2_) | (have H2_ := bs_ H; with_reducible exact H2_) | with_reducible exact H | (rw [hy285]; exact H) | exact H); have Ny285 := Aside0.mk hy285; clear hy285; simp only [Option.some.injEq, Prod.mk.injEq] at H; obtain ⟨rfl, rfl⟩ := H; go_wp2_with (first | ((with_reducible refine gate_dst (N := 18) rfl ?_); refine Kd.R_lit k73 _ 73 ?hg (N := 18) ?hd (xs := ([] : List (S73))) (inner := []) (ok := fun _ => True) (okp := fun _ => True) ?hr ?hp (fun _ hk => hk) trivial (Below.refl _ _) (Nat.le_refl _) (by simp) ?_; (case hd => rfl); (case hg => rfl); (case hr => exact hr_); (case hp => exact (Reps.none _ _)); intro v286 w11 ho12 hb hg_ hnew_; clear hg_ hnew_; (first | rw [← Ny285.out] at ho12 | (simp only [Int.reduceToNat] at ho12; rw [← Ny285.out] at ho12)); have t_ := fc2 (R_lower ho12 (below_size bb)) (below_step bb hb); clear HB; obtain ⟨HO287, HB⟩ := t_; clear hb ho12)); go_ret2; exact ⟨_, er, (ra HO287.out), bb⟩
   ·replace c10 := Bool.eq_false_iff.mpr c10
    subst c10; (have H1 : (spec_Allocate.l0 kj2 l0 l1 (([] : List (S73))) 0) = some (r1, r2) := by rw [if_neg (show ¬ (false = true) by decide)] at H; exact H); clear H; have H := H1; clear H1
    obtain ⟨y288, hy288⟩ : ∃ y_ : List (S73), y_ = (([] : List (S73))) := ⟨_, rfl⟩
    (replace H : (spec_Allocate.l0 kj2 l0 l1 y288 0) = some (r1, r2) := by first | (rw [hy288]; with_reducible exact H) | (have H2_ := bs_ H; rw [hy288]; with_reducible exact H2_) | (have H2_ := bs_ H; with_reducible exact H2_) | with_reducible exact H | (rw [hy288]; exact H) | exact H); have Ny288 := Aside0.mk hy288; clear hy288; have H' := Aside0.mk H; clear H; go_wp2_with (first | ((with_reducible refine gate_dst (N := 19) rfl ?_); refine Kd.R_lit k73 _ 73 ?hg (N := 19) ?hd (xs := ([] : List (S73))) (inner := []) (ok := fun _ => True) (okp := fun _ => True) ?hr ?hp (fun _ hk => hk) trivial (Below.refl _ _) (Nat.le_refl _) (by simp) ?_; (case hd => rfl); (case hg => rfl); (case hr => exact hr_); (case hp => exact (Reps.none _ _)); intro v289 w13 ho14 hb hg_ hnew_; clear hg_ hnew_; (first | rw [← Ny288.out] at ho14 | (simp only [Int.reduceToNat] at ho14; rw [← Ny288.out] at ho14)); have t_ := fc2 (R_lower ho14 (below_size bb)) (below_step bb hb); clear HB; obtain ⟨HO290, HB⟩ := t_; clear hb ho14))
    go_loopg [6, 7] kj2 (fun kq v6 v7 w' => ∃ (x6_2 : List (S73)) (x7_2 : Int), v7 = .int .i64 x7_2 ∧ Aside0 (spec_Allocate.l0 kq l0 l1 x6_2 x7_2 = some (r1, r2)) ∧ Aside0 (kq ≤ kj2) ∧ Aside0 (Kd.R k73 73 w' w.heap.size (fun _ => True) v6 x6_2) ∧ Aside0 (Below w.heap.size w w'))
    case atStart => exact ⟨(y288), (0), sd_, H', ⟨Nat.le_refl _⟩, ⟨(ra HO290.out)⟩, ⟨bb⟩⟩
    case round =>
     clear H'; (try clear c1); (try clear p2); (try clear c5); (try clear c10); (try clear p2); obtain ⟨x6_2, x7_2, rfl, HA, HK2, HO_6, HB⟩ := hrel
     cases gk with
     | zero => exact absurd HA.out (by simp [spec_Allocate.l0])
     | succ k2 =>
      have H := HA.out; clear HA; simp only [spec_Allocate.l0] at H
      by_cases c15 : x7_2 < (l0.length : Int)
      ·rw [if_pos c15] at H
       have c15b0 : decide (x7_2 < (l0.length : Int)) = true := decide_eq_true c15; clear c15; replace H := Option.bind_eq_some_iff.mp H; obtain ⟨t291, A160, H⟩ := H; replace H : (if x6_2.length < 8796093022208 then (spec_Allocate.l0 k2 l0 l1 (x6_2 ++ [(⟨t291, 0⟩ : S73)]) (wrap64 (x7_2 + 1))) else (none)) = some (r1, r2) := H; have A16 := Aside0.mk A160; clear A160
       by_cases c17 : x6_2.length < 8796093022208
       ·rw [if_pos c17] at H
        have LMc17 := Aside0.mk c17; clear c17
        obtain ⟨y292, hy292⟩ : ∃ y_ : List (S73), y_ = (x6_2 ++ [(⟨t291, 0⟩ : S73)]) := ⟨_, rfl⟩
        (replace H : (spec_Allocate.l0 k2 l0 l1 y292 (wrap64 (x7_2 + 1))) = some (r1, r2) := by first | (rw [hy292]; with_reducible exact H) | (have H2_ := bs_ H; rw [hy292]; with_reducible exact H2_) | (have H2_ := bs_ H; with_reducible exact H2_) | with_reducible exact H | (rw [hy292]; exact H) | exact H); have Ny292 := Aside0.mk hy292; clear hy292; have H' := Aside0.mk H; clear H; go_wp2_with (first | ((with_reducible refine gate_callee (f := 104) rfl ?_); refine goesL_ (some 30) rfl rfl Try.func104 (by kernel_rfl) rfl #[.slice A0 l0.length c0, .slice A1 l1.length c1, .int .i64 x7_2] rfl ms ?_; (with_reducible refine (spec_l24Window.calls k2 _ _ l0 _ _ l1 x7_2 t291 _ ?side1 ?side2 ?side3 ?side4 A16.out).mono ?_); (case side1 => exact kc); (case side2 => exact HC0.out); (case side3 => exact kc); (case side4 => exact HC1.out); rintro e w18 ⟨rfl, hb⟩; refine ⟨_, rfl, ?_⟩; have t_ := fc2 (R_below (ra HO_6.out) hb) (below_step bb hb); clear HO_6 HB; obtain ⟨HO_6, HB⟩ := t_; (try clear hb)) | ((with_reducible refine gate_builtin (b := .append) (xs := #[.tmp 26, .tmp 32]) rfl ?_); at_builtin; refine R_append k73 (w0 := w) w.heap.size rfl (.tmp 26) (.tmp 32) 67 73 (.agg #[(.int .i64 0), (.int .i64 0)]) 16 rfl Try.underlying67 info73 rfl (by decide) (by omega) u6 x6_2 (⟨t291, 0⟩ : S73) [.int .i64 t291, .int .i64 0] (fun _ => True) (fun _ => False) rfl rfl ?aP (fun _ hk => hk.elim) ?aF ?aO ?aB ?aS ?aL ?_; (case aP => exact k73_mkM _ _ _ (⟨t291, 0⟩ : S73)); (case aB => exact bb); (case aF => exact (fun _ _ => trivial)); (case aO => exact (ra HO_6.out)); (case aS => exact (below_size bb)); (case aL => have := LMc17.out; omega); intro v293 w19 ho hb hg hat; rw [← Ny292.out] at ho; have t_ := fc2 (hb) (ho); clear HB HO_6; obtain ⟨HB, HO294⟩ := t_; clear ho hb hg hat))
        go_roundg k2
        case measure => have := HJ2.out; have := HK2.out; omega
        case rel => exact ⟨(y292), (wrap64 (x7_2 + 1)), sd_, H', ⟨by have := HJ2.out; have := HK2.out; omega⟩, ⟨(ra HO294.out)⟩, ⟨bb⟩⟩
       ·rw [if_neg c17] at H
        exact absurd H (by simp)
      ·rw [if_neg c15] at H
       have c15b0 : decide (x7_2 < (l0.length : Int)) = false := decide_eq_false c15; clear c15; replace H := Option.bind_eq_some_iff.mp H; obtain ⟨t295, A200, H⟩ := H; replace H : (some (t295, true)) = some (r1, r2) := H; have A20 := Aside0.mk A200; clear A200; simp only [Option.some.injEq, Prod.mk.injEq] at H; obtain ⟨rfl, rfl⟩ := H; obtain ⟨Ao21, co21, eo21⟩ := R_slice HO_6.out; subst eo21; go_wp2_with (first | ((with_reducible refine gate_callee (f := 109) rfl ?_); refine goesL_ (some 36) rfl rfl Try.func109 (by kernel_rfl) rfl #[.slice A0 l0.length c0, .slice Ao21 x6_2.length co21, .int .i64 0] rfl ms ?_; (with_reducible refine (spec_l24Place.calls k2 _ _ l0 (fun k_ => some k_ = (.slice Ao21 x6_2.length co21 : Value).ownBlock) (.slice Ao21 x6_2.length co21) x6_2 0 t295 w _ ?side1 ?side2 ?side3 ?side4 A20.out).mono ?_); (case side1 => exact bb); (case side2 => exact Kd.C_kept_came k50_heap HR0.out bb (fun k_ hs_ => (fun e_ => R_base HO_6.out k_ e_.symm) hs_)); (case side3 => exact HC0.out); (case side4 => exact Kd.R_tight rfl HO_6.out); rintro e w22 ⟨rfl, hy0, hb, hkp⟩; refine ⟨_, rfl, ?_⟩; have t_ := fc2 (Kd.R_reok rfl hy0 (fun k_ e_ => HO_6.out.1 k_ e_)) (hb); clear HO_6 HB; obtain ⟨HO_6, HB⟩ := t_; (try clear hb); (try clear hkp); (try clear hy0))); go_ret2; exact ⟨_, er, (ra HO_6.out), bb⟩

def cmp_Or_int.l0 : Nat → Int → List Int → Int → Int → Option (Int)
 | 0, _, _, _, _ => none
 | k + 1, x3, x6, x7, x8 => if x8 < x7 then (if 0 ≤ x8 then (if x8 < (x6.length : Int) then (if (rd x6 x8) = x3 then (cmp_Or_int.l0 k x3 x6 x7 (wrap64 (x8 + 1))) else (some (rd x6 x8))) else (none)) else (none)) else (some x3)
def cmp_Or_int.f (k : Nat) (l0 : List Int) : Option (Int) := cmp_Or_int.l0 k 0 l0 (l0.length : Int) 0
set_option maxHeartbeats 8000000 in
set_option maxRecDepth 100000 in
theorem cmp_Or_int.calls (k : Nat) (A0 : Option Addr) (c0 : Nat) (l0 : List Int) (r : Int) (w : World) (hr0 : Kd.C (Kd.int .i64) w A0 l0.length l0) (hc0 : l0.length ≤ c0) (h : cmp_Or_int.f k l0 = some r) :
  Calls Try.prog 132 #[.slice A0 l0.length c0] w fun e w' => e = .returned (.int .i64 r) ∧ Drawn0 w w' := by
 have HR0 := Aside0.mk hr0; have HC0 := Aside0.mk hc0; clear hr0 hc0; have H : (cmp_Or_int.l0 k 0 l0 (l0.length : Int) 0) = some r := h; clear h; have H' := Aside0.mk H; clear H; go_enter Try.func132, Try.ntmps132; go_wp2
 go_loopg [8] k (fun kq v8 w' => ∃ (x8_1 : Int), v8 = .int .i64 x8_1 ∧ Aside0 (cmp_Or_int.l0 kq 0 l0 (l0.length : Int) x8_1 = some r) ∧ Aside0 (kq ≤ k) ∧ Drawn0 w w')
 case atStart => exact ⟨(0), sd_, H', ⟨Nat.le_refl _⟩, by repeat (first | exact Drawn0.refl _ | apply Drawn0.step)⟩
 case round =>
  clear H'; (try clear c1); obtain ⟨x8_1, rfl, HA, HK1, ⟨m1, rfl⟩⟩ := hrel
  cases gk with
  | zero => exact absurd HA.out (by simp [cmp_Or_int.l0])
  | succ k1 =>
   have H := HA.out; clear HA; simp only [cmp_Or_int.l0] at H
   by_cases c2 : x8_1 < (l0.length : Int)
   ·rw [if_pos c2] at H
    have c2b0 : decide (x8_1 < (l0.length : Int)) = true := decide_eq_true c2; clear c2
    by_cases c3 : 0 ≤ x8_1
    ·rw [if_pos c3] at H
     have c3b0 : decide (0 ≤ x8_1) = true := decide_eq_true c3; clear c3
     by_cases c4 : x8_1 < (l0.length : Int)
     ·rw [if_pos c4] at H
      have c4b0 : decide (x8_1 < (l0.length : Int)) = true := decide_eq_true c4; clear c4
      by_cases c5 : (rd l0 x8_1) = 0
      ·rw [if_pos c5] at H
       have c5b0 : ((rd l0 x8_1) == 0) = true := beq_iff_eq.mpr c5; have c5b1 : ((rd l0 x8_1) != 0) = false := bne_eq_false_iff_eq.mpr c5; clear c5; have H' := Aside0.mk H; clear H; have p296 : 0 ≤ (x8_1 : Int) := of_decide_eq_true as_; have q296 : x8_1 < (l0.length : Int) := of_decide_eq_true as_; obtain ⟨ad296, e296, hx296_0⟩ := Kd.at_int HR0.out x8_1 p296 q296; cases e296; replace p296 := eq_true p296; replace q296 := eq_true q296; go_wp2
       go_roundg k1
       case measure => have := HK1.out; omega
       case rel => exact ⟨(wrap64 (x8_1 + 1)), sd_, H', ⟨by have := HK1.out; omega⟩, by repeat (first | exact Drawn0.refl _ | apply Drawn0.step)⟩
      ·rw [if_neg c5] at H
       have c5b0 : ((rd l0 x8_1) == 0) = false := beq_eq_false_iff_ne.mpr c5; have c5b1 : ((rd l0 x8_1) != 0) = true := bne_iff_ne.mpr c5; obtain rfl := Option.some.inj H; have p296 : 0 ≤ (x8_1 : Int) := of_decide_eq_true as_; have q296 : x8_1 < (l0.length : Int) := of_decide_eq_true as_; obtain ⟨ad296, e296, hx296_0⟩ := Kd.at_int HR0.out x8_1 p296 q296; cases e296; replace p296 := eq_true p296; replace q296 := eq_true q296; go_wp2; go_ret; exact ⟨sd_, ds_⟩
     ·rw [if_neg c4] at H
      exact absurd H (by simp)
    ·rw [if_neg c3] at H
     exact absurd H (by simp)
   ·rw [if_neg c2] at H
    have c2b0 : decide (x8_1 < (l0.length : Int)) = false := decide_eq_false c2; clear c2; obtain rfl := Option.some.inj H; go_wp2; go_ret; exact ⟨sd_, ds_⟩
def impl_allocate_1.f (k : Nat) (a0 : Int) (a1 : Int) (l2_0 : List (S73)) : Option (Int) := if 0 ≤ a1 then (if a1 < (l2_0.length : Int) then (if 0 ≤ a0 then (if a0 < (l2_0.length : Int) then ((cmp_Compare_int.f ((rd_T73 l2_0 a1).f0) ((rd_T73 l2_0 a0).f0)).bind fun t299 => ((cmp_Compare_int.f a0 a1).bind fun t300 => ((cmp_Or_int.f k (([t299, t300] : List Int))).bind fun t304 => (some t304)))) else (none)) else (none)) else (none)) else (none)
def impl_allocate_1.T1 : Bool × List (List Nat × List Nat) := (true, [([], []), ([], []), ([0, 1], [0, 1]), ([2], [2]), ([3], [3]), ([], []), ([], []), ([5, 6], [5, 6]), ([7], [7]), ([8], [8]), ([4, 9], [4, 9]), ([], []), ([], []), ([11, 12, 10], [11, 12]), ([10, 13], [10, 13]), ([14, 13], [14]), ([15, 15, 0, 1, 2, 3, 4, 5, 6, 7, 8, 9, 10, 11, 12, 13, 14, 15], [15])])
def impl_allocate_1.B1 : List Nat := [0, 0, 3, 7, 15, 0, 0, 96, 224, 480, 1023, 0, 0, 8191, 16383, 32767, 65535]
theorem impl_allocate_1.tab1 : rtab .any (opsOf Try.f131 1) = impl_allocate_1.T1 := by kernel_rfl
theorem impl_allocate_1.bits1 : waitsOk impl_allocate_1.T1.2 impl_allocate_1.B1 = true := by kernel_rfl
set_option maxHeartbeats 8000000 in
set_option maxRecDepth 100000 in
theorem impl_allocate_1.calls (k : Nat) (a0 : Int) (a1 : Int) (gc2 : Nat) (A2_0 : Option Addr) (c2_0 : Nat) (l2_0 : List (S73)) (r : Int) (w : World) (hr2_0 : Kd.C k73 w A2_0 l2_0.length l2_0) (hc2_0 : l2_0.length ≤ c2_0) (hbx2 : w.heap[gc2]? = some (.cells #[.slice A2_0 l2_0.length c2_0] 67 (0, 0))) (h : impl_allocate_1.f k a0 a1 l2_0 = some r) :
  Calls Try.prog 131 #[.int .i64 a0, .int .i64 a1, .pointer (some ⟨gc2, 0, none⟩)] w fun e w' => e = .returned (.int .i64 r) ∧ Below w.heap.size w w' := by
 have HR2_0 := Aside0.mk hr2_0; have HC2_0 := Aside0.mk hc2_0; clear hr2_0 hc2_0; have BK2 := Aside0.mk hbx2; clear hbx2; have HB := Aside0.mk (Below.refl w.heap.size w); have H : (if 0 ≤ a1 then (if a1 < (l2_0.length : Int) then (if 0 ≤ a0 then (if a0 < (l2_0.length : Int) then ((cmp_Compare_int.f ((rd_T73 l2_0 a1).f0) ((rd_T73 l2_0 a0).f0)).bind fun t299 => ((cmp_Compare_int.f a0 a1).bind fun t300 => ((cmp_Or_int.f k (([t299, t300] : List Int))).bind fun t304 => (some t304)))) else (none)) else (none)) else (none)) else (none)) = some r := h; clear h
 by_cases c4 : 0 ≤ a1
 ·rw [if_pos c4] at H
  have c4b0 : decide (0 ≤ a1) = true := decide_eq_true c4; clear c4
  by_cases c5 : a1 < (l2_0.length : Int)
  ·rw [if_pos c5] at H
   have c5b0 : decide (a1 < (l2_0.length : Int)) = true := decide_eq_true c5; clear c5
   by_cases c6 : 0 ≤ a0
   ·rw [if_pos c6] at H
    have c6b0 : decide (0 ≤ a0) = true := decide_eq_true c6; clear c6
    by_cases c7 : a0 < (l2_0.length : Int)
    ·rw [if_pos c7] at H
     have c7b0 : decide (a0 < (l2_0.length : Int)) = true := decide_eq_true c7; clear c7; replace H := Option.bind_eq_some_iff.mp H; obtain ⟨t299, A80, H⟩ := H; replace H : ((cmp_Compare_int.f a0 a1).bind fun t300 => ((cmp_Or_int.f k (([t299, t300] : List Int))).bind fun t304 => (some t304))) = some r := H; have A8 := Aside0.mk A80; clear A80; replace H := Option.bind_eq_some_iff.mp H; obtain ⟨t300, A90, H⟩ := H; replace H : ((cmp_Or_int.f k (([t299, t300] : List Int))).bind fun t304 => (some t304)) = some r := H; have A9 := Aside0.mk A90; clear A90
     obtain ⟨y301, hy301⟩ : ∃ y_ : List Int, y_ = (([t299, t300] : List Int)) := ⟨_, rfl⟩
     (replace H : ((cmp_Or_int.f k y301).bind fun t304 => (some t304)) = some r := by first | (rw [hy301]; with_reducible exact H) | (have H2_ := bs_ H; rw [hy301]; with_reducible exact H2_) | (have H2_ := bs_ H; with_reducible exact H2_) | with_reducible exact H | (rw [hy301]; exact H) | exact H); have Ny301 := Aside0.mk hy301; clear hy301; replace H := Option.bind_eq_some_iff.mp H; obtain ⟨t304, A100, H⟩ := H; replace H : (some t304) = some r := H; have A10 := Aside0.mk A100; clear A100; obtain rfl := Option.some.inj H; go_enter Try.func131, Try.ntmps131; (try go_wp2); have t_ := fc2 (blk_drew BK2.out) (below_drew1 HB.out); clear BK2 HB; obtain ⟨BK2, HB⟩ := t_; have p297 : 0 ≤ (a1 : Int) := of_decide_eq_true as_; have q297 : a1 < (l2_0.length : Int) := of_decide_eq_true as_; obtain ⟨ad297, e297, hx297_0, hx297_1⟩ := at_T73 HR2_0.out a1 p297 q297; have hw297_1 := hx297_1; have hw297_0 := hx297_0; cases e297; replace hx297_0 := pw_cell_below HB.out hx297_0; replace hx297_1 := pw_cell_below HB.out hx297_1; replace p297 := eq_true p297; replace q297 := eq_true q297; have p298 : 0 ≤ (a0 : Int) := of_decide_eq_true as_; have q298 : a0 < (l2_0.length : Int) := of_decide_eq_true as_; obtain ⟨ad298, e298, hx298_0, hx298_1⟩ := at_T73 HR2_0.out a0 p298 q298; have hw298_1 := hx298_1; have hw298_0 := hx298_0
     obtain rfl : ad297 = ad298 := (by injection e298)
     replace hx298_0 := pw_cell_below HB.out hx298_0; replace hx298_1 := pw_cell_below HB.out hx298_1; replace p298 := eq_true p298; replace q298 := eq_true q298; refine start_ (n := 17) (S := fun w' => w'.cell? ⟨gc2, 0, none⟩ = some (.slice (some ad297) l2_0.length c2_0) ∧ w'.cell? (ad297.add ((a1).toNat * 2)) = some (.int .i64 ((rd_T73 l2_0 a1).f0)) ∧ w'.cell? ⟨(ad297.add ((a1).toNat * 2)).block, (ad297.add ((a1).toNat * 2)).off + 1, none⟩ = some (.int .i64 ((rd_T73 l2_0 a1).f1)) ∧ w'.cell? (ad297.add ((a0).toNat * 2)) = some (.int .i64 ((rd_T73 l2_0 a0).f0)) ∧ w'.cell? ⟨(ad297.add ((a0).toNat * 2)).block, (ad297.add ((a0).toNat * 2)).off + 1, none⟩ = some (.int .i64 ((rd_T73 l2_0 a0).f1))) (ds := []) (bz 17 0) (by kernel_rfl) rfl (by kernel_rfl) ⟨(blk_cell BK2.out 0).trans rfl, ((HB.out.cell (World.block_lt_of_cell? w _ hw297_0)).trans hw297_0), ((HB.out.cell (World.block_lt_of_cell? w _ hw297_1)).trans hw297_1), ((HB.out.cell (World.block_lt_of_cell? w _ hw298_0)).trans hw298_0), ((HB.out.cell (World.block_lt_of_cell? w _ hw298_1)).trans hw298_1)⟩ (fun hHeld => ?_); refine with_tabW impl_allocate_1.tab1 impl_allocate_1.bits1 (fun HT_ HW_ => ?_); generalize w.drew = w11 at BK2 HB hx297_0 hx297_1 hx298_0 hx298_1 hHeld ⊢; refine pv 1 7 (bz 17 2) HT_ (h := ?_); refine pv 6 12 (bz 17 66) HT_ (h := ?_); refine pv 11 17 (bz 17 2114) HT_ (h := ?_); refine pv 12 18 (bz 17 6210) HT_ (h := ?_); refine tv5 0 6 (bz 17 6211) HT_ HW_ hHeld (h := ?_); refine pv 2 8 (bz 17 6215) HT_ (h := ?_); refine pv 3 9 (bz 17 6223) HT_ (h := ?_); refine tv5 4 10 (bz 17 6239) HT_ HW_ hHeld (h := ?_); refine tv5 5 11 (bz 17 6271) HT_ HW_ hHeld (h := ?_); refine pv 7 13 (bz 17 6399) HT_ (h := ?_); refine pv 8 14 (bz 17 6655) HT_ (h := ?_); refine tv5 9 15 (bz 17 7167) HT_ HW_ hHeld (h := ?_); refine one_ (i := 10) (N := some 16) (bz 17 8191) rfl rfl (one_of HT_.out (by kernel_rfl)) (by decide) (fun K hK => ?_); refine goes_ Try.func93 (by kernel_rfl) rfl #[.int .i64 ((rd_T73 l2_0 a1).f0), .int .i64 ((rd_T73 l2_0 a0).f0)] (by rfl) rfl rfl ms ?_; (with_reducible refine (cmp_Compare_int.calls ((rd_T73 l2_0 a1).f0) ((rd_T73 l2_0 a0).f0) t299 _ A8.out).mono ?_); rintro e w' ⟨rfl, ⟨nd, rfl⟩⟩; refine ⟨_, rfl, ?_⟩; refine hK.out _ _ ⟨(blk_cell BK2.out 0).trans rfl, ((HB.out.cell (World.block_lt_of_cell? w _ hw297_0)).trans hw297_0), ((HB.out.cell (World.block_lt_of_cell? w _ hw297_1)).trans hw297_1), ((HB.out.cell (World.block_lt_of_cell? w _ hw298_0)).trans hw298_0), ((HB.out.cell (World.block_lt_of_cell? w _ hw298_1)).trans hw298_1)⟩ (fun hHeld => ?_); clear hK K; refine norm_ (a' := ?_) ?_ ?_; rotate_left
     ·show Act.put _ (some 16) _ = _
      simp only [Act.put, List.setIfInBounds_toArray, List.set_cons_zero, List.set_cons_succ, i64_w, i32_w]; rfl
     refine one_ (i := 13) (N := some 19) (bz 17 16383) rfl rfl (one_of HT_.out (by kernel_rfl)) (by decide) (fun K hK => ?_); refine goes_ Try.func93 (by kernel_rfl) rfl #[.int .i64 a0, .int .i64 a1] (by rfl) rfl rfl ms ?_; (with_reducible refine (cmp_Compare_int.calls a0 a1 t300 _ A9.out).mono ?_); rintro e w' ⟨rfl, ⟨nd, rfl⟩⟩; refine ⟨_, rfl, ?_⟩; refine hK.out _ _ ⟨(blk_cell BK2.out 0).trans rfl, ((HB.out.cell (World.block_lt_of_cell? w _ hw297_0)).trans hw297_0), ((HB.out.cell (World.block_lt_of_cell? w _ hw297_1)).trans hw297_1), ((HB.out.cell (World.block_lt_of_cell? w _ hw298_0)).trans hw298_0), ((HB.out.cell (World.block_lt_of_cell? w _ hw298_1)).trans hw298_1)⟩ (fun hHeld => ?_); clear hK K; refine norm_ (a' := ?_) ?_ ?_; rotate_left
     ·show Act.put _ (some 19) _ = _
      simp only [Act.put, List.setIfInBounds_toArray, List.set_cons_zero, List.set_cons_succ, i64_w, i32_w]; rfl
     refine one_ (i := 14) (N := some 20) (bz 17 32767) rfl rfl (one_of HT_.out (by kernel_rfl)) (by decide) (fun K hK => ?_); refine Kd.R_lit_step (Kd.int .i64) _ 3 ?hg (N := 20) ?hd (xs := ([t299, t300] : List Int)) (inner := [.int .i64 t299, .int .i64 t300]) (ok := fun _ => True) (okp := fun _ => True) ?hr ?hp (fun _ hk => hk) trivial (Below.refl _ _) (Nat.le_refl _) (by simp) ?_; (case hd => rfl); (case hg => rfl); (case hr => exact hr_); (case hp => exact (Reps.one (show Kd.M (Kd.int .i64) _ _ _ t299 [.int .i64 t299] from rfl) (Reps.one (show Kd.M (Kd.int .i64) _ _ _ t300 [.int .i64 t300] from rfl) (Reps.none _ _)))); intro v302 w12 ho13 hb hg_ hnew_; clear hg_ hnew_; (first | rw [← Ny301.out] at ho13 | (simp only [Int.reduceToNat] at ho13; rw [← Ny301.out] at ho13)); have t_ := fc3 (R_lower ho13 (below_size bb)) (bw BK2 hb) (below_step bb hb); clear BK2 HB; obtain ⟨HO303, BK2, HB⟩ := t_; clear hb ho13; obtain ⟨Ao14, co14, eo14⟩ := R_slice HO303.out; (first | subst eo14 | (injection eo14 with f1_ f2_ f3_; have f4_ := f1_.symm; have f5_ := f3_.symm; clear f1_ f2_ f3_; subst f4_; subst f5_)); refine hK.out _ _ ⟨(blk_cell BK2.out 0).trans rfl, ((HB.out.cell (World.block_lt_of_cell? w _ hw297_0)).trans hw297_0), ((HB.out.cell (World.block_lt_of_cell? w _ hw297_1)).trans hw297_1), ((HB.out.cell (World.block_lt_of_cell? w _ hw298_0)).trans hw298_0), ((HB.out.cell (World.block_lt_of_cell? w _ hw298_1)).trans hw298_1)⟩ (fun hHeld => ?_); clear hK K; refine norm_ (a' := ?_) ?_ ?_; rotate_left
     ·show Act.put _ (some 20) _ = _
      simp only [Act.put, List.setIfInBounds_toArray, List.set_cons_zero, List.set_cons_succ, i64_w, i32_w]; rfl
     refine one_ (i := 15) (N := some 21) (bz 17 65535) rfl rfl (one_of HT_.out (by kernel_rfl)) (by decide) (fun K hK => ?_); refine goes_ Try.func132 (by kernel_rfl) rfl #[.slice Ao14 y301.length co14] (by rfl) rfl rfl ms ?_; (with_reducible refine (cmp_Or_int.calls k _ _ y301 t304 _ ?side1 ?side2 A10.out).mono ?_)
     (case side1 => exact rc HO303)
     (case side2 => exact (R_reads' HO303.out).2.1)
     rintro e w' ⟨rfl, ⟨nd, rfl⟩⟩; refine ⟨_, rfl, ?_⟩; refine hK.out _ _ ⟨(blk_cell BK2.out 0).trans rfl, ((HB.out.cell (World.block_lt_of_cell? w _ hw297_0)).trans hw297_0), ((HB.out.cell (World.block_lt_of_cell? w _ hw297_1)).trans hw297_1), ((HB.out.cell (World.block_lt_of_cell? w _ hw298_0)).trans hw298_0), ((HB.out.cell (World.block_lt_of_cell? w _ hw298_1)).trans hw298_1)⟩ (fun hHeld => ?_); clear hK K; refine norm_ (a' := ?_) ?_ ?_; rotate_left
     ·show Act.put _ (some 21) _ = _
      simp only [Act.put, List.setIfInBounds_toArray, List.set_cons_zero, List.set_cons_succ, i64_w, i32_w]; rfl
     refine pv 16 5 (bz 17 131071) HT_ (h := ?_); refine done_ (done_of HT_.out (by kernel_rfl)) ?_; (try go_wp2); go_ret; exact ⟨er, bb⟩
    ·rw [if_neg c7] at H
     exact absurd H (by simp)
   ·rw [if_neg c6] at H
    exact absurd H (by simp)
  ·rw [if_neg c5] at H
   exact absurd H (by simp)
 ·rw [if_neg c4] at H
  exact absurd H (by simp)

def slices_SortFunc_int_int_impl_allocate_1.sz (lo : List S73) (x : Int) : Int := (rd_T73 lo x).f0
def slices_SortFunc_int_int_impl_allocate_1.cf (lo : List S73) (x y : Int) : Int := if slices_SortFunc_int_int_impl_allocate_1.sz lo y < slices_SortFunc_int_int_impl_allocate_1.sz lo x then -1 else if slices_SortFunc_int_int_impl_allocate_1.sz lo y > slices_SortFunc_int_int_impl_allocate_1.sz lo x then 1 else if x < y then -1 else if x > y then 1 else 0
def slices_SortFunc_int_int_impl_allocate_1.le (lo : List S73) (x y : Int) : Bool := decide (¬ slices_SortFunc_int_int_impl_allocate_1.cf lo y x < 0)
def slices_SortFunc_int_int_impl_allocate_1.f (l0 : List Int) (lo : List S73) : Option (List Int) := if (decide (l0.length ≤ 12) && l0.all (fun x => decide (0 ≤ x ∧ x < (lo.length : Int)))) = true then some (l0.mergeSort (slices_SortFunc_int_int_impl_allocate_1.le lo)) else none
theorem slices_SortFunc_int_int_impl_allocate_1.cmp_ (a b : Int) : cmp_Compare_int.f a b = some (if a < b then -1 else if a > b then 1 else 0) := by
 unfold cmp_Compare_int.f cmp_isNaN_int.f
 simp only [bne_self_eq_false, Option.bind_some, Bool.false_eq_true, if_false]
 by_cases h1 : a < b
 ·simp [h1]
 ·by_cases h2 : a > b
  ·simp [h1, h2]
  ·simp [h1, h2]
theorem slices_SortFunc_int_int_impl_allocate_1.or_ (a b : Int) : cmp_Or_int.f 20 [a, b] = some (if a = 0 then b else a) := by
 unfold cmp_Or_int.f
 simp only [cmp_Or_int.l0, List.length_cons, List.length_nil]
 by_cases h1 : a = 0
 ·by_cases h2 : b = 0
  ·subst h1 h2; simp [rd, wrap64]
  ·subst h1; simp [rd, wrap64, h2]
 ·simp [rd, wrap64, h1]
theorem slices_SortFunc_int_int_impl_allocate_1.calls (P0_ : Nat → Prop) (u9000_ : Value) (l0 : List Int) (gt : Nat) (At : Option Addr) (ct : Nat) (lt : List S73) (r : List Int) (w0 w : World) (hB : Below w0.heap.size w0 w) (ho0 : Kd.R (Kd.int .i64) 3 w w0.heap.size P0_ u9000_ l0)
  (hrt : ∀ W_, Kept w W_ (fun k_ => P0_ k_) → Kd.C k73 W_ At lt.length lt) (hct : lt.length ≤ ct) (hbt : w.heap[gt]? = some (.cells #[.slice At lt.length ct] 67 (0, 0))) (hnb : ¬ P0_ gt) (h : slices_SortFunc_int_int_impl_allocate_1.f l0 lt = some r) :
  Calls Try.prog 91 #[u9000_, .func (.func 131) #[] #[.pointer (some ⟨gt, 0, none⟩)]] w fun e w' => e = .returned (.tuple #[]) ∧ Kd.R (Kd.int .i64) 3 w' w0.heap.size (fun k_ => (P0_ k_ ∨ w.heap.size ≤ k_)) u9000_ r ∧ Below w0.heap.size w0 w' ∧ Kept w w' (fun k_ => P0_ k_) := by
 unfold slices_SortFunc_int_int_impl_allocate_1.f at h
 split at h
 next hs =>
  injection h with h; subst h; simp only [Bool.and_eq_true, decide_eq_true_eq, List.all_eq_true] at hs; obtain ⟨h12, hin⟩ := hs
  have hcf : ∀ x y, (0 ≤ x ∧ x < (lt.length : Int)) → (0 ≤ y ∧ y < (lt.length : Int)) → impl_allocate_1.f 20 x y lt = some (slices_SortFunc_int_int_impl_allocate_1.cf lt x y) := by
   intro x y hx hy
   unfold impl_allocate_1.f
   rw [if_pos hy.1, if_pos hy.2, if_pos hx.1, if_pos hx.2, slices_SortFunc_int_int_impl_allocate_1.cmp_, Option.bind_some, slices_SortFunc_int_int_impl_allocate_1.cmp_, Option.bind_some, slices_SortFunc_int_int_impl_allocate_1.or_, Option.bind_some]
   unfold slices_SortFunc_int_int_impl_allocate_1.cf slices_SortFunc_int_int_impl_allocate_1.sz
   generalize (rd_T73 lt x).f0 = a; generalize (rd_T73 lt y).f0 = b
   congr 1
   by_cases h1 : b < a
   ·simp [h1]
   ·by_cases h2 : b > a
    ·simp [h1, h2]
    ·simp [h1, h2]
  have asym : ∀ x y, slices_SortFunc_int_int_impl_allocate_1.cf lt x y < 0 → ¬ slices_SortFunc_int_int_impl_allocate_1.cf lt y x < 0 := by
   intro x y; unfold slices_SortFunc_int_int_impl_allocate_1.cf; intro h1; split at h1 <;> (split <;> (try split at h1) <;> (try split) <;> omega)
  have trans : ∀ x y z, ¬ slices_SortFunc_int_int_impl_allocate_1.cf lt y x < 0 → ¬ slices_SortFunc_int_int_impl_allocate_1.cf lt z y < 0 → ¬ slices_SortFunc_int_int_impl_allocate_1.cf lt z x < 0 := by
   have key : ∀ x y, (slices_SortFunc_int_int_impl_allocate_1.cf lt x y < 0 ↔ (slices_SortFunc_int_int_impl_allocate_1.sz lt y < slices_SortFunc_int_int_impl_allocate_1.sz lt x ∨ (slices_SortFunc_int_int_impl_allocate_1.sz lt y = slices_SortFunc_int_int_impl_allocate_1.sz lt x ∧ x < y))) := by
    intro x y; unfold slices_SortFunc_int_int_impl_allocate_1.cf; split
    ·omega
    ·split
     ·omega
     ·split
      ·omega
      ·split <;> omega
   intro x y z; rw [key, key, key]; omega
  have anti : ∀ x y, ¬ slices_SortFunc_int_int_impl_allocate_1.cf lt x y < 0 → ¬ slices_SortFunc_int_int_impl_allocate_1.cf lt y x < 0 → x = y := by
   have key : ∀ x y, (slices_SortFunc_int_int_impl_allocate_1.cf lt x y < 0 ↔ (slices_SortFunc_int_int_impl_allocate_1.sz lt y < slices_SortFunc_int_int_impl_allocate_1.sz lt x ∨ (slices_SortFunc_int_int_impl_allocate_1.sz lt y = slices_SortFunc_int_int_impl_allocate_1.sz lt x ∧ x < y))) := by
    intro x y; unfold slices_SortFunc_int_int_impl_allocate_1.cf; split
    ·omega
    ·split
     ·omega
     ·split
      ·omega
      ·split <;> omega
   intro x y; rw [key, key]; omega
  have hc := Fns.sort_lay (fun x => 0 ≤ x ∧ x < (lt.length : Int)) (slices_SortFunc_int_int_impl_allocate_1.cf lt) asym trans 131 #[.pointer (some ⟨gt, 0, none⟩)] P0_ u9000_ l0 w0 w hB ho0 h12 (fun x hx => hin x hx) (enters_of Try.func131 (by kernel_rfl) rfl)
   (fun W hW x y hx hy => by
    refine (impl_allocate_1.calls 20 x y gt At ct lt _ W (hrt W hW) hct (blk_kept hbt hW hnb) (hcf x y hx hy)).mono ?_; rintro e w' ⟨rfl, hb⟩; exact ⟨rfl, hb⟩)
  refine hc.mono ?_; rintro e w' ⟨rfl, l', hp, hsd, hR, hBl, hK⟩
  have hm : l' = l0.mergeSort (slices_SortFunc_int_int_impl_allocate_1.le lt) := by
   refine Fns.uniq_le (slices_SortFunc_int_int_impl_allocate_1.cf lt) anti _ _ (hp.trans (List.mergeSort_perm l0 _).symm) hsd ?_
   have hpw := List.pairwise_mergeSort (le := slices_SortFunc_int_int_impl_allocate_1.le lt) (fun a b c h1 h2 => by
    unfold slices_SortFunc_int_int_impl_allocate_1.le at h1 h2 ⊢; rw [decide_eq_true_eq] at h1 h2 ⊢; exact trans a b c h1 h2) (fun a b => by
    unfold slices_SortFunc_int_int_impl_allocate_1.le
    by_cases h1 : slices_SortFunc_int_int_impl_allocate_1.cf lt b a < 0
    ·have := asym _ _ h1; simp [this]
    ·simp [h1]) l0
   rw [List.pairwise_iff_getElem] at hpw; intro i j hij hj; have := hpw i j (by omega) hj hij
   unfold Fns.le_
   unfold slices_SortFunc_int_int_impl_allocate_1.le at this
   rw [decide_eq_true_eq] at this; rw [List.getD_eq_getElem?_getD, List.getD_eq_getElem?_getD, List.getElem?_eq_getElem hj, List.getElem?_eq_getElem (show i < _ by omega)]; exact this
  rw [hm] at hR; exact ⟨rfl, R_mono hR (fun k hk => .inl hk), hBl, hK⟩
 next => cases h

mutual
def impl_allocate.l0 : Nat → List (S50) → Int → List Int → Int → Int → List (S73) → Option ((List (S73)))
 | 0, _, _, _, _, _, _ => none
 | k + 1, x0, x7, x21, x22, x23, x306000 => if x23 < x22 then (if 0 ≤ x23 then (if x23 < (x21.length : Int) then (if 0 ≤ (rd x21 x23) then (if (rd x21 x23) < (x306000.length : Int) then (if ((rd_T73 x306000 (rd x21 x23)).f0) > 0 then ((some (x306000.set ((rd x21 x23) : Int).toNat (⟨(rd_T73 x306000 (rd x21 x23)).f0, x7⟩ : S73) : List (S73))).bind fun y313 => (impl_allocate.j1 k x0 (wrap64 (x7 + ((rd_T73 y313 (rd x21 x23)).f0))) (rd x21 x23) x21 x22 x23 y313)) else (impl_allocate.j1 k x0 x7 (rd x21 x23) x21 x22 x23 x306000)) else (none)) else (none)) else (none)) else (none)) else (some x306000)
def impl_allocate.j1 : Nat → List (S50) → Int → Int → List Int → Int → Int → List (S73) → Option ((List (S73)))
 | 0, _, _, _, _, _, _, _ => none
 | k + 1, x0, x7, x9, x21, x22, x23, x306000 => (impl_isBridge.f x0 x9).bind fun t315 => (if t315 = true then ((impl_allocate.f k x0 x306000 x9).bind fun t316 => (impl_allocate.l0 k x0 x7 x21 x22 (wrap64 (x23 + 1)) t316)) else (impl_allocate.l0 k x0 x7 x21 x22 (wrap64 (x23 + 1)) x306000))
def impl_allocate.f : Nat → List (S50) → List (S73) → Int → Option ((List (S73)))
 | 0, _, _, _ => none
 | k + 1, l0, l1, a2 => (impl_ChildrenOf.f k l0 a2).bind fun t306 => ((slices_SortFunc_int_int_impl_allocate_1.f t306 l1).bind fun t309 => (if 0 ≤ a2 then (if a2 < (l1.length : Int) then (impl_allocate.l0 k l0 ((rd_T73 l1 a2).f1) t309 (t306.length : Int) 0 l1) else (none)) else (none)))
end
set_option maxHeartbeats 8000000 in
set_option maxRecDepth 100000 in
theorem impl_allocate.calls (k : Nat) : ∀ (A0 : Option Addr) (c0 : Nat) (l0 : List (S50)) (P1_ : Nat → Prop) (u9000_ : Value) (l1 : List (S73)) (a2 : Int) (r : List (S73)) (w0 w : World) (hB : Below w0.heap.size w0 w) (hr0 : ∀ W_, Kept w W_ (fun k_ => P1_ k_) → Kd.C k50 W_ A0 l0.length l0) (hc0 : l0.length ≤ c0) (ho1 : Kd.R k73 73 w w0.heap.size P1_ u9000_ l1) (h : impl_allocate.f k l0 l1 a2 = some r),
  Calls Try.prog 110 #[.slice A0 l0.length c0, u9000_, .int .i64 a2] w fun e w' => e = .returned (.tuple #[]) ∧ Kd.R k73 73 w' w0.heap.size (fun k_ => (P1_ k_ ∨ w.heap.size ≤ k_)) u9000_ r ∧ Below w0.heap.size w0 w' ∧ Kept w w' (fun k_ => P1_ k_) := by
 induction k using Nat.strongRecOn with
 | _ k ih =>
 intro A0 c0 l0 P1_ u9000_ l1 a2 r w0 w hB hr0 hc0 ho1 h
 cases k with
 | zero => exact absurd h (by simp [impl_allocate.f])
 | succ k =>
 simp only [impl_allocate.f] at h; have HR0 := Aside0.mk hr0; have HC0 := Aside0.mk hc0; clear hr0 hc0; have HO1 := Aside0.mk (show Kd.R k73 73 w w0.heap.size (fun k_ => (P1_ k_ ∨ w.heap.size ≤ k_)) u9000_ l1 from R_mono ho1 (fun k_ hk => (.inl hk))); have HK := Aside0.mk (Kept.refl w (fun k_ => P1_ k_)); have HW0 := Aside0.mk hB.size; have HB := Aside0.mk hB; clear hB; have H : ((impl_ChildrenOf.f k l0 a2).bind fun t306 => ((slices_SortFunc_int_int_impl_allocate_1.f t306 l1).bind fun t309 => (if 0 ≤ a2 then (if a2 < (l1.length : Int) then (impl_allocate.l0 k l0 ((rd_T73 l1 a2).f1) t309 (t306.length : Int) 0 l1) else (none)) else (none)))) = some r := h; clear h; replace H := Option.bind_eq_some_iff.mp H; obtain ⟨t306, A40, H⟩ := H; replace H : ((slices_SortFunc_int_int_impl_allocate_1.f t306 l1).bind fun t309 => (if 0 ≤ a2 then (if a2 < (l1.length : Int) then (impl_allocate.l0 k l0 ((rd_T73 l1 a2).f1) t309 (t306.length : Int) 0 l1) else (none)) else (none))) = some r := H; have A4 := Aside0.mk A40; clear A40; replace H := Option.bind_eq_some_iff.mp H; obtain ⟨t309, A50, H⟩ := H; replace H : (if 0 ≤ a2 then (if a2 < (l1.length : Int) then (impl_allocate.l0 k l0 ((rd_T73 l1 a2).f1) t309 (t306.length : Int) 0 l1) else (none)) else (none)) = some r := H; have A5 := Aside0.mk A50; clear A50
 by_cases c6 : 0 ≤ a2
 ·rw [if_pos c6] at H
  have c6b0 : decide (0 ≤ a2) = true := decide_eq_true c6; clear c6
  by_cases c7 : a2 < (l1.length : Int)
  ·rw [if_pos c7] at H
   have c7b0 : decide (a2 < (l1.length : Int)) = true := decide_eq_true c7; clear c7; have H' := Aside0.mk H; clear H; obtain ⟨Ao8, co8, eo8⟩ := R_slice HO1.out; subst eo8; go_enter Try.func110, Try.ntmps110; go_wp2_with (first | ((with_reducible refine gate_dst (N := 4) rfl ?_); refine box_event ?hg (N := 4) ?hd (cs := #[.slice Ao8 l1.length co8]) (t := 67) ?hr ?_; (case hd => rfl); (case hg => rfl); (case hr => exact hr_); intro gb305 hg w9 hbox hb; have t_ := fc6 (R_below (ra HO1.out) hb) (Kept.below (S := (fun k_ => P1_ k_)) (by repeat (first | (with_reducible first | exact HK.out | apply Kept.alloc | apply Kept.drewN | apply Kept.drew) | exact HK.out)) hb) (below_step bb hb) (hbox) ((by rw [hg]; exact (by first | exact HK.out.1 | exact (show Kept w _ (fun k_ => P1_ k_) from by repeat (first | (with_reducible first | exact HK.out | apply Kept.alloc | apply Kept.drewN | apply Kept.drew) | exact HK.out)).1) : w.heap.size ≤ gb305)) (bg hg : w0.heap.size ≤ gb305); clear HO1 HK HB; obtain ⟨HO1, HK, HB, BK305, GW305, GE305⟩ := t_; clear hb hbox hg) | ((with_reducible refine gate_callee (f := 39) rfl ?_); refine goesL_ (some 12) rfl rfl Try.func39 (by kernel_rfl) rfl #[.slice A0 l0.length c0, .int .i64 a2] rfl ms ?_; (with_reducible refine (impl_ChildrenOf.calls k _ _ l0 a2 t306 _ ?side1 ?side2 A4.out).mono ?_); (case side1 => exact Kd.C_kept_now HR0.out (by repeat (first | (with_reducible first | exact HK.out | apply Kept.alloc | apply Kept.drewN | apply Kept.drew | refine Kept.setCell ?_ (.inr GW305.out) _) | exact HK.out))); (case side2 => exact HC0.out); rintro e w10 ⟨v307, rfl, ho0, hb⟩; refine ⟨_, rfl, ?_⟩; have t_ := fc5 (R_below (ra HO1.out) hb) (R_lower (Kd.R_newM (M := fun k_ => (P1_ k_ ∨ w.heap.size ≤ k_)) ho0 (by first | exact HK.out.1 | exact (show Kept w _ (fun k_ => P1_ k_) from by repeat (first | (with_reducible first | exact HK.out | apply Kept.alloc | apply Kept.drewN | apply Kept.drew | refine Kept.setCell ?_ (.inr GW305.out) _) | exact HK.out)).1) (fun k_ h_ => .inr h_)) (below_size bb)) (bw BK305 hb) (Kept.below (S := (fun k_ => P1_ k_)) (by repeat (first | (with_reducible first | exact HK.out | apply Kept.alloc | apply Kept.drewN | apply Kept.drew | refine Kept.setCell ?_ (.inr GW305.out) _) | exact HK.out)) hb) (below_step bb hb); clear HO1 BK305 HK HB; obtain ⟨HO1, HO308, BK305, HK, HB⟩ := t_; (try clear hb); (try clear ho0); obtain ⟨Ao11, co11, eo11⟩ := R_slice HO308.out; subst eo11) | ((with_reducible refine gate_callee (f := 91) rfl ?_); refine goesL_ (some 15) rfl rfl Try.func91 (by kernel_rfl) rfl #[.slice Ao11 t306.length co11, .func (.func 131) #[] #[.pointer (some ⟨gb305, 0, none⟩)]] rfl ms ?_; (with_reducible refine (slices_SortFunc_int_int_impl_allocate_1.calls (fun k_ => some k_ = (.slice Ao11 t306.length co11 : Value).ownBlock) (.slice Ao11 t306.length co11) t306 gb305 Ao8 co8 l1 t309 w0 _ ?side1 ?side2 ?side3 ?side4 ?side5 ?side6 A5.out).mono ?_); (case side1 => exact bb); (case side2 => exact Kd.R_tight rfl HO308.out); (case side3 => exact Kd.C_kept_own ((Kd.R_apart' HO1.out (Kd.R_typed HO308.out) (by decide))) nf); (case side4 => exact (R_reads' HO1.out).2.1); (case side5 => exact bk); (case side6 => exact fun hs_ => (fun e_ => (R_ne HO308.out BK305.out (by decide)) e_) hs_); rintro e w12 ⟨rfl, hy0, hb, hkp⟩; refine ⟨_, rfl, ?_⟩; have t_ := fc5 (R_mono (ok' := fun k_ => (P1_ k_ ∨ w.heap.size ≤ k_)) (Kd.R_keptB ((Kd.R_apart' HO1.out (Kd.R_typed HO308.out) (by decide))) hkp nf) fq2) (blk_kept bk hkp (fun hs_ => (fun e_ => (R_ne HO308.out BK305.out (by decide)) e_) hs_)) (Kd.R_reok rfl hy0 (fun k_ e_ => HO308.out.1 k_ e_)) (Kept.then_ (S := (fun k_ => P1_ k_)) (by repeat (first | (with_reducible first | exact HK.out | apply Kept.alloc | apply Kept.drewN | apply Kept.drew | refine Kept.setCell ?_ (.inr GW305.out) _) | exact HK.out)) hkp (fun k_ hs_ => (fun e_ => (HO308.out.1 k_ e_.symm).1) hs_)) (hb); clear HO1 BK305 HO308 HK HB; obtain ⟨HO1, BK305, HO308, HK, HB⟩ := t_; (try clear hb); (try clear hkp); (try clear hy0); obtain ⟨hcz13_0, hfz13_0⟩ := bx1 BK305.out; have p310 : 0 ≤ (a2 : Int) := of_decide_eq_true as_; have q310 : a2 < (l1.length : Int) := of_decide_eq_true as_; obtain ⟨ad310, e310, hx310_0, hx310_1⟩ := at_T73 (R_reads' HO1.out).2.2 a2 p310 q310; cases e310; obtain ⟨gh_, rfl⟩ := Kd.R_head HO1.out; (try simp only [add_plain] at hx310_0 hx310_1); replace p310 := eq_true p310; replace q310 := eq_true q310))
   go_loopg [7, 23] k (fun kq v7 v23 w' => ∃ (x7_1 : Int) (x23_1 : Int) (x306000_1 : List (S73)), v7 = .int .i64 x7_1 ∧ v23 = .int .i64 x23_1 ∧ Aside0 (impl_allocate.l0 kq l0 x7_1 t309 (t306.length : Int) x23_1 x306000_1 = some r) ∧ Aside0 (kq ≤ k) ∧ Aside0 (Kd.R (Kd.int .i64) 3 w' w0.heap.size (fun k_ => (P1_ k_ ∨ w.heap.size ≤ k_)) (.slice Ao11 t306.length co11) t309) ∧ Aside0 (Kd.R k73 73 w' w0.heap.size (fun k_ => (P1_ k_ ∨ w.heap.size ≤ k_)) (.slice (some (⟨gh_, 0, none⟩ : Addr)) l1.length co8) x306000_1) ∧ Aside0 (w'.heap[gb305]? = some (.cells #[(.slice (some (⟨gh_, 0, none⟩ : Addr)) l1.length co8)] 67 (0, 0))) ∧ Aside0 (Kept w w' (fun k_ => P1_ k_)) ∧ Aside0 (Below w0.heap.size w0 w'))
   case atStart => exact ⟨((rd_T73 l1 a2).f1), (0), (l1), sd_, sd_, H', ⟨Nat.le_refl _⟩, ⟨by (with_reducible repeat (first | apply R_alloc | apply R_drewN | apply R_drew)); exact R_mono HO308.out (fun _ hk => by first | exact hk.1 | exact hk)⟩, ⟨(ra HO1.out)⟩, ⟨by exact bk⟩, ⟨by repeat (first | (with_reducible first | exact HK.out | apply Kept.alloc | apply Kept.drewN | apply Kept.drew | refine Kept.setCell ?_ (.inr GW305.out) _) | exact HK.out)⟩, ⟨bb⟩⟩
   case round =>
    clear H'; (try clear c1); (try clear p2); (try clear c3); (try clear p3); (try clear q3); (try clear hx3); (try clear c6); (try clear c6b0); (try clear c7); (try clear c7b0); (try clear c9); (try clear c11); (try clear hcz13_0); (try clear hfz13_0); (try clear hx310_0); (try clear hx310_1); (try clear p310); (try clear q310); obtain ⟨x7_1, x23_1, x306000_1, rfl, rfl, HA, HK1, HO_21, HO_306000, BK305, HK, HB⟩ := hrel; have hl21_1 := (R_reads' HO_21.out).1; rw [hl21_1] at HO_21; (try simp only [hl21_1]); (try simp only [hl21_1] at BK305); (try simp only [hl21_1] at HO_306000); have hl306000_1 := (R_reads' HO_306000.out).1; rw [hl306000_1] at HO_306000; (try simp only [hl306000_1]); (try simp only [hl306000_1] at BK305); (try simp only [hl306000_1] at HO_21)
    cases gk with
    | zero => exact absurd HA.out (by simp [impl_allocate.l0])
    | succ k1 =>
     have H := HA.out; clear HA; simp only [impl_allocate.l0] at H
     by_cases c14 : x23_1 < (t306.length : Int)
     ·rw [if_pos c14] at H
      have c14b0 : decide (x23_1 < (t306.length : Int)) = true := decide_eq_true c14; (try (have c14h0 := c14b0; simp only [hl21_1, hl306000_1] at c14h0)); clear c14
      by_cases c15 : 0 ≤ x23_1
      ·rw [if_pos c15] at H
       have c15b0 : decide (0 ≤ x23_1) = true := decide_eq_true c15; clear c15
       by_cases c16 : x23_1 < (t309.length : Int)
       ·rw [if_pos c16] at H
        have c16b0 : decide (x23_1 < (t309.length : Int)) = true := decide_eq_true c16; (try (have c16h0 := c16b0; simp only [hl21_1, hl306000_1] at c16h0)); clear c16
        by_cases c17 : 0 ≤ (rd t309 x23_1)
        ·rw [if_pos c17] at H
         have c17b0 : decide (0 ≤ (rd t309 x23_1)) = true := decide_eq_true c17; clear c17
         by_cases c18 : (rd t309 x23_1) < (x306000_1.length : Int)
         ·rw [if_pos c18] at H
          have c18b0 : decide ((rd t309 x23_1) < (x306000_1.length : Int)) = true := decide_eq_true c18; (try (have c18h0 := c18b0; simp only [hl21_1, hl306000_1] at c18h0)); clear c18; have HC19 := Aside0.mk H; clear H; have p311 : 0 ≤ (x23_1 : Int) := of_decide_eq_true as_; have q311 : x23_1 < (t309.length : Int) := of_decide_eq_true as_; obtain ⟨ad311, e311, hx311_0⟩ := Kd.at_int (R_reads' HO_21.out).2.2 x23_1 p311 q311; cases e311; replace p311 := eq_true p311; replace q311 := eq_true q311; obtain ⟨hcz20_0, hfz20_0⟩ := bx1 BK305.out; have p312 : 0 ≤ ((rd t309 x23_1) : Int) := of_decide_eq_true as_; have q312 : (rd t309 x23_1) < (x306000_1.length : Int) := of_decide_eq_true as_; obtain ⟨ad312, e312, hx312_0, hx312_1⟩ := at_T73 (R_reads' HO_306000.out).2.2 (rd t309 x23_1) p312 q312
          obtain rfl : (⟨gh_, 0, none⟩ : Addr) = ad312 := (by injection e312)
          (try simp only [add_plain] at hx312_0 hx312_1)
          replace p312 := eq_true p312; replace q312 := eq_true q312
          go_upto_if 32 with (fail)
          go_cut [7] (fun v7 wc => ∃ (kq : Nat) (x7_18 : Int) (x306000_18 : List (S73)), v7 = .int .i64 x7_18 ∧ Aside0 (impl_allocate.j1 kq l0 x7_18 (rd t309 x23_1) t309 (t306.length : Int) x23_1 x306000_18 = some r) ∧ Aside0 (kq ≤ k1) ∧ Aside0 (Kd.R (Kd.int .i64) 3 wc w0.heap.size (fun k_ => (P1_ k_ ∨ w.heap.size ≤ k_)) (.slice (some ad311) t309.length co11) t309) ∧ Aside0 (Kd.R k73 73 wc w0.heap.size (fun k_ => (P1_ k_ ∨ w.heap.size ≤ k_)) (.slice (some (⟨gh_, 0, none⟩ : Addr)) x306000_1.length co8) x306000_18) ∧ Aside0 (wc.heap[gb305]? = some (.cells #[(.slice (some (⟨gh_, 0, none⟩ : Addr)) x306000_1.length co8)] 67 (0, 0))) ∧ Aside0 (Kept w wc (fun k_ => P1_ k_)) ∧ Aside0 (Below w0.heap.size w0 wc))
          case first =>
           have H := HC19.out; clear HC19
           by_cases c21 : ((rd_T73 x306000_1 (rd t309 x23_1)).f0) > 0
           ·rw [if_pos c21] at H
            have c21b0 : decide (0 < ((rd_T73 x306000_1 (rd t309 x23_1)).f0)) = true := decide_eq_true c21; clear c21; (first | rw [c21b0] | (simp only [i64_w, i32_w]; rw [c21b0]) | skip)
            obtain ⟨y313, hy313⟩ : ∃ y_ : List (S73), y_ = (x306000_1.set ((rd t309 x23_1) : Int).toNat (⟨(rd_T73 x306000_1 (rd t309 x23_1)).f0, x7_1⟩ : S73)) := ⟨_, rfl⟩
            (replace H : (impl_allocate.j1 k1 l0 (wrap64 (x7_1 + ((rd_T73 y313 (rd t309 x23_1)).f0))) (rd t309 x23_1) t309 (t306.length : Int) x23_1 y313) = some r := by first | (rw [hy313]; with_reducible exact H) | (have H2_ := bs_ H; rw [hy313]; with_reducible exact H2_) | (have H2_ := bs_ H; with_reducible exact H2_) | with_reducible exact H | (rw [hy313]; exact H) | exact H); have Ny313 := Aside0.mk hy313; clear hy313; have H' := Aside0.mk H; clear H; obtain ⟨hcz23_0, hfz23_0⟩ := bx1 BK305.out; have p22 : 0 ≤ ((rd t309 x23_1) : Int) := of_decide_eq_true as_; have q22 : ((rd t309 x23_1) : Int) < ((x306000_1.length : Int) : Int) := of_decide_eq_true as_; obtain ⟨go22, co22, eo22, gb22, gl22, cl22, HG22⟩ := Kd.R_form HO_306000.out (by omega); (first | cases eo22 | (injection eo22 with ea_ en_ ec_; (first | subst ea_ | (injection ea_ with ea_; subst ea_)); subst ec_; clear en_)); have GB22 := Aside0.mk gb22; have GG22 := Aside0.mk HG22; clear gb22 gl22 HG22; have HMgo22 := Aside0.mk (show (P1_ gh_ ∨ w.heap.size ≤ gh_) from (HO_306000.out.1 _ rfl)); (first | simp only [add_plain] at hx310_0 | skip); (first | simp only [add_plain] at hx310_1 | skip); (first | simp only [add_plain] at hx312_0 | skip); (first | simp only [add_plain] at hx312_1 | skip); obtain ⟨ce22, hcl22, hM22, hcc22, hfr22⟩ := Kd.R_elem HO_306000.out z73 ((rd t309 x23_1) : Int) p22 q22; obtain rfl := k73_openM hM22; have hx22_0 : wr.cell? ⟨gh_, ((rd t309 x23_1) : Int).toNat * 2, none⟩ = some (.int .i64 ((rd_T73 x306000_1 (rd t309 x23_1)).f0)) := hcc22 0 _ rfl; have hx22_1 : wr.cell? ⟨gh_, ((rd t309 x23_1) : Int).toNat * 2 + 1, none⟩ = some (.int .i64 ((rd_T73 x306000_1 (rd t309 x23_1)).f1)) := hcc22 1 _ rfl; have hf22_0 : wr.frozen? ⟨gh_, ((rd t309 x23_1) : Int).toNat * 2, none⟩ = false := hfr22 0; have hf22_1 : wr.frozen? ⟨gh_, ((rd t309 x23_1) : Int).toNat * 2 + 1, none⟩ = false := hfr22 1; clear hcl22 hcc22 hfr22 hM22; replace p22 := eq_true p22; replace q22 := eq_true q22; have HX24 := Aside0.mk (show Kd.R k73 73 wr w0.heap.size (fun k_ => (P1_ k_ ∨ w.heap.size ≤ k_)) (.slice (some ⟨gh_, 0, none⟩) x306000_1.length co8) x306000_1 from (ra HO_306000.out)); obtain ⟨ce24, hcl24, hM24, hcc24, hfr24⟩ := Kd.R_elem HX24.out z73 ((rd t309 x23_1) : Int) (of_decide_eq_true as_) (by have h_ : ((rd t309 x23_1) : Int) < ((x306000_1.length : Int) : Int) := of_decide_eq_true as_; first | exact h_ | (have e_ := (R_reads' HO_306000.out).1; omega) | simpa using h_); obtain rfl := k73_openM hM24; have HP24 := Kd.R_seg HX24.out ((rd t309 x23_1) : Int) (of_decide_eq_true as_) (by have h_ : ((rd t309 x23_1) : Int) < ((x306000_1.length : Int) : Int) := of_decide_eq_true as_; first | exact h_ | (have e_ := (R_reads' HO_306000.out).1; omega) | simpa using h_) (seg := [.int .i64 x7_1]) (j := 1) hcl24 hcc24 (show 2 ≤ 2 from by decide) (x' := (⟨(rd_T73 x306000_1 (rd t309 x23_1)).f0, x7_1⟩ : S73)) (k73_mkM _ _ _ (⟨(rd_T73 x306000_1 (rd t309 x23_1)).f0, x7_1⟩ : S73) ) (fun _ hk => hk); have hx24_1 := hcc24 1 _ rfl; (try simp only [show (k73).sz = 2 from rfl, Nat.mul_one, Nat.add_zero] at hx24_1); have hf24_1 := hfr24 1; (try simp only [show (k73).sz = 2 from rfl, Nat.mul_one, Nat.add_zero] at hf24_1); clear hcl24 hcc24 hfr24 hM24; go_wp2_with (first | ((with_reducible refine gate_store (t := 3) (p := 37) rfl ?_); refine store_event (t := 3) (p := 37) (v := ?vo_w25) (w1 := (wr.setCell ⟨gh_, ((rd t309 x23_1) : Int).toNat * 2 + 1, none⟩ (.int .i64 x7_1))) ?hg ?ho ?hn ?hr ?_; (case ho => rfl); (case hg => rfl); (case hn => rfl); (case hr => exact hr_); intro w25 hw; have hg : wr.grownBy w25 (some gh_) := (by rw [hw]; exact HP24.2); have hp_ : Kd.R k73 73 w25 w0.heap.size (fun k_ => (P1_ k_ ∨ w.heap.size ≤ k_)) (.slice (some ⟨gh_, 0, none⟩) x306000_1.length co8) y313 := (by rw [hw, Ny313.out]; exact HP24.1); clear HP24; have t_ := fc5 (Kd.R_over' (v := (.slice (some ⟨gh_, 0, none⟩) x306000_1.length co8)) (ra HO_21.out) (Kd.R_typed HO_306000.out) (by decide) hg) (hp_) (blk_grown (g := gb305) (o := .cells #[.slice (some ⟨gh_, 0, none⟩) x306000_1.length co8] 67 (0, 0)) bk hg (R_ne HO_306000.out BK305.out (by decide))) ((by rw [hw]; exact below_set (HB.out) GB22.out : Below w0.heap.size w0 w25)) (Kept.of_grown (S := (fun k_ => P1_ k_)) hg (by repeat (first | (with_reducible first | exact HK.out | apply Kept.alloc | apply Kept.drewN | apply Kept.drew | refine Kept.setCell ?_ (.inr GW305.out) _) | exact HK.out)) (fun k_ e_ => (HO_306000.out.1 k_ e_))); clear HO_21 HO_306000 BK305 HB HK; obtain ⟨HO_21, HO_306000, BK305, HB, HK⟩ := t_; clear hg hw hp_; obtain ⟨hcz26_0, hfz26_0⟩ := bx1 BK305.out; have p314 : 0 ≤ ((rd t309 x23_1) : Int) := of_decide_eq_true as_; have q314 : (rd t309 x23_1) < (y313.length : Int) := (by have h_ : ((rd t309 x23_1) : Int) < ((x306000_1.length : Int) : Int) := of_decide_eq_true as_; first | (have e_ := (R_reads' HO_306000.out).1; omega) | simpa only [Ny313.out, List.length_set] using h_); have ql314 : (((rd t309 x23_1) : Int) < ((x306000_1.length : Int) : Int)) = True := eq_true (of_decide_eq_true as_); obtain ⟨ad314, e314, hx314_0, hx314_1⟩ := at_T73 (R_reads' HO_306000.out).2.2 (rd t309 x23_1) p314 q314; obtain rfl : (⟨gh_, 0, none⟩ : Addr) = ad314 := (by injection e314); (first | simp only [add_plain] at hx314_0 | simp only [add_at] at hx314_0 | simp only [Addr.add, Nat.zero_add] at hx314_0 | skip); (first | simp only [add_plain] at hx314_1 | simp only [add_at] at hx314_1 | simp only [Addr.add, Nat.zero_add] at hx314_1 | skip); replace p314 := eq_true p314; replace q314 := eq_true q314))
            go_meet
            case rel => exact ⟨_, (wrap64 (x7_1 + ((rd_T73 y313 (rd t309 x23_1)).f0))), (y313), sd_, H', ⟨by have := HK1.out; first | omega | exact Nat.le_refl _⟩, ⟨by (try simp only [hl21_1]); (try simp only [hl306000_1]); (with_reducible repeat (first | apply R_alloc | apply R_drewN | apply R_drew)); exact HO_21.out⟩, ⟨by (try simp only [hl21_1]); (try simp only [hl306000_1]); (with_reducible repeat (first | apply R_alloc | apply R_drewN | apply R_drew)); exact HO_306000.out⟩, ⟨by (try simp only [hl21_1]); (try simp only [hl306000_1]); exact bk⟩, ⟨by repeat (first | (with_reducible first | exact HK.out | apply Kept.alloc | apply Kept.drewN | apply Kept.drew | refine Kept.setCell ?_ (.inr GW305.out) _) | exact HK.out)⟩, ⟨bb⟩⟩
           ·rw [if_neg c21] at H
            have c21b0 : decide (0 < ((rd_T73 x306000_1 (rd t309 x23_1)).f0)) = false := decide_eq_false c21; clear c21; (first | rw [c21b0] | (simp only [i64_w, i32_w]; rw [c21b0]) | skip); have H' := Aside0.mk H; clear H; go_wp2
            go_meet
            case rel => exact ⟨_, (x7_1), (x306000_1), sd_, H', ⟨by have := HK1.out; first | omega | exact Nat.le_refl _⟩, ⟨by (try simp only [hl21_1]); (try simp only [hl306000_1]); (with_reducible repeat (first | apply R_alloc | apply R_drewN | apply R_drew)); exact HO_21.out⟩, ⟨by (try simp only [hl21_1]); (try simp only [hl306000_1]); (with_reducible repeat (first | apply R_alloc | apply R_drewN | apply R_drew)); exact HO_306000.out⟩, ⟨by (try simp only [hl21_1]); (try simp only [hl306000_1]); exact bk⟩, ⟨by repeat (first | (with_reducible first | exact HK.out | apply Kept.alloc | apply Kept.drewN | apply Kept.drew | refine Kept.setCell ?_ (.inr GW305.out) _) | exact HK.out)⟩, ⟨bb⟩⟩
          case rest =>
           clear HC19; (try clear c1); (try clear c2); (try clear p2); (try clear q2); (try clear hx2); (try clear c3); (try clear p3); (try clear q3); (try clear hx3); (try clear c6); (try clear c6b0); (try clear p6); (try clear c7); (try clear c7b0); (try clear c9); (try clear c11); (try clear c14); (try clear c14b0); (try clear c15); (try clear c15b0); (try clear c16); (try clear c16b0); (try clear c17); (try clear c17b0); (try clear c18); (try clear c18b0); (try clear c21); (try clear c21b0); (try clear c22); (try clear p22); (try clear q22); (try clear hx22); (try clear hf22); (try clear c24); (try clear hx24); (try clear hf24); (try clear hcz13_0); (try clear hcz20_0); (try clear hcz23_0); (try clear hcz26_0); (try clear hfz13_0); (try clear hfz20_0); (try clear hfz23_0); (try clear hfz26_0); (try clear hx22_0); (try clear hx22_1); (try clear hx24_1); (try clear hx310_0); (try clear hx310_1); (try clear hx311_0); (try clear hx312_0); (try clear hx312_1); (try clear hx314_0); (try clear hx314_1); (try clear p2); (try clear p22); (try clear p3); (try clear p310); (try clear p311); (try clear p312); (try clear p314); (try clear q22); (try clear q3); (try clear q310); (try clear q311); (try clear q312); (try clear q314); obtain ⟨kq, x7_18, x306000_18, rfl, HA, HJ18, HO_21, HO_306000, BK305, HK, HB⟩ := hcut; have hl306000_18 := (R_reads' HO_306000.out).1; rw [hl306000_18] at HO_306000; (try simp only [hl306000_18]); (try simp only [hl306000_18] at BK305); (try simp only [hl306000_18] at HO_21)
           cases kq with
           | zero => exact absurd HA.out (by simp [impl_allocate.j1])
           | succ kj18 =>
            have H := HA.out; clear HA; simp only [impl_allocate.j1] at H; replace H := Option.bind_eq_some_iff.mp H; obtain ⟨t315, A270, H⟩ := H; replace H : (if t315 = true then ((impl_allocate.f kj18 l0 x306000_18 (rd t309 x23_1)).bind fun t316 => (impl_allocate.l0 kj18 l0 x7_18 t309 (t306.length : Int) (wrap64 (x23_1 + 1)) t316)) else (impl_allocate.l0 kj18 l0 x7_18 t309 (t306.length : Int) (wrap64 (x23_1 + 1)) x306000_18)) = some r := H; have A27 := Aside0.mk A270; clear A270
            by_cases c28 : t315 = true
            ·subst c28
             (have H1 : ((impl_allocate.f kj18 l0 x306000_18 (rd t309 x23_1)).bind fun t316 => (impl_allocate.l0 kj18 l0 x7_18 t309 (t306.length : Int) (wrap64 (x23_1 + 1)) t316)) = some r := by rw [if_pos rfl] at H; exact H); clear H; have H := H1; clear H1; replace H := Option.bind_eq_some_iff.mp H; obtain ⟨t316, A290, H⟩ := H; replace H : (impl_allocate.l0 kj18 l0 x7_18 t309 (t306.length : Int) (wrap64 (x23_1 + 1)) t316) = some r := H; have A29 := Aside0.mk A290; clear A290; have H' := Aside0.mk H; clear H; go_wp2_with (first | ((with_reducible refine gate_callee (f := 81) rfl ?_); refine goesL_ (some 47) rfl rfl Try.func81 (by kernel_rfl) rfl #[.slice A0 l0.length c0, .int .i64 (rd t309 x23_1)] rfl ms ?_; (with_reducible refine (impl_isBridge.calls _ _ l0 (rd t309 x23_1) true _ ?side1 ?side2 A27.out).mono ?_); (case side1 => exact Kd.C_kept_now HR0.out (by repeat (first | (with_reducible first | exact HK.out | apply Kept.alloc | apply Kept.drewN | apply Kept.drew | refine Kept.setCell ?_ (.inr GW305.out) _) | exact HK.out))); (case side2 => exact HC0.out); rintro e w' ⟨rfl, ⟨nd, rfl⟩⟩; refine ⟨_, rfl, ?_⟩; obtain ⟨hcz30_0, hfz30_0⟩ := bx1 BK305.out) | ((with_reducible refine gate_callee (f := 110) rfl ?_); refine goesL_ (some 51) rfl rfl Try.func110 (by kernel_rfl) rfl #[.slice A0 l0.length c0, .slice (some (⟨gh_, 0, none⟩ : Addr)) x306000_18.length co8, .int .i64 (rd t309 x23_1)] rfl ms ?_; (with_reducible refine (ih kj18 (by have := HK1.out; have := HJ18.out; omega) _ _ l0 (fun k_ => some k_ = (.slice (some (⟨gh_, 0, none⟩ : Addr)) x306000_18.length co8 : Value).ownBlock) (.slice (some (⟨gh_, 0, none⟩ : Addr)) x306000_18.length co8) x306000_18 (rd t309 x23_1) t316 w0 _ ?side1 ?side2 ?side3 ?side4 A29.out).mono ?_); (case side1 => exact bb); (case side2 => exact Kd.C_kept_call HR0.out (by repeat (first | (with_reducible first | exact HK.out | apply Kept.alloc | apply Kept.drewN | apply Kept.drew | refine Kept.setCell ?_ (.inr GW305.out) _) | exact HK.out)) (fun k_ hs_ => (fun e_ => (HO_306000.out.1 k_ e_.symm)) hs_)); (case side3 => exact HC0.out); (case side4 => exact Kd.R_tight rfl HO_306000.out); rintro e w31 ⟨rfl, hy0, hb, hkp⟩; refine ⟨_, rfl, ?_⟩; have t_ := fc5 (R_mono (ok' := fun k_ => (P1_ k_ ∨ w.heap.size ≤ k_)) (Kd.R_keptB ((Kd.R_apart' HO_21.out (Kd.R_typed HO_306000.out) (by decide))) hkp nf) fq2) (Kd.R_reok rfl hy0 (fun k_ e_ => HO_306000.out.1 k_ e_)) (blk_kept bk hkp (fun hs_ => (fun e_ => (R_ne HO_306000.out BK305.out (by decide)) e_) hs_)) (Kept.then_ (S := (fun k_ => P1_ k_)) (by repeat (first | (with_reducible first | exact HK.out | apply Kept.alloc | apply Kept.drewN | apply Kept.drew | refine Kept.setCell ?_ (.inr GW305.out) _) | exact HK.out)) hkp (fun k_ hs_ => (fun e_ => (HO_306000.out.1 k_ e_.symm)) hs_)) (hb); clear HO_21 HO_306000 BK305 HK HB; obtain ⟨HO_21, HO_306000, BK305, HK, HB⟩ := t_; (try clear hb); (try clear hkp); (try clear hy0))); (try simp only [← hl21_1, ← hl306000_1, ← hl306000_18])
             go_roundg kj18
             case measure => have := HK1.out; have := HJ18.out; omega
             case rel => exact ⟨(x7_18), (wrap64 (x23_1 + 1)), (t316), sd_, sd_, H', ⟨by have := HK1.out; have := HJ18.out; omega⟩, ⟨by (try simp only [hl21_1]); (try simp only [hl306000_1]); (try simp only [hl306000_18]); (with_reducible repeat (first | apply R_alloc | apply R_drewN | apply R_drew)); exact HO_21.out⟩, ⟨by (try simp only [hl21_1]); (try simp only [hl306000_1]); (try simp only [hl306000_18]); (with_reducible repeat (first | apply R_alloc | apply R_drewN | apply R_drew)); exact HO_306000.out⟩, ⟨by (try simp only [hl21_1]); (try simp only [hl306000_1]); (try simp only [hl306000_18]); exact bk⟩, ⟨by repeat (first | (with_reducible first | exact HK.out | apply Kept.alloc | apply Kept.drewN | apply Kept.drew | refine Kept.setCell ?_ (.inr GW305.out) _) | exact HK.out)⟩, ⟨bb⟩⟩
            ·replace c28 := Bool.eq_false_iff.mpr c28
             subst c28; (have H1 : (impl_allocate.l0 kj18 l0 x7_18 t309 (t306.length : Int) (wrap64 (x23_1 + 1)) x306000_18) = some r := by rw [if_neg (show ¬ (false = true) by decide)] at H; exact H); clear H; have H := H1; clear H1; have H' := Aside0.mk H; clear H; go_wp2_with (first | ((with_reducible refine gate_callee (f := 81) rfl ?_); refine goesL_ (some 47) rfl rfl Try.func81 (by kernel_rfl) rfl #[.slice A0 l0.length c0, .int .i64 (rd t309 x23_1)] rfl ms ?_; (with_reducible refine (impl_isBridge.calls _ _ l0 (rd t309 x23_1) false _ ?side1 ?side2 A27.out).mono ?_); (case side1 => exact Kd.C_kept_now HR0.out (by repeat (first | (with_reducible first | exact HK.out | apply Kept.alloc | apply Kept.drewN | apply Kept.drew | refine Kept.setCell ?_ (.inr GW305.out) _) | exact HK.out))); (case side2 => exact HC0.out); rintro e w' ⟨rfl, ⟨nd, rfl⟩⟩; refine ⟨_, rfl, ?_⟩)); (try simp only [← hl21_1, ← hl306000_1, ← hl306000_18])
             go_roundg kj18
             case measure => have := HK1.out; have := HJ18.out; omega
             case rel => exact ⟨(x7_18), (wrap64 (x23_1 + 1)), (x306000_18), sd_, sd_, H', ⟨by have := HK1.out; have := HJ18.out; omega⟩, ⟨by (try simp only [hl21_1]); (try simp only [hl306000_1]); (try simp only [hl306000_18]); (with_reducible repeat (first | apply R_alloc | apply R_drewN | apply R_drew)); exact HO_21.out⟩, ⟨by (try simp only [hl21_1]); (try simp only [hl306000_1]); (try simp only [hl306000_18]); (with_reducible repeat (first | apply R_alloc | apply R_drewN | apply R_drew)); exact HO_306000.out⟩, ⟨by (try simp only [hl21_1]); (try simp only [hl306000_1]); (try simp only [hl306000_18]); exact bk⟩, ⟨by repeat (first | (with_reducible first | exact HK.out | apply Kept.alloc | apply Kept.drewN | apply Kept.drew | refine Kept.setCell ?_ (.inr GW305.out) _) | exact HK.out)⟩, ⟨bb⟩⟩
         ·rw [if_neg c18] at H
          exact absurd H (by simp)
        ·rw [if_neg c17] at H
         exact absurd H (by simp)
       ·rw [if_neg c16] at H
        exact absurd H (by simp)
      ·rw [if_neg c15] at H
       exact absurd H (by simp)
     ·rw [if_neg c14] at H
      have c14b0 : decide (x23_1 < (t306.length : Int)) = false := decide_eq_false c14; (try (have c14h0 := c14b0; simp only [hl21_1, hl306000_1] at c14h0)); clear c14; obtain rfl := Option.some.inj H; go_wp2
      first | go_end0 | ((try simp only [Exit.inBlock, Exit.then]); refine bodyPost_ret (results_none rfl _ _ _) rfl ?_)
      exact ⟨er, (by first | exact (ra HO_306000.out) | (simp only [hl21_1, hl306000_1]; exact (ra HO_306000.out))), bb, by repeat (first | (with_reducible first | exact HK.out | apply Kept.alloc | apply Kept.drewN | apply Kept.drew | refine Kept.setCell ?_ (.inr GW305.out) _) | exact HK.out)⟩
  ·rw [if_neg c7] at H
   exact absurd H (by simp)
 ·rw [if_neg c6] at H
  exact absurd H (by simp)
end Go.Proofs.Ytbbppknnkghkjaa.PFnWindows
