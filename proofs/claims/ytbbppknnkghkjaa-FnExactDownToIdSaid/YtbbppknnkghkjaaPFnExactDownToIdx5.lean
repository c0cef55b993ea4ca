/- Printed by a program of this session out of the translation: each Go function as a Lean function, with the proof that Go comes to just its answer (no condition beyond what each theorem says). (squeezed) -/
import Derived.Test.YtbbppknnkghkjaaPFnExactDownToIdx0
import Derived.Test.YtbbppknnkghkjaaPFnExactDownToIdx2
import Derived.Test.YtbbppknnkghkjaaPFnExactDownToIdx4
namespace Go.Proofs.Ytbbppknnkghkjaa.PFnExactDownToId
open Go.RowKit Go.Proofs.YtbbppknnkghkjaaW.PrintWords Go.Proofs.YtbbppknnkghkjaaW.PrintLast Go.Proofs.YtbbppknnkghkjaaW.PrintMore Go.Proofs.Ytbbppknnkghkjaa.Kit Go.Proofs.Ytbbppknnkghkjaa.Kit2
attribute [local go_sem] max2_int min2_int max_two min_two max_three min_three max_four min_four   -- for this text's walks alone
set_option linter.unusedVariables false
set_option linter.unusedSimpArgs false

/-! ### spec_Enumerate: function 51 -/
def spec_Enumerate.l0 : Nat → List (S50) → Int → List Int → List Int → List Int → Option (List Int × List Int × List Int × Bool)
 | 0, _, _, _, _, _ => none
 | k + 1, x0, x5, x146000, x146001, x146002 => if x5 < (x0.length : Int) then (if x146000.length < 17592186044416 then (if x146001.length < 17592186044416 then (if x146002.length < 17592186044416 then (spec_Enumerate.l0 k x0 (wrap64 (x5 + 1)) (x146000 ++ [0]) (x146001 ++ [(-1)]) (x146002 ++ [(-1)])) else (none)) else (none)) else (none)) else (if 0 < (x146000.length : Int) then (if 0 < (x146001.length : Int) then ((spec_l20Visit.f k x0 (x146000.set (0 : Int).toNat (-1)) (x146001.set (0 : Int).toNat 0) x146002 0 0).bind fun bt157 => (if bt157.1 > 15 then (some (([] : List Int), ([] : List Int), ([] : List Int), false)) else (some (bt157.2.1, bt157.2.2.1, bt157.2.2.2, true)))) else (none)) else (none))
def spec_Enumerate.f (k : Nat) (l0 : List (S50)) : Option (List Int × List Int × List Int × Bool) := (spec_TreeOk.f k l0).bind fun t144 => (if t144 = true then (spec_Enumerate.l0 k l0 0 ([] : List Int) ([] : List Int) ([] : List Int)) else (some (([] : List Int), ([] : List Int), ([] : List Int), false)))
set_option maxHeartbeats 8000000 in
set_option maxRecDepth 100000 in
theorem spec_Enumerate.calls (k : Nat) (A0 : Option Addr) (c0 : Nat) (l0 : List (S50)) (r1 : List Int) (r2 : List Int) (r3 : List Int) (r4 : Bool) (w : World) (hr0 : Kd.C k50 w A0 l0.length l0) (hc0 : l0.length ≤ c0) (h : spec_Enumerate.f k l0 = some (r1, r2, r3, r4)) :
  Calls Try.prog 51 #[.slice A0 l0.length c0] w fun e w' => ∃ v0_ v1_ v2_ : Value, e = .returned (.tuple #[.agg #[v0_, v1_, v2_], .bool r4]) ∧ Kd.R (Kd.int .i64) 3 w' w.heap.size (fun k_ => some k_ ≠ (v1_ : Value).ownBlock ∧ some k_ ≠ (v2_ : Value).ownBlock) v0_ r1 ∧ Kd.R (Kd.int .i64) 3 w' w.heap.size (fun k_ => some k_ ≠ (v0_ : Value).ownBlock ∧ some k_ ≠ (v2_ : Value).ownBlock) v1_ r2 ∧ Kd.R (Kd.int .i64) 3 w' w.heap.size (fun k_ => some k_ ≠ (v0_ : Value).ownBlock ∧ some k_ ≠ (v1_ : Value).ownBlock) v2_ r3 ∧ Below w.heap.size w w' := by
 have hu31 := Try.underlying31
 have HR0 := Aside0.mk hr0
 have HC0 := Aside0.mk hc0
 clear hr0 hc0
 have HB := Aside0.mk (Below.refl w.heap.size w)
 have H : ((spec_TreeOk.f k l0).bind fun t144 => (if t144 = true then (spec_Enumerate.l0 k l0 0 ([] : List Int) ([] : List Int) ([] : List Int)) else (some (([] : List Int), ([] : List Int), ([] : List Int), false)))) = some (r1, r2, r3, r4) := h
 clear h
 replace H := Option.bind_eq_some_iff.mp H
 obtain ⟨t144, A20, H⟩ := H
 replace H : (if t144 = true then (spec_Enumerate.l0 k l0 0 ([] : List Int) ([] : List Int) ([] : List Int)) else (some (([] : List Int), ([] : List Int), ([] : List Int), false))) = some (r1, r2, r3, r4) := H
 have A2 := Aside0.mk A20
 clear A20
 by_cases c3 : t144 = true
 ·subst c3
  have H1 : (spec_Enumerate.l0 k l0 0 ([] : List Int) ([] : List Int) ([] : List Int)) = some (r1, r2, r3, r4) := by rw [if_pos rfl] at H; exact H
  clear H
  have H := H1
  clear H1
  have H' := Aside0.mk H
  clear H
  go_enter Try.func51, Try.ntmps51
  go_wp2_with (first | ((with_reducible refine gate_dst (N := 2) rfl ?_); refine box_event ?hg (N := 2) ?hd (cs := #[.slice none 0 0, .slice none 0 0, .slice none 0 0]) (t := 31) ?hr ?_; (case hd => rfl); (case hg => rfl); (case hr => first | (go_simp; done) | (go_simp; rfl)); intro gb143 hg w4 hbox hb; have t_ := fc4 (below_step bb hb) (hbox) (bg hg : w.heap.size ≤ gb143) (bg hg : w.heap.size ≤ gb143); clear HB; obtain ⟨HB, BK143, GW143, GE143⟩ := t_; clear hb hbox hg) | ((with_reducible refine gate_callee (f := 106) rfl ?_); refine goesL_ (some 7) rfl rfl Try.func106 (by kernel_rfl) rfl #[.slice A0 l0.length c0] rfl ms ?_; (with_reducible refine (spec_TreeOk.calls k _ _ l0 true _ ?side1 ?side2 A2.out).mono ?_); (case side1 => exact kc); (case side2 => exact HC0.out); rintro e w5 ⟨rfl, hb⟩; refine ⟨_, rfl, ?_⟩; have t_ := fc2 (bw BK143 hb) (below_step bb hb); clear BK143 HB; obtain ⟨BK143, HB⟩ := t_; (try clear hb); (try clear hk)) | ((with_reducible refine gate_dst (N := 4) rfl ?_); refine box_event ?hg (N := 4) ?hd (cs := #[.slice none 0 0, .slice none 0 0, .slice none 0 0]) (t := 31) ?hr ?_; (case hd => rfl); (case hg => rfl); (case hr => first | (go_simp; done) | (go_simp; rfl)); intro gb145 hg w6 hbox hb; have t_ := fc7 (bw BK143 hb) (below_step bb hb) (hbox) (bg hg : w.heap.size ≤ gb145) (bg hg : w.heap.size ≤ gb145) ((nl BK143 hg : gb143 ≠ gb145)) ((ng BK143 hg : gb145 ≠ gb143)); clear BK143 HB; obtain ⟨BK143, HB, BK145, GW145, GE145, NB143_145, NB145_143⟩ := t_; clear hb hbox hg; have hnb7 := NB145_143.out; have hnc7 := NB143_145.out; obtain ⟨hcz8_0, hcz8_1, hcz8_2, hfz8_0, hfz8_1, hfz8_2⟩ := bx3 BK145.out))
  go_loopg [5] k (fun kq v5 w' => ∃ (x5_1 : Int) (x146000_1 : List Int) (x146001_1 : List Int) (x146002_1 : List Int) (u146000 : Value) (u146001 : Value) (u146002 : Value), v5 = .int .i64 x5_1 ∧ Aside0 (spec_Enumerate.l0 kq l0 x5_1 x146000_1 x146001_1 x146002_1 = some (r1, r2, r3, r4)) ∧ Aside0 (kq ≤ k) ∧ Aside0 (Kd.R (Kd.int .i64) 3 w' w.heap.size (fun k_ => some k_ ≠ (u146001 : Value).ownBlock ∧ some k_ ≠ (u146002 : Value).ownBlock) u146000 x146000_1) ∧ Aside0 (Kd.R (Kd.int .i64) 3 w' w.heap.size (fun k_ => some k_ ≠ (u146000 : Value).ownBlock ∧ some k_ ≠ (u146002 : Value).ownBlock) u146001 x146001_1) ∧ Aside0 (Kd.R (Kd.int .i64) 3 w' w.heap.size (fun k_ => some k_ ≠ (u146000 : Value).ownBlock ∧ some k_ ≠ (u146001 : Value).ownBlock) u146002 x146002_1) ∧ Aside0 (w'.heap[gb143]? = some (.cells #[(.slice none 0 0), (.slice none 0 0), (.slice none 0 0)] 31 (0, 0))) ∧ Aside0 (w'.heap[gb145]? = some (.cells #[u146000, u146001, u146002] 31 (0, 0))) ∧ Aside0 (Below w.heap.size w w'))
  case atStart => exact ⟨(0), (([] : List Int)), (([] : List Int)), (([] : List Int)), (.slice none 0 0), (.slice none 0 0), (.slice none 0 0), (by first | rfl | (simp; done) | (simp [*]; done)), H', ⟨Nat.le_refl _⟩, ⟨by first | exact Kd.R_nil _ _ _ _ _ | exact Kd.N_nil _ _ _ _ _ | exact Kd.V_nil _ _ _ _ _ | exact Kd.Q_nil _ _ _ _ _ | exact Kd.S_nil _ _ _ _ _⟩, ⟨by first | exact Kd.R_nil _ _ _ _ _ | exact Kd.N_nil _ _ _ _ _ | exact Kd.V_nil _ _ _ _ _ | exact Kd.Q_nil _ _ _ _ _ | exact Kd.S_nil _ _ _ _ _⟩, ⟨by first | exact Kd.R_nil _ _ _ _ _ | exact Kd.N_nil _ _ _ _ _ | exact Kd.V_nil _ _ _ _ _ | exact Kd.Q_nil _ _ _ _ _ | exact Kd.S_nil _ _ _ _ _⟩, ⟨by (with_reducible repeat (first | refine blk_drewN ?_ _ | refine blk_drew ?_ | refine blk_alloc ?_ _)); refine blk_far ?_ NB143_145.out _; (with_reducible repeat (first | refine blk_drewN ?_ _ | refine blk_drew ?_ | refine blk_alloc ?_ _)); refine blk_far ?_ NB143_145.out _; (with_reducible repeat (first | refine blk_drewN ?_ _ | refine blk_drew ?_ | refine blk_alloc ?_ _)); refine blk_far ?_ NB143_145.out _; exact bk⟩, ⟨by (with_reducible repeat (first | refine blk_drewN ?_ _ | refine blk_drew ?_ | refine blk_alloc ?_ _)); refine blk_put (cs := #[.slice none 0 0, .slice none 0 0, .slice none 0 0]) ?_ 2 _ rfl; (with_reducible repeat (first | refine blk_drewN ?_ _ | refine blk_drew ?_ | refine blk_alloc ?_ _)); refine blk_put (cs := #[.slice none 0 0, .slice none 0 0, .slice none 0 0]) ?_ 1 _ rfl; (with_reducible repeat (first | refine blk_drewN ?_ _ | refine blk_drew ?_ | refine blk_alloc ?_ _)); refine blk_put (cs := #[.slice none 0 0, .slice none 0 0, .slice none 0 0]) ?_ 0 _ rfl; exact bk⟩, ⟨bb⟩⟩
  case round =>
   clear H'
   try clear c1
   try clear p2
   try clear c3
   try clear c5
   try clear c7
   try clear hcz8_0
   try clear hcz8_1
   try clear hcz8_2
   try clear hfz8_0
   try clear hfz8_1
   try clear hfz8_2
   obtain ⟨x5_1, x146000_1, x146001_1, x146002_1, u146000, u146001, u146002, rfl, HA, HK1, HO_146000, HO_146001, HO_146002, BK143, BK145, HB⟩ := hrel
   cases gk with
   | zero => exact absurd HA.out (by simp [spec_Enumerate.l0])
   | succ k1 =>
    have H := HA.out
    clear HA
    simp only [spec_Enumerate.l0] at H
    by_cases c9 : x5_1 < (l0.length : Int)
    ·rw [if_pos c9] at H
     have c9b0 : decide (x5_1 < (l0.length : Int)) = true := decide_eq_true c9
     clear c9
     by_cases c10 : x146000_1.length < 17592186044416
     ·rw [if_pos c10] at H
      have LMc10 := Aside0.mk c10
      clear c10
      obtain ⟨y146, hy146⟩ : ∃ y_ : List Int, y_ = (x146000_1 ++ [0]) := ⟨_, rfl⟩
      replace H : (if x146001_1.length < 17592186044416 then (if x146002_1.length < 17592186044416 then (spec_Enumerate.l0 k1 l0 (wrap64 (x5_1 + 1)) y146 (x146001_1 ++ [(-1)]) (x146002_1 ++ [(-1)])) else (none)) else (none)) = some (r1, r2, r3, r4) := by first | (rw [hy146]; with_reducible exact H) | (have H2_ := (Option.bind_some _ _).symm.trans H; rw [hy146]; with_reducible exact H2_) | (have H2_ := (Option.bind_some _ _).symm.trans H; with_reducible exact H2_) | with_reducible exact H | (rw [hy146]; exact H) | exact H
      have Ny146 := Aside0.mk hy146
      clear hy146
      by_cases c11 : x146001_1.length < 17592186044416
      ·rw [if_pos c11] at H
       have LMc11 := Aside0.mk c11
       clear c11
       obtain ⟨y149, hy149⟩ : ∃ y_ : List Int, y_ = (x146001_1 ++ [(-1)]) := ⟨_, rfl⟩
       replace H : (if x146002_1.length < 17592186044416 then (spec_Enumerate.l0 k1 l0 (wrap64 (x5_1 + 1)) y146 y149 (x146002_1 ++ [(-1)])) else (none)) = some (r1, r2, r3, r4) := by first | (rw [hy149]; with_reducible exact H) | (have H2_ := (Option.bind_some _ _).symm.trans H; rw [hy149]; with_reducible exact H2_) | (have H2_ := (Option.bind_some _ _).symm.trans H; with_reducible exact H2_) | with_reducible exact H | (rw [hy149]; exact H) | exact H
       have Ny149 := Aside0.mk hy149
       clear hy149
       by_cases c12 : x146002_1.length < 17592186044416
       ·rw [if_pos c12] at H
        have LMc12 := Aside0.mk c12
        clear c12
        obtain ⟨y152, hy152⟩ : ∃ y_ : List Int, y_ = (x146002_1 ++ [(-1)]) := ⟨_, rfl⟩
        replace H : (spec_Enumerate.l0 k1 l0 (wrap64 (x5_1 + 1)) y146 y149 y152) = some (r1, r2, r3, r4) := by first | (rw [hy152]; with_reducible exact H) | (have H2_ := (Option.bind_some _ _).symm.trans H; rw [hy152]; with_reducible exact H2_) | (have H2_ := (Option.bind_some _ _).symm.trans H; with_reducible exact H2_) | with_reducible exact H | (rw [hy152]; exact H) | exact H
        have Ny152 := Aside0.mk hy152
        clear hy152
        have H' := Aside0.mk H
        clear H
        have hnb13 := NB145_143.out
        have hnc13 := NB143_145.out
        obtain ⟨hcz14_0, hcz14_1, hcz14_2, hfz14_0, hfz14_1, hfz14_2⟩ := bx3 BK145.out
        go_wp2_with (first | ((with_reducible refine gate_builtin (b := .append) (xs := #[.tmp 18, .tmp 19]) rfl ?_); at_builtin; refine Kd.R_append (Kd.int .i64) (w0 := w) w.heap.size rfl (.tmp 18) (.tmp 19) 23 3 (.int .i64 0) 8 rfl Try.underlying23 info3 rfl (by decide) (by omega) u146000 x146000_1 0 [.int .i64 0] (fun k_ => some k_ ≠ (u146001 : Value).ownBlock ∧ some k_ ≠ (u146002 : Value).ownBlock) (fun _ => False) rfl rfl ?aP (fun _ hk => hk.elim) ?aF ?aO ?aB ?aS ?aL ?_; (case aP => exact rfl); (case aB => exact bb); (case aF => exact (fun k_ hk => ⟨Kd.fresh' (Kd.R_lt (ra HO_146001.out)) k_ hk, Kd.fresh' (Kd.R_lt (ra HO_146002.out)) k_ hk⟩)); (case aO => exact (ra HO_146000.out)); (case aS => exact (below_size bb)); (case aL => have := LMc10.out; omega); intro v147 w15 ho hb hg hat; rw [← Ny146.out] at ho; have t_ := fc6 (Kd.R_after (ok := (fun k_ => some k_ ≠ (u146002 : Value).ownBlock)) (ra (Kd.R_mono HO_146001.out (fun _ hk => (And.intro (hk.2) (hk.1))))) hg hat) (Kd.R_after (ok := (fun k_ => some k_ ≠ (u146001 : Value).ownBlock)) (ra (Kd.R_mono HO_146002.out (fun _ hk => (And.intro (hk.2) (hk.1))))) hg hat) (blk_grown (g := gb143) (o := .cells #[.slice none 0 0, .slice none 0 0, .slice none 0 0] 31 (0, 0)) bk hg (Kd.R_ne HO_146000.out BK143.out (by decide))) (blk_grown (g := gb145) (o := .cells #[u146000, u146001, u146002] 31 (0, 0)) bk hg (Kd.R_ne HO_146000.out BK145.out (by decide))) (hb) (ho); clear HO_146001 HO_146002 BK143 BK145 HB HO_146000; obtain ⟨HO_146001, HO_146002, BK143, BK145, HB, HO148⟩ := t_; clear ho hb hg hat; obtain ⟨Ao16, co16, eo16⟩ := Kd.R_slice HO148.out; subst eo16; obtain ⟨hcz17_0, hcz17_1, hcz17_2, hfz17_0, hfz17_1, hfz17_2⟩ := bx3 BK145.out) | ((with_reducible refine gate_builtin (b := .append) (xs := #[.tmp 23, .tmp 24]) rfl ?_); at_builtin; refine Kd.R_append (Kd.int .i64) (w0 := w) w.heap.size rfl (.tmp 23) (.tmp 24) 23 3 (.int .i64 0) 8 rfl Try.underlying23 info3 rfl (by decide) (by omega) u146001 x146001_1 (-1) [.int .i64 (-1)] (fun k_ => some k_ ≠ (u146002 : Value).ownBlock ∧ some k_ ≠ (.slice Ao16 y146.length co16 : Value).ownBlock) (fun _ => False) rfl (by first | (go_simp; done) | (go_simp; rfl)) ?aP (fun _ hk => hk.elim) ?aF ?aO ?aB ?aS ?aL ?_; (case aP => exact rfl); (case aB => exact bb); (case aF => exact (fun k_ hk => ⟨Kd.fresh' (Kd.R_lt (ra (Kd.R_mono (Kd.R_far (p := ⟨gb145, 0, none⟩) (Kd.R_types HO_146002.out BK145.out (by decide)) fk (.slice Ao16 y146.length co16)) (fun _ h_ => h_.1)))) k_ hk, Kd.fresh' (Kd.R_lt (ra (Kd.R_mono (Kd.R_far (p := ⟨gb145, 0, none⟩) (Kd.R_types HO148.out BK145.out (by decide)) fk (.slice Ao16 y146.length co16)) (fun _ h_ => h_.1)))) k_ hk⟩)); (case aO => exact (ra (Kd.R_mono (Kd.R_far (p := ⟨gb145, 0, none⟩) (Kd.R_types HO_146001.out BK145.out (by decide)) fk (.slice Ao16 y146.length co16)) (fun _ hk => (And.intro (hk.1.1) (hk.1.2)))))); (case aS => exact (below_size bb)); (case aL => have := LMc11.out; omega); intro v150 w18 ho hb hg hat; rw [← Ny149.out] at ho; have t_ := fc6 (Kd.R_after (ok := (fun k_ => some k_ ≠ (.slice Ao16 y146.length co16 : Value).ownBlock)) (ra (Kd.R_mono (Kd.R_far (p := ⟨gb145, 0, none⟩) (Kd.R_types HO_146002.out BK145.out (by decide)) fk (.slice Ao16 y146.length co16)) (fun _ hk => (And.intro (hk.1.2) (hk.1.1))))) hg hat) (blk_grown (g := gb143) (o := .cells #[.slice none 0 0, .slice none 0 0, .slice none 0 0] 31 (0, 0)) (by (with_reducible repeat (first | refine blk_drewN ?_ _ | refine blk_drew ?_ | refine blk_alloc ?_ _)); refine blk_far ?_ NB143_145.out _; exact bk) hg (Kd.R_ne HO_146001.out BK143.out (by decide))) (blk_grown (g := gb145) (o := .cells #[.slice Ao16 y146.length co16, u146001, u146002] 31 (0, 0)) (by (with_reducible repeat (first | refine blk_drewN ?_ _ | refine blk_drew ?_ | refine blk_alloc ?_ _)); refine blk_put (cs := #[u146000, u146001, u146002]) ?_ 0 _ rfl; exact bk) hg (Kd.R_ne HO_146001.out BK145.out (by decide))) (Kd.R_after (ok := (fun k_ => some k_ ≠ (u146002 : Value).ownBlock)) (ra (Kd.R_mono (Kd.R_far (p := ⟨gb145, 0, none⟩) (Kd.R_types HO148.out BK145.out (by decide)) fk (.slice Ao16 y146.length co16)) (fun _ hk => (And.intro (hk.1.2) (hk.1.1))))) hg hat) (hb) (ho); clear HO_146002 BK143 BK145 HO148 HB HO_146001; obtain ⟨HO_146002, BK143, BK145, HO148, HB, HO151⟩ := t_; clear ho hb hg hat; obtain ⟨Ao19, co19, eo19⟩ := Kd.R_slice HO151.out; subst eo19; obtain ⟨hcz20_0, hcz20_1, hcz20_2, hfz20_0, hfz20_1, hfz20_2⟩ := bx3 BK145.out) | ((with_reducible refine gate_builtin (b := .append) (xs := #[.tmp 28, .tmp 29]) rfl ?_); at_builtin; refine Kd.R_append (Kd.int .i64) (w0 := w) w.heap.size rfl (.tmp 28) (.tmp 29) 23 3 (.int .i64 0) 8 rfl Try.underlying23 info3 rfl (by decide) (by omega) u146002 x146002_1 (-1) [.int .i64 (-1)] (fun k_ => some k_ ≠ (.slice Ao16 y146.length co16 : Value).ownBlock ∧ some k_ ≠ (.slice Ao19 y149.length co19 : Value).ownBlock) (fun _ => False) rfl (by first | (go_simp; done) | (go_simp; rfl)) ?aP (fun _ hk => hk.elim) ?aF ?aO ?aB ?aS ?aL ?_; (case aP => exact rfl); (case aB => exact bb); (case aF => exact (fun k_ hk => ⟨Kd.fresh' (Kd.R_lt (ra (Kd.R_mono (Kd.R_far (p := ⟨gb145, 1, none⟩) (Kd.R_types HO148.out BK145.out (by decide)) fk (.slice Ao19 y149.length co19)) (fun _ h_ => h_.1)))) k_ hk, Kd.fresh' (Kd.R_lt (ra (Kd.R_mono (Kd.R_far (p := ⟨gb145, 1, none⟩) (Kd.R_types HO151.out BK145.out (by decide)) fk (.slice Ao19 y149.length co19)) (fun _ h_ => h_.1)))) k_ hk⟩)); (case aO => exact (ra (Kd.R_mono (Kd.R_far (p := ⟨gb145, 1, none⟩) (Kd.R_types HO_146002.out BK145.out (by decide)) fk (.slice Ao19 y149.length co19)) (fun _ hk => (And.intro (hk.1.1) (hk.1.2)))))); (case aS => exact (below_size bb)); (case aL => have := LMc12.out; omega); intro v153 w21 ho hb hg hat; rw [← Ny152.out] at ho; have t_ := fc6 (blk_grown (g := gb143) (o := .cells #[.slice none 0 0, .slice none 0 0, .slice none 0 0] 31 (0, 0)) (by (with_reducible repeat (first | refine blk_drewN ?_ _ | refine blk_drew ?_ | refine blk_alloc ?_ _)); refine blk_far ?_ NB143_145.out _; exact bk) hg (Kd.R_ne HO_146002.out BK143.out (by decide))) (blk_grown (g := gb145) (o := .cells #[.slice Ao16 y146.length co16, .slice Ao19 y149.length co19, u146002] 31 (0, 0)) (by (with_reducible repeat (first | refine blk_drewN ?_ _ | refine blk_drew ?_ | refine blk_alloc ?_ _)); refine blk_put (cs := #[.slice Ao16 y146.length co16, u146001, u146002]) ?_ 1 _ rfl; exact bk) hg (Kd.R_ne HO_146002.out BK145.out (by decide))) (Kd.R_after (ok := (fun k_ => some k_ ≠ (.slice Ao19 y149.length co19 : Value).ownBlock)) (ra (Kd.R_mono (Kd.R_far (p := ⟨gb145, 1, none⟩) (Kd.R_types HO148.out BK145.out (by decide)) fk (.slice Ao19 y149.length co19)) (fun _ hk => (And.intro (hk.1.2) (hk.1.1))))) hg hat) (Kd.R_after (ok := (fun k_ => some k_ ≠ (.slice Ao16 y146.length co16 : Value).ownBlock)) (ra (Kd.R_mono (Kd.R_far (p := ⟨gb145, 1, none⟩) (Kd.R_types HO151.out BK145.out (by decide)) fk (.slice Ao19 y149.length co19)) (fun _ hk => (And.intro (hk.1.2) (hk.1.1))))) hg hat) (hb) (ho); clear BK143 BK145 HO148 HO151 HB HO_146002; obtain ⟨BK143, BK145, HO148, HO151, HB, HO154⟩ := t_; clear ho hb hg hat; obtain ⟨Ao22, co22, eo22⟩ := Kd.R_slice HO154.out; subst eo22; obtain ⟨hcz23_0, hcz23_1, hcz23_2, hfz23_0, hfz23_1, hfz23_2⟩ := bx3 BK145.out))
        go_roundg k1
        case measure => have := HK1.out; omega
        case rel => exact ⟨(wrap64 (x5_1 + 1)), (y146), (y149), (y152), (.slice Ao16 y146.length co16), (.slice Ao19 y149.length co19), (.slice Ao22 y152.length co22), (by first | rfl | (simp; done) | (simp [*]; done)), H', ⟨by have := HK1.out; omega⟩, ⟨by (with_reducible repeat (first | apply Kd.R_alloc | apply Kd.R_drewN | apply Kd.R_drew)); exact Kd.R_mono (Kd.R_far (p := ⟨gb145, 2, none⟩) (Kd.R_types HO148.out BK145.out (by decide)) fk (.slice Ao22 y152.length co22)) (fun _ hk => (And.intro (hk.1.1) (hk.1.2)))⟩, ⟨by (with_reducible repeat (first | apply Kd.R_alloc | apply Kd.R_drewN | apply Kd.R_drew)); exact Kd.R_mono (Kd.R_far (p := ⟨gb145, 2, none⟩) (Kd.R_types HO151.out BK145.out (by decide)) fk (.slice Ao22 y152.length co22)) (fun _ hk => (And.intro (hk.1.1) (hk.1.2)))⟩, ⟨by (with_reducible repeat (first | apply Kd.R_alloc | apply Kd.R_drewN | apply Kd.R_drew)); exact Kd.R_mono (Kd.R_far (p := ⟨gb145, 2, none⟩) (Kd.R_types HO154.out BK145.out (by decide)) fk (.slice Ao22 y152.length co22)) (fun _ hk => (And.intro (hk.1.1) (hk.1.2)))⟩, ⟨by (with_reducible repeat (first | refine blk_drewN ?_ _ | refine blk_drew ?_ | refine blk_alloc ?_ _)); refine blk_far ?_ NB143_145.out _; exact bk⟩, ⟨by (with_reducible repeat (first | refine blk_drewN ?_ _ | refine blk_drew ?_ | refine blk_alloc ?_ _)); refine blk_put (cs := #[.slice Ao16 y146.length co16, .slice Ao19 y149.length co19, u146002]) ?_ 2 _ rfl; exact bk⟩, ⟨bb⟩⟩
       ·rw [if_neg c12] at H
        exact absurd H (by simp)
      ·rw [if_neg c11] at H
       exact absurd H (by simp)
     ·rw [if_neg c10] at H
      exact absurd H (by simp)
    ·rw [if_neg c9] at H
     have c9b0 : decide (x5_1 < (l0.length : Int)) = false := decide_eq_false c9
     clear c9
     by_cases c24 : 0 < (x146000_1.length : Int)
     ·rw [if_pos c24] at H
      have c24b0 : decide (0 < (x146000_1.length : Int)) = true := decide_eq_true c24
      have c24b1 : decide (0 < x146000_1.length) = true := decide_eq_true (by omega)
      clear c24
      obtain ⟨y155, hy155⟩ : ∃ y_ : List Int, y_ = (x146000_1.set (0 : Int).toNat (-1)) := ⟨_, rfl⟩
      replace H : (if 0 < (x146001_1.length : Int) then ((spec_l20Visit.f k1 l0 y155 (x146001_1.set (0 : Int).toNat 0) x146002_1 0 0).bind fun bt157 => (if bt157.1 > 15 then (some (([] : List Int), ([] : List Int), ([] : List Int), false)) else (some (bt157.2.1, bt157.2.2.1, bt157.2.2.2, true)))) else (none)) = some (r1, r2, r3, r4) := by first | (rw [hy155]; with_reducible exact H) | (have H2_ := (Option.bind_some _ _).symm.trans H; rw [hy155]; with_reducible exact H2_) | (have H2_ := (Option.bind_some _ _).symm.trans H; with_reducible exact H2_) | with_reducible exact H | (rw [hy155]; exact H) | exact H
      have Ny155 := Aside0.mk hy155
      clear hy155
      by_cases c26 : 0 < (x146001_1.length : Int)
      ·rw [if_pos c26] at H
       have c26b0 : decide (0 < (x146001_1.length : Int)) = true := decide_eq_true c26
       have c26b1 : decide (0 < x146001_1.length) = true := decide_eq_true (by omega)
       clear c26
       obtain ⟨y156, hy156⟩ : ∃ y_ : List Int, y_ = (x146001_1.set (0 : Int).toNat 0) := ⟨_, rfl⟩
       replace H : ((spec_l20Visit.f k1 l0 y155 y156 x146002_1 0 0).bind fun bt157 => (if bt157.1 > 15 then (some (([] : List Int), ([] : List Int), ([] : List Int), false)) else (some (bt157.2.1, bt157.2.2.1, bt157.2.2.2, true)))) = some (r1, r2, r3, r4) := by first | (rw [hy156]; with_reducible exact H) | (have H2_ := (Option.bind_some _ _).symm.trans H; rw [hy156]; with_reducible exact H2_) | (have H2_ := (Option.bind_some _ _).symm.trans H; with_reducible exact H2_) | with_reducible exact H | (rw [hy156]; exact H) | exact H
       have Ny156 := Aside0.mk hy156
       clear hy156
       replace H := Option.bind_eq_some_iff.mp H
       obtain ⟨⟨t157, t158, t159, t160⟩, A280, H⟩ := H
       replace H : (if t157 > 15 then (some (([] : List Int), ([] : List Int), ([] : List Int), false)) else (some (t158, t159, t160, true))) = some (r1, r2, r3, r4) := H
       have A28 := Aside0.mk A280
       clear A280
       by_cases c29 : t157 > 15
       ·rw [if_pos c29] at H
        have c29b0 : decide (15 < t157) = true := decide_eq_true c29
        clear c29
        simp only [Option.some.injEq, Prod.mk.injEq] at H
        obtain ⟨rfl, rfl, rfl, rfl⟩ := H
        have hnb30 := NB145_143.out
        have hnc30 := NB143_145.out
        obtain ⟨hcz31_0, hcz31_1, hcz31_2, hfz31_0, hfz31_1, hfz31_2⟩ := bx3 BK145.out
        have p25 : 0 ≤ (0 : Int) := (by omega)
        have q25 : (0 : Int) < ((x146000_1.length : Int) : Int) := of_decide_eq_true as_
        have qi25 : (0 < x146000_1.length) = True := eq_true (by omega)
        obtain ⟨go25, co25, eo25, gb25, gl25, cl25, HG25⟩ := Kd.R_form HO_146000.out (by omega)
        (first | cases eo25 | (injection eo25 with ea_ en_ ec_; (first | subst ea_ | (injection ea_ with ea_; subst ea_)); subst ec_; clear en_))
        have GB25 := Aside0.mk gb25
        have GG25 := Aside0.mk HG25
        clear gb25 gl25 HG25
        obtain ⟨hx25_0, hf25_0⟩ := Kd.R_celln 0 HO_146000.out (0 : Int) p25 q25
        (try rw [show ((0 : Int)).toNat = 0 from rfl] at hx25_0)
        (try simp only [Nat.reduceMul, Nat.zero_mul, Nat.zero_add, Nat.reduceAdd] at hx25_0)
        (try rw [show ((0 : Int)).toNat = 0 from rfl] at hf25_0)
        (try simp only [Nat.reduceMul, Nat.zero_mul, Nat.zero_add, Nat.reduceAdd] at hf25_0)
        replace p25 := eq_true p25
        replace q25 := eq_true q25
        have HP32 := Kd.R_putg HO_146000.out (0 : Int) (-1)
        go_wp2_with (first | ((with_reducible refine gate_store (t := 3) (p := 34) rfl ?_); refine store_event (t := 3) (p := 34) (v := ?vo_w33) (w1 := (wr.setCell ⟨go25, (0 : Int).toNat, none⟩ (.int .i64 (-1)))) ?hg ?ho ?hn ?hr ?_; (case ho => rfl); (case hg => rfl); (case hn => rfl); (case hr => first | (go_simp; done) | (go_simp; rfl)); intro w33 hw; have hg : wr.grownBy w33 (some go25) := (by rw [hw]; exact HP32.2); have hp_ : Kd.R (Kd.int .i64) 3 w33 w.heap.size (fun k_ => some k_ ≠ (u146001 : Value).ownBlock ∧ some k_ ≠ (u146002 : Value).ownBlock) (.slice (some ⟨go25, 0, none⟩) x146000_1.length co25) y155 := (by rw [hw, Ny155.out]; exact HP32.1); clear HP32; have t_ := fc6 (hp_) (Kd.R_after (v := (.slice (some ⟨go25, 0, none⟩) x146000_1.length co25)) (v1 := (.slice (some ⟨go25, 0, none⟩) x146000_1.length co25)) (ok := (fun k_ => some k_ ≠ (u146002 : Value).ownBlock)) (ra (Kd.R_mono HO_146001.out (fun _ hk => (And.intro (hk.2) (hk.1))))) hg (.inl rfl)) (Kd.R_after (v := (.slice (some ⟨go25, 0, none⟩) x146000_1.length co25)) (v1 := (.slice (some ⟨go25, 0, none⟩) x146000_1.length co25)) (ok := (fun k_ => some k_ ≠ (u146001 : Value).ownBlock)) (ra (Kd.R_mono HO_146002.out (fun _ hk => (And.intro (hk.2) (hk.1))))) hg (.inl rfl)) (blk_grown (g := gb143) (o := .cells #[.slice none 0 0, .slice none 0 0, .slice none 0 0] 31 (0, 0)) bk hg (Kd.R_ne HO_146000.out BK143.out (by decide))) (blk_grown (g := gb145) (o := .cells #[.slice (some ⟨go25, 0, none⟩) x146000_1.length co25, u146001, u146002] 31 (0, 0)) bk hg (Kd.R_ne HO_146000.out BK145.out (by decide))) ((by rw [hw]; exact below_set (HB.out) GB25.out : Below w.heap.size w w33)); clear HO_146000 HO_146001 HO_146002 BK143 BK145 HB; obtain ⟨HO_146000, HO_146001, HO_146002, BK143, BK145, HB⟩ := t_; clear hg hw hp_; obtain ⟨hcz34_0, hcz34_1, hcz34_2, hfz34_0, hfz34_1, hfz34_2⟩ := bx3 BK145.out; have p27 : 0 ≤ (0 : Int) := (by omega); have q27 : (0 : Int) < ((x146001_1.length : Int) : Int) := of_decide_eq_true as_; have qi27 : (0 < x146001_1.length) = True := eq_true (by omega); obtain ⟨go27, co27, eo27, gb27, gl27, cl27, HG27⟩ := Kd.R_form HO_146001.out (by omega); (first | cases eo27 | (injection eo27 with ea_ en_ ec_; (first | subst ea_ | (injection ea_ with ea_; subst ea_)); subst ec_; clear en_)); have GB27 := Aside0.mk gb27; have GG27 := Aside0.mk HG27; clear gb27 gl27 HG27; obtain ⟨hx27_0, hf27_0⟩ := Kd.R_celln 0 HO_146001.out (0 : Int) p27 q27; (try rw [show ((0 : Int)).toNat = 0 from rfl] at hx27_0); (try simp only [Nat.reduceMul, Nat.zero_mul, Nat.zero_add, Nat.reduceAdd] at hx27_0); (try rw [show ((0 : Int)).toNat = 0 from rfl] at hf27_0); (try simp only [Nat.reduceMul, Nat.zero_mul, Nat.zero_add, Nat.reduceAdd] at hf27_0); replace p27 := eq_true p27; replace q27 := eq_true q27; obtain ⟨hy35_, hz35_⟩ := Kd.R_celln 0 HO_146001.out (0 : Int) (by omega) (of_decide_eq_true as_); (try simp only [Int.reduceToNat, Int.toNat_zero, Int.toNat_ofNat, Nat.reduceMul, Nat.zero_mul, Nat.zero_add] at hy35_ hz35_); (try rw [show ((0 : Int)).toNat = 0 from rfl] at hy35_); (try rw [show ((0 : Int)).toNat = 0 from rfl] at hz35_); have HP35 := Kd.R_putg HO_146001.out (0 : Int) 0) | ((with_reducible refine gate_store (t := 3) (p := 37) rfl ?_); refine store_event (t := 3) (p := 37) (v := ?vo_w36) (w1 := (w33.setCell ⟨go27, (0 : Int).toNat, none⟩ (.int .i64 0))) ?hg ?ho ?hn ?hr ?_; (case ho => rfl); (case hg => rfl); (case hn => rfl); (case hr => first | (go_simp; done) | (go_simp; rfl)); intro w36 hw; have hg : w33.grownBy w36 (some go27) := (by rw [hw]; exact HP35.2); have hp_ : Kd.R (Kd.int .i64) 3 w36 w.heap.size (fun k_ => some k_ ≠ (u146002 : Value).ownBlock ∧ some k_ ≠ (.slice (some ⟨go25, 0, none⟩) x146000_1.length co25 : Value).ownBlock) (.slice (some ⟨go27, 0, none⟩) x146001_1.length co27) y156 := (by rw [hw, Ny156.out]; exact HP35.1); clear HP35; have t_ := fc6 (Kd.R_after (v := (.slice (some ⟨go27, 0, none⟩) x146001_1.length co27)) (v1 := (.slice (some ⟨go27, 0, none⟩) x146001_1.length co27)) (ok := (fun k_ => some k_ ≠ (u146002 : Value).ownBlock)) (ra (Kd.R_mono HO_146000.out (fun _ hk => (And.intro (hk.2) (hk.1))))) hg (.inl rfl)) (hp_) (Kd.R_after (v := (.slice (some ⟨go27, 0, none⟩) x146001_1.length co27)) (v1 := (.slice (some ⟨go27, 0, none⟩) x146001_1.length co27)) (ok := (fun k_ => some k_ ≠ (.slice (some ⟨go25, 0, none⟩) x146000_1.length co25 : Value).ownBlock)) (ra (Kd.R_mono HO_146002.out (fun _ hk => (And.intro (hk.2) (hk.1))))) hg (.inl rfl)) (blk_grown (g := gb143) (o := .cells #[.slice none 0 0, .slice none 0 0, .slice none 0 0] 31 (0, 0)) bk hg (Kd.R_ne HO_146001.out BK143.out (by decide))) (blk_grown (g := gb145) (o := .cells #[.slice (some ⟨go25, 0, none⟩) x146000_1.length co25, .slice (some ⟨go27, 0, none⟩) x146001_1.length co27, u146002] 31 (0, 0)) bk hg (Kd.R_ne HO_146001.out BK145.out (by decide))) ((by rw [hw]; exact below_set (HB.out) GB27.out : Below w.heap.size w w36)); clear HO_146000 HO_146001 HO_146002 BK143 BK145 HB; obtain ⟨HO_146000, HO_146001, HO_146002, BK143, BK145, HB⟩ := t_; clear hg hw hp_; obtain ⟨hcz37_0, hcz37_1, hcz37_2, hfz37_0, hfz37_1, hfz37_2⟩ := bx3 BK145.out; obtain ⟨Ao38, co38, eo38⟩ := Kd.R_slice HO_146002.out; subst eo38) | ((with_reducible refine gate_callee (f := 107) rfl ?_); refine goesL_ (some 40) rfl rfl Try.func107 (by kernel_rfl) rfl #[.slice A0 l0.length c0, .agg #[.slice (some ⟨go25, 0, none⟩) x146000_1.length co25, .slice (some ⟨go27, 0, none⟩) x146001_1.length co27, .slice Ao38 x146002_1.length co38], .int .i64 0, .int .i64 0] rfl ms ?_; (with_reducible refine (spec_l20Visit.calls k1 _ _ l0 (fun k_ => some k_ = (.slice (some ⟨go25, 0, none⟩) x146000_1.length co25 : Value).ownBlock) (.slice (some ⟨go25, 0, none⟩) x146000_1.length co25) y155 (fun k_ => some k_ = (.slice (some ⟨go27, 0, none⟩) x146001_1.length co27 : Value).ownBlock) (.slice (some ⟨go27, 0, none⟩) x146001_1.length co27) y156 (fun k_ => some k_ = (.slice Ao38 x146002_1.length co38 : Value).ownBlock) (.slice Ao38 x146002_1.length co38) x146002_1 0 0 t157 t158 t159 t160 w _ ?side1 ?side2 ?side3 ?side4 ?side5 ?side6 ?side7 ?side8 ?side9 ?side10 ?side11 ?side12 A28.out).mono ?_); (case side1 => exact bb); (case side2 => exact Kd.C_kept_came k50_heap HR0.out bb (fun k_ hs_ => Or.elim hs_ (fun e_ => (fun e_ => Kd.R_base HO_146000.out k_ e_.symm) e_) (fun e_ => Or.elim e_ (fun e_ => (fun e_ => Kd.R_base HO_146001.out k_ e_.symm) e_) (fun e_ => (fun e_ => Kd.R_base HO_146002.out k_ e_.symm) e_)))); (case side3 => exact HC0.out); (case side4 => exact Kd.R_tight rfl HO_146000.out); (case side5 => exact fun k_ e_ => (HO_146000.out.1 k_ e_.symm).2); (case side6 => exact fun k_ e_ => (HO_146000.out.1 k_ e_.symm).1); (case side7 => exact Kd.R_tight rfl HO_146001.out); (case side8 => exact fun k_ e_ => (HO_146001.out.1 k_ e_.symm).2); (case side9 => exact fun k_ e_ => (HO_146001.out.1 k_ e_.symm).1); (case side10 => exact Kd.R_tight rfl HO_146002.out); (case side11 => exact fun k_ e_ => (HO_146002.out.1 k_ e_.symm).1); (case side12 => exact fun k_ e_ => (HO_146002.out.1 k_ e_.symm).2); rintro e w39 ⟨rfl, hy0, hy1, hy2, hb, hkp⟩; refine ⟨_, rfl, ?_⟩; have t_ := fc6 (Kd.R_reok rfl hy0 (fun k_ e_ => HO_146000.out.1 k_ e_)) (Kd.R_reok rfl hy1 (fun k_ e_ => HO_146001.out.1 k_ e_)) (Kd.R_reok rfl hy2 (fun k_ e_ => HO_146002.out.1 k_ e_)) (blk_kept bk hkp (fun hs_ => Or.elim hs_ (fun e_ => (fun e_ => (Kd.R_ne HO_146000.out BK143.out (by decide)) e_) e_) (fun e_ => Or.elim e_ (fun e_ => (fun e_ => (Kd.R_ne HO_146001.out BK143.out (by decide)) e_) e_) (fun e_ => (fun e_ => (Kd.R_ne HO_146002.out BK143.out (by decide)) e_) e_)))) (blk_kept bk hkp (fun hs_ => Or.elim hs_ (fun e_ => (fun e_ => (Kd.R_ne HO_146000.out BK145.out (by decide)) e_) e_) (fun e_ => Or.elim e_ (fun e_ => (fun e_ => (Kd.R_ne HO_146001.out BK145.out (by decide)) e_) e_) (fun e_ => (fun e_ => (Kd.R_ne HO_146002.out BK145.out (by decide)) e_) e_)))) (hb); clear HO_146000 HO_146001 HO_146002 BK143 BK145 HB; obtain ⟨HO_146000, HO_146001, HO_146002, BK143, BK145, HB⟩ := t_; (try clear hb); (try clear hkp); (try clear hy0); (try clear hy1); (try clear hy2); obtain ⟨hcz40_0, hcz40_1, hcz40_2, hfz40_0, hfz40_1, hfz40_2⟩ := bx3 BK143.out))
        refine bodyPost_ret (results_ct rfl _ _ gb143 31 #[.slice none 0 0, .slice none 0 0, .slice none 0 0] (0, 0) _ rfl (by (with_reducible repeat (first | refine blk_drewN ?_ _ | refine blk_drew ?_ | refine blk_alloc ?_ _)); refine blk_put (cs := #[.slice none 0 0, .slice none 0 0, .slice none 0 0]) ?_ 2 _ rfl; (with_reducible repeat (first | refine blk_drewN ?_ _ | refine blk_drew ?_ | refine blk_alloc ?_ _)); refine blk_put (cs := #[.slice none 0 0, .slice none 0 0, .slice none 0 0]) ?_ 1 _ rfl; (with_reducible repeat (first | refine blk_drewN ?_ _ | refine blk_drew ?_ | refine blk_alloc ?_ _)); refine blk_put (cs := #[.slice none 0 0, .slice none 0 0, .slice none 0 0]) ?_ 0 _ rfl; exact bk) Try.underlying31 rfl (by kernel_rfl)) rfl ?_
        exact ⟨_, _, _, er, by first | exact Kd.R_nil _ _ _ _ _ | exact Kd.N_nil _ _ _ _ _ | exact Kd.V_nil _ _ _ _ _ | exact Kd.Q_nil _ _ _ _ _ | exact Kd.S_nil _ _ _ _ _, by first | exact Kd.R_nil _ _ _ _ _ | exact Kd.N_nil _ _ _ _ _ | exact Kd.V_nil _ _ _ _ _ | exact Kd.Q_nil _ _ _ _ _ | exact Kd.S_nil _ _ _ _ _, by first | exact Kd.R_nil _ _ _ _ _ | exact Kd.N_nil _ _ _ _ _ | exact Kd.V_nil _ _ _ _ _ | exact Kd.Q_nil _ _ _ _ _ | exact Kd.S_nil _ _ _ _ _, bb⟩
       ·rw [if_neg c29] at H
        have c29b0 : decide (15 < t157) = false := decide_eq_false c29
        clear c29
        simp only [Option.some.injEq, Prod.mk.injEq] at H
        obtain ⟨rfl, rfl, rfl, rfl⟩ := H
        have hnb41 := NB145_143.out
        have hnc41 := NB143_145.out
        obtain ⟨hcz42_0, hcz42_1, hcz42_2, hfz42_0, hfz42_1, hfz42_2⟩ := bx3 BK145.out
        have p25 : 0 ≤ (0 : Int) := (by omega)
        have q25 : (0 : Int) < ((x146000_1.length : Int) : Int) := of_decide_eq_true as_
        have qi25 : (0 < x146000_1.length) = True := eq_true (by omega)
        obtain ⟨go25, co25, eo25, gb25, gl25, cl25, HG25⟩ := Kd.R_form HO_146000.out (by omega)
        (first | cases eo25 | (injection eo25 with ea_ en_ ec_; (first | subst ea_ | (injection ea_ with ea_; subst ea_)); subst ec_; clear en_))
        have GB25 := Aside0.mk gb25
        have GG25 := Aside0.mk HG25
        clear gb25 gl25 HG25
        obtain ⟨hx25_0, hf25_0⟩ := Kd.R_celln 0 HO_146000.out (0 : Int) p25 q25
        (try rw [show ((0 : Int)).toNat = 0 from rfl] at hx25_0)
        (try simp only [Nat.reduceMul, Nat.zero_mul, Nat.zero_add, Nat.reduceAdd] at hx25_0)
        (try rw [show ((0 : Int)).toNat = 0 from rfl] at hf25_0)
        (try simp only [Nat.reduceMul, Nat.zero_mul, Nat.zero_add, Nat.reduceAdd] at hf25_0)
        replace p25 := eq_true p25
        replace q25 := eq_true q25
        have HP43 := Kd.R_putg HO_146000.out (0 : Int) (-1)
        go_wp2_with (first | ((with_reducible refine gate_store (t := 3) (p := 34) rfl ?_); refine store_event (t := 3) (p := 34) (v := ?vo_w44) (w1 := (wr.setCell ⟨go25, (0 : Int).toNat, none⟩ (.int .i64 (-1)))) ?hg ?ho ?hn ?hr ?_; (case ho => rfl); (case hg => rfl); (case hn => rfl); (case hr => first | (go_simp; done) | (go_simp; rfl)); intro w44 hw; have hg : wr.grownBy w44 (some go25) := (by rw [hw]; exact HP43.2); have hp_ : Kd.R (Kd.int .i64) 3 w44 w.heap.size (fun k_ => some k_ ≠ (u146001 : Value).ownBlock ∧ some k_ ≠ (u146002 : Value).ownBlock) (.slice (some ⟨go25, 0, none⟩) x146000_1.length co25) y155 := (by rw [hw, Ny155.out]; exact HP43.1); clear HP43; have t_ := fc6 (hp_) (Kd.R_after (v := (.slice (some ⟨go25, 0, none⟩) x146000_1.length co25)) (v1 := (.slice (some ⟨go25, 0, none⟩) x146000_1.length co25)) (ok := (fun k_ => some k_ ≠ (u146002 : Value).ownBlock)) (ra (Kd.R_mono HO_146001.out (fun _ hk => (And.intro (hk.2) (hk.1))))) hg (.inl rfl)) (Kd.R_after (v := (.slice (some ⟨go25, 0, none⟩) x146000_1.length co25)) (v1 := (.slice (some ⟨go25, 0, none⟩) x146000_1.length co25)) (ok := (fun k_ => some k_ ≠ (u146001 : Value).ownBlock)) (ra (Kd.R_mono HO_146002.out (fun _ hk => (And.intro (hk.2) (hk.1))))) hg (.inl rfl)) (blk_grown (g := gb143) (o := .cells #[.slice none 0 0, .slice none 0 0, .slice none 0 0] 31 (0, 0)) bk hg (Kd.R_ne HO_146000.out BK143.out (by decide))) (blk_grown (g := gb145) (o := .cells #[.slice (some ⟨go25, 0, none⟩) x146000_1.length co25, u146001, u146002] 31 (0, 0)) bk hg (Kd.R_ne HO_146000.out BK145.out (by decide))) ((by rw [hw]; exact below_set (HB.out) GB25.out : Below w.heap.size w w44)); clear HO_146000 HO_146001 HO_146002 BK143 BK145 HB; obtain ⟨HO_146000, HO_146001, HO_146002, BK143, BK145, HB⟩ := t_; clear hg hw hp_; obtain ⟨hcz45_0, hcz45_1, hcz45_2, hfz45_0, hfz45_1, hfz45_2⟩ := bx3 BK145.out; have p27 : 0 ≤ (0 : Int) := (by omega); have q27 : (0 : Int) < ((x146001_1.length : Int) : Int) := of_decide_eq_true as_; have qi27 : (0 < x146001_1.length) = True := eq_true (by omega); obtain ⟨go27, co27, eo27, gb27, gl27, cl27, HG27⟩ := Kd.R_form HO_146001.out (by omega); (first | cases eo27 | (injection eo27 with ea_ en_ ec_; (first | subst ea_ | (injection ea_ with ea_; subst ea_)); subst ec_; clear en_)); have GB27 := Aside0.mk gb27; have GG27 := Aside0.mk HG27; clear gb27 gl27 HG27; obtain ⟨hx27_0, hf27_0⟩ := Kd.R_celln 0 HO_146001.out (0 : Int) p27 q27; (try rw [show ((0 : Int)).toNat = 0 from rfl] at hx27_0); (try simp only [Nat.reduceMul, Nat.zero_mul, Nat.zero_add, Nat.reduceAdd] at hx27_0); (try rw [show ((0 : Int)).toNat = 0 from rfl] at hf27_0); (try simp only [Nat.reduceMul, Nat.zero_mul, Nat.zero_add, Nat.reduceAdd] at hf27_0); replace p27 := eq_true p27; replace q27 := eq_true q27; obtain ⟨hy46_, hz46_⟩ := Kd.R_celln 0 HO_146001.out (0 : Int) (by omega) (of_decide_eq_true as_); (try simp only [Int.reduceToNat, Int.toNat_zero, Int.toNat_ofNat, Nat.reduceMul, Nat.zero_mul, Nat.zero_add] at hy46_ hz46_); (try rw [show ((0 : Int)).toNat = 0 from rfl] at hy46_); (try rw [show ((0 : Int)).toNat = 0 from rfl] at hz46_); have HP46 := Kd.R_putg HO_146001.out (0 : Int) 0) | ((with_reducible refine gate_store (t := 3) (p := 37) rfl ?_); refine store_event (t := 3) (p := 37) (v := ?vo_w47) (w1 := (w44.setCell ⟨go27, (0 : Int).toNat, none⟩ (.int .i64 0))) ?hg ?ho ?hn ?hr ?_; (case ho => rfl); (case hg => rfl); (case hn => rfl); (case hr => first | (go_simp; done) | (go_simp; rfl)); intro w47 hw; have hg : w44.grownBy w47 (some go27) := (by rw [hw]; exact HP46.2); have hp_ : Kd.R (Kd.int .i64) 3 w47 w.heap.size (fun k_ => some k_ ≠ (u146002 : Value).ownBlock ∧ some k_ ≠ (.slice (some ⟨go25, 0, none⟩) x146000_1.length co25 : Value).ownBlock) (.slice (some ⟨go27, 0, none⟩) x146001_1.length co27) y156 := (by rw [hw, Ny156.out]; exact HP46.1); clear HP46; have t_ := fc6 (Kd.R_after (v := (.slice (some ⟨go27, 0, none⟩) x146001_1.length co27)) (v1 := (.slice (some ⟨go27, 0, none⟩) x146001_1.length co27)) (ok := (fun k_ => some k_ ≠ (u146002 : Value).ownBlock)) (ra (Kd.R_mono HO_146000.out (fun _ hk => (And.intro (hk.2) (hk.1))))) hg (.inl rfl)) (hp_) (Kd.R_after (v := (.slice (some ⟨go27, 0, none⟩) x146001_1.length co27)) (v1 := (.slice (some ⟨go27, 0, none⟩) x146001_1.length co27)) (ok := (fun k_ => some k_ ≠ (.slice (some ⟨go25, 0, none⟩) x146000_1.length co25 : Value).ownBlock)) (ra (Kd.R_mono HO_146002.out (fun _ hk => (And.intro (hk.2) (hk.1))))) hg (.inl rfl)) (blk_grown (g := gb143) (o := .cells #[.slice none 0 0, .slice none 0 0, .slice none 0 0] 31 (0, 0)) bk hg (Kd.R_ne HO_146001.out BK143.out (by decide))) (blk_grown (g := gb145) (o := .cells #[.slice (some ⟨go25, 0, none⟩) x146000_1.length co25, .slice (some ⟨go27, 0, none⟩) x146001_1.length co27, u146002] 31 (0, 0)) bk hg (Kd.R_ne HO_146001.out BK145.out (by decide))) ((by rw [hw]; exact below_set (HB.out) GB27.out : Below w.heap.size w w47)); clear HO_146000 HO_146001 HO_146002 BK143 BK145 HB; obtain ⟨HO_146000, HO_146001, HO_146002, BK143, BK145, HB⟩ := t_; clear hg hw hp_; obtain ⟨hcz48_0, hcz48_1, hcz48_2, hfz48_0, hfz48_1, hfz48_2⟩ := bx3 BK145.out; obtain ⟨Ao49, co49, eo49⟩ := Kd.R_slice HO_146002.out; subst eo49) | ((with_reducible refine gate_callee (f := 107) rfl ?_); refine goesL_ (some 40) rfl rfl Try.func107 (by kernel_rfl) rfl #[.slice A0 l0.length c0, .agg #[.slice (some ⟨go25, 0, none⟩) x146000_1.length co25, .slice (some ⟨go27, 0, none⟩) x146001_1.length co27, .slice Ao49 x146002_1.length co49], .int .i64 0, .int .i64 0] rfl ms ?_; (with_reducible refine (spec_l20Visit.calls k1 _ _ l0 (fun k_ => some k_ = (.slice (some ⟨go25, 0, none⟩) x146000_1.length co25 : Value).ownBlock) (.slice (some ⟨go25, 0, none⟩) x146000_1.length co25) y155 (fun k_ => some k_ = (.slice (some ⟨go27, 0, none⟩) x146001_1.length co27 : Value).ownBlock) (.slice (some ⟨go27, 0, none⟩) x146001_1.length co27) y156 (fun k_ => some k_ = (.slice Ao49 x146002_1.length co49 : Value).ownBlock) (.slice Ao49 x146002_1.length co49) x146002_1 0 0 t157 t158 t159 t160 w _ ?side1 ?side2 ?side3 ?side4 ?side5 ?side6 ?side7 ?side8 ?side9 ?side10 ?side11 ?side12 A28.out).mono ?_); (case side1 => exact bb); (case side2 => exact Kd.C_kept_came k50_heap HR0.out bb (fun k_ hs_ => Or.elim hs_ (fun e_ => (fun e_ => Kd.R_base HO_146000.out k_ e_.symm) e_) (fun e_ => Or.elim e_ (fun e_ => (fun e_ => Kd.R_base HO_146001.out k_ e_.symm) e_) (fun e_ => (fun e_ => Kd.R_base HO_146002.out k_ e_.symm) e_)))); (case side3 => exact HC0.out); (case side4 => exact Kd.R_tight rfl HO_146000.out); (case side5 => exact fun k_ e_ => (HO_146000.out.1 k_ e_.symm).2); (case side6 => exact fun k_ e_ => (HO_146000.out.1 k_ e_.symm).1); (case side7 => exact Kd.R_tight rfl HO_146001.out); (case side8 => exact fun k_ e_ => (HO_146001.out.1 k_ e_.symm).2); (case side9 => exact fun k_ e_ => (HO_146001.out.1 k_ e_.symm).1); (case side10 => exact Kd.R_tight rfl HO_146002.out); (case side11 => exact fun k_ e_ => (HO_146002.out.1 k_ e_.symm).1); (case side12 => exact fun k_ e_ => (HO_146002.out.1 k_ e_.symm).2); rintro e w50 ⟨rfl, hy0, hy1, hy2, hb, hkp⟩; refine ⟨_, rfl, ?_⟩; have t_ := fc6 (Kd.R_reok rfl hy0 (fun k_ e_ => HO_146000.out.1 k_ e_)) (Kd.R_reok rfl hy1 (fun k_ e_ => HO_146001.out.1 k_ e_)) (Kd.R_reok rfl hy2 (fun k_ e_ => HO_146002.out.1 k_ e_)) (blk_kept bk hkp (fun hs_ => Or.elim hs_ (fun e_ => (fun e_ => (Kd.R_ne HO_146000.out BK143.out (by decide)) e_) e_) (fun e_ => Or.elim e_ (fun e_ => (fun e_ => (Kd.R_ne HO_146001.out BK143.out (by decide)) e_) e_) (fun e_ => (fun e_ => (Kd.R_ne HO_146002.out BK143.out (by decide)) e_) e_)))) (blk_kept bk hkp (fun hs_ => Or.elim hs_ (fun e_ => (fun e_ => (Kd.R_ne HO_146000.out BK145.out (by decide)) e_) e_) (fun e_ => Or.elim e_ (fun e_ => (fun e_ => (Kd.R_ne HO_146001.out BK145.out (by decide)) e_) e_) (fun e_ => (fun e_ => (Kd.R_ne HO_146002.out BK145.out (by decide)) e_) e_)))) (hb); clear HO_146000 HO_146001 HO_146002 BK143 BK145 HB; obtain ⟨HO_146000, HO_146001, HO_146002, BK143, BK145, HB⟩ := t_; (try clear hb); (try clear hkp); (try clear hy0); (try clear hy1); (try clear hy2); obtain ⟨hcz51_0, hcz51_1, hcz51_2, hfz51_0, hfz51_1, hfz51_2⟩ := bx3 BK145.out; obtain ⟨hcz52_0, hcz52_1, hcz52_2, hfz52_0, hfz52_1, hfz52_2⟩ := bx3 BK143.out))
        refine bodyPost_ret (results_ct rfl _ _ gb143 31 #[.slice (some ⟨go25, 0, none⟩) x146000_1.length co25, .slice (some ⟨go27, 0, none⟩) x146001_1.length co27, .slice Ao49 x146002_1.length co49] (0, 0) _ rfl (by (with_reducible repeat (first | refine blk_drewN ?_ _ | refine blk_drew ?_ | refine blk_alloc ?_ _)); refine blk_put (cs := #[.slice (some ⟨go25, 0, none⟩) x146000_1.length co25, .slice (some ⟨go27, 0, none⟩) x146001_1.length co27, .slice none 0 0]) ?_ 2 _ rfl; (with_reducible repeat (first | refine blk_drewN ?_ _ | refine blk_drew ?_ | refine blk_alloc ?_ _)); refine blk_put (cs := #[.slice (some ⟨go25, 0, none⟩) x146000_1.length co25, .slice none 0 0, .slice none 0 0]) ?_ 1 _ rfl; (with_reducible repeat (first | refine blk_drewN ?_ _ | refine blk_drew ?_ | refine blk_alloc ?_ _)); refine blk_put (cs := #[.slice none 0 0, .slice none 0 0, .slice none 0 0]) ?_ 0 _ rfl; exact bk) Try.underlying31 rfl (by kernel_rfl)) rfl ?_
        exact ⟨_, _, _, er, by (with_reducible repeat (first | apply Kd.R_alloc | apply Kd.R_drewN | apply Kd.R_drew)); exact Kd.R_mono (Kd.R_far (p := ⟨gb143, 2, none⟩) (Kd.R_far (p := ⟨gb143, 1, none⟩) (Kd.R_far (p := ⟨gb143, 0, none⟩) (Kd.R_types HO_146000.out BK143.out (by decide)) fk (.slice (some ⟨go25, 0, none⟩) x146000_1.length co25)) fk (.slice (some ⟨go27, 0, none⟩) x146001_1.length co27)) fk (.slice Ao49 x146002_1.length co49)) (fun _ hk => (And.intro (hk.1.2) (hk.1.1))), by (with_reducible repeat (first | apply Kd.R_alloc | apply Kd.R_drewN | apply Kd.R_drew)); exact Kd.R_mono (Kd.R_far (p := ⟨gb143, 2, none⟩) (Kd.R_far (p := ⟨gb143, 1, none⟩) (Kd.R_far (p := ⟨gb143, 0, none⟩) (Kd.R_types HO_146001.out BK143.out (by decide)) fk (.slice (some ⟨go25, 0, none⟩) x146000_1.length co25)) fk (.slice (some ⟨go27, 0, none⟩) x146001_1.length co27)) fk (.slice Ao49 x146002_1.length co49)) (fun _ hk => (And.intro (hk.1.2) (hk.1.1))), by (with_reducible repeat (first | apply Kd.R_alloc | apply Kd.R_drewN | apply Kd.R_drew)); exact Kd.R_mono (Kd.R_far (p := ⟨gb143, 2, none⟩) (Kd.R_far (p := ⟨gb143, 1, none⟩) (Kd.R_far (p := ⟨gb143, 0, none⟩) (Kd.R_types HO_146002.out BK143.out (by decide)) fk (.slice (some ⟨go25, 0, none⟩) x146000_1.length co25)) fk (.slice (some ⟨go27, 0, none⟩) x146001_1.length co27)) fk (.slice Ao49 x146002_1.length co49)) (fun _ hk => (And.intro (hk.1.1) (hk.1.2))), bb⟩
      ·rw [if_neg c26] at H
       exact absurd H (by simp)
     ·rw [if_neg c24] at H
      exact absurd H (by simp)
 ·replace c3 := Bool.eq_false_iff.mpr c3
  subst c3
  have H1 : (some (([] : List Int), ([] : List Int), ([] : List Int), false)) = some (r1, r2, r3, r4) := by rw [if_neg (show ¬ (false = true) by decide)] at H; exact H
  clear H
  have H := H1
  clear H1
  simp only [Option.some.injEq, Prod.mk.injEq] at H
  obtain ⟨rfl, rfl, rfl, rfl⟩ := H
  go_enter Try.func51, Try.ntmps51
  go_wp2_with (first | ((with_reducible refine gate_dst (N := 2) rfl ?_); refine box_event ?hg (N := 2) ?hd (cs := #[.slice none 0 0, .slice none 0 0, .slice none 0 0]) (t := 31) ?hr ?_; (case hd => rfl); (case hg => rfl); (case hr => first | (go_simp; done) | (go_simp; rfl)); intro gb143 hg w53 hbox hb; have t_ := fc4 (below_step bb hb) (hbox) (bg hg : w.heap.size ≤ gb143) (bg hg : w.heap.size ≤ gb143); clear HB; obtain ⟨HB, BK143, GW143, GE143⟩ := t_; clear hb hbox hg) | ((with_reducible refine gate_callee (f := 106) rfl ?_); refine goesL_ (some 7) rfl rfl Try.func106 (by kernel_rfl) rfl #[.slice A0 l0.length c0] rfl ms ?_; (with_reducible refine (spec_TreeOk.calls k _ _ l0 false _ ?side1 ?side2 A2.out).mono ?_); (case side1 => exact kc); (case side2 => exact HC0.out); rintro e w54 ⟨rfl, hb⟩; refine ⟨_, rfl, ?_⟩; have t_ := fc2 (bw BK143 hb) (below_step bb hb); clear BK143 HB; obtain ⟨BK143, HB⟩ := t_; (try clear hb); (try clear hk); obtain ⟨hcz55_0, hcz55_1, hcz55_2, hfz55_0, hfz55_1, hfz55_2⟩ := bx3 BK143.out))
  refine bodyPost_ret (results_ct rfl _ _ gb143 31 #[.slice none 0 0, .slice none 0 0, .slice none 0 0] (0, 0) _ rfl (by (with_reducible repeat (first | refine blk_drewN ?_ _ | refine blk_drew ?_ | refine blk_alloc ?_ _)); refine blk_put (cs := #[.slice none 0 0, .slice none 0 0, .slice none 0 0]) ?_ 2 _ rfl; (with_reducible repeat (first | refine blk_drewN ?_ _ | refine blk_drew ?_ | refine blk_alloc ?_ _)); refine blk_put (cs := #[.slice none 0 0, .slice none 0 0, .slice none 0 0]) ?_ 1 _ rfl; (with_reducible repeat (first | refine blk_drewN ?_ _ | refine blk_drew ?_ | refine blk_alloc ?_ _)); refine blk_put (cs := #[.slice none 0 0, .slice none 0 0, .slice none 0 0]) ?_ 0 _ rfl; exact bk) Try.underlying31 rfl (by kernel_rfl)) rfl ?_
  exact ⟨_, _, _, er, by first | exact Kd.R_nil _ _ _ _ _ | exact Kd.N_nil _ _ _ _ _ | exact Kd.V_nil _ _ _ _ _ | exact Kd.Q_nil _ _ _ _ _ | exact Kd.S_nil _ _ _ _ _, by first | exact Kd.R_nil _ _ _ _ _ | exact Kd.N_nil _ _ _ _ _ | exact Kd.V_nil _ _ _ _ _ | exact Kd.Q_nil _ _ _ _ _ | exact Kd.S_nil _ _ _ _ _, by first | exact Kd.R_nil _ _ _ _ _ | exact Kd.N_nil _ _ _ _ _ | exact Kd.V_nil _ _ _ _ _ | exact Kd.Q_nil _ _ _ _ _ | exact Kd.S_nil _ _ _ _ _, bb⟩

/-! ### spec_l04Ints: function 137 -/
def spec_l04Ints.l0 : Nat → List Int → List Int → Int → Option (Bool)
 | 0, _, _, _ => none
 | k + 1, x0, x1, x5 => if x5 < (x0.length : Int) then (if 0 ≤ x5 then (if x5 < (x1.length : Int) then (if (rd x0 x5) = (rd x1 x5) then (spec_l04Ints.l0 k x0 x1 (wrap64 (x5 + 1))) else (some false)) else (none)) else (none)) else (some true)
def spec_l04Ints.f (k : Nat) (l0 : List Int) (l1 : List Int) : Option (Bool) := if (l0.length : Int) = (l1.length : Int) then (spec_l04Ints.l0 k l0 l1 0) else (some false)
set_option maxHeartbeats 8000000 in
set_option maxRecDepth 100000 in
theorem spec_l04Ints.calls (k : Nat) (A0 : Option Addr) (c0 : Nat) (l0 : List Int) (A1 : Option Addr) (c1 : Nat) (l1 : List Int) (r : Bool) (w : World) (hr0 : Kd.C (Kd.int .i64) w A0 l0.length l0) (hc0 : l0.length ≤ c0) (hr1 : Kd.C (Kd.int .i64) w A1 l1.length l1) (hc1 : l1.length ≤ c1) (h : spec_l04Ints.f k l0 l1 = some r) :
  Calls Try.prog 137 #[.slice A0 l0.length c0, .slice A1 l1.length c1] w fun e w' => e = .returned (.bool r) ∧ Drawn0 w w' := by
 have HR0 := Aside0.mk hr0
 have HC0 := Aside0.mk hc0
 clear hr0 hc0
 have HR1 := Aside0.mk hr1
 have HC1 := Aside0.mk hc1
 clear hr1 hc1
 have H : (if (l0.length : Int) = (l1.length : Int) then (spec_l04Ints.l0 k l0 l1 0) else (some false)) = some r := h
 clear h
 by_cases c3 : (l0.length : Int) = (l1.length : Int)
 ·rw [if_pos c3] at H
  have c3b0 : ((l0.length : Int) == (l1.length : Int)) = true := beq_iff_eq.mpr c3
  have c3b1 : ((l0.length : Int) != (l1.length : Int)) = false := bne_eq_false_iff_eq.mpr c3
  have c3b2 : (l0.length == l1.length) = true := by first | simpa using c3 | (simp at c3 ⊢; omega)
  clear c3
  have H' := Aside0.mk H
  clear H
  go_enter Try.func137, Try.ntmps137
  go_wp2
  repeat (go_quiet (fail); try go_wp2)
  go_loopg [5] k (fun kq v5 w' => ∃ (x5_1 : Int), v5 = .int .i64 x5_1 ∧ Aside0 (spec_l04Ints.l0 kq l0 l1 x5_1 = some r) ∧ Aside0 (kq ≤ k) ∧ Drawn0 w w')
  case atStart => exact ⟨(0), (by first | rfl | (simp; done) | (simp [*]; done)), H', ⟨Nat.le_refl _⟩, by repeat (first | exact Drawn0.refl _ | apply Drawn0.step)⟩
  case round =>
   clear H'
   try clear c1
   try clear p2
   try clear c3
   try clear c3b0
   try clear c3b1
   try clear c3b2
   obtain ⟨x5_1, rfl, HA, HK1, ⟨m1, rfl⟩⟩ := hrel
   cases gk with
   | zero => exact absurd HA.out (by simp [spec_l04Ints.l0])
   | succ k1 =>
    have H := HA.out
    clear HA
    simp only [spec_l04Ints.l0] at H
    by_cases c4 : x5_1 < (l0.length : Int)
    ·rw [if_pos c4] at H
     have c4b0 : decide (x5_1 < (l0.length : Int)) = true := decide_eq_true c4
     clear c4
     by_cases c5 : 0 ≤ x5_1
     ·rw [if_pos c5] at H
      have c5b0 : decide (0 ≤ x5_1) = true := decide_eq_true c5
      clear c5
      by_cases c6 : x5_1 < (l1.length : Int)
      ·rw [if_pos c6] at H
       have c6b0 : decide (x5_1 < (l1.length : Int)) = true := decide_eq_true c6
       clear c6
       by_cases c7 : (rd l0 x5_1) = (rd l1 x5_1)
       ·rw [if_pos c7] at H
        have c7b0 : ((rd l0 x5_1) == (rd l1 x5_1)) = true := beq_iff_eq.mpr c7
        have c7b1 : ((rd l0 x5_1) != (rd l1 x5_1)) = false := bne_eq_false_iff_eq.mpr c7
        clear c7
        have H' := Aside0.mk H
        clear H
        have p161 : 0 ≤ (x5_1 : Int) := of_decide_eq_true as_
        have q161 : x5_1 < (l0.length : Int) := of_decide_eq_true as_
        obtain ⟨ad161, e161, hx161_0⟩ := Kd.at_int HR0.out x5_1 p161 q161
        cases e161
        replace p161 := eq_true p161
        replace q161 := eq_true q161
        have p162 : 0 ≤ (x5_1 : Int) := of_decide_eq_true as_
        have q162 : x5_1 < (l1.length : Int) := of_decide_eq_true as_
        obtain ⟨ad162, e162, hx162_0⟩ := Kd.at_int HR1.out x5_1 p162 q162
        cases e162
        replace p162 := eq_true p162
        replace q162 := eq_true q162
        go_wp2
        repeat (go_quiet (fail); try go_wp2)
        go_roundg k1
        case measure => have := HK1.out; omega
        case rel => exact ⟨(wrap64 (x5_1 + 1)), (by first | rfl | (simp; done) | (simp [*]; done)), H', ⟨by have := HK1.out; omega⟩, by repeat (first | exact Drawn0.refl _ | apply Drawn0.step)⟩
       ·rw [if_neg c7] at H
        have c7b0 : ((rd l0 x5_1) == (rd l1 x5_1)) = false := beq_eq_false_iff_ne.mpr c7
        have c7b1 : ((rd l0 x5_1) != (rd l1 x5_1)) = true := bne_iff_ne.mpr c7
        obtain rfl := Option.some.inj H
        have p161 : 0 ≤ (x5_1 : Int) := of_decide_eq_true as_
        have q161 : x5_1 < (l0.length : Int) := of_decide_eq_true as_
        obtain ⟨ad161, e161, hx161_0⟩ := Kd.at_int HR0.out x5_1 p161 q161
        cases e161
        replace p161 := eq_true p161
        replace q161 := eq_true q161
        have p162 : 0 ≤ (x5_1 : Int) := of_decide_eq_true as_
        have q162 : x5_1 < (l1.length : Int) := of_decide_eq_true as_
        obtain ⟨ad162, e162, hx162_0⟩ := Kd.at_int HR1.out x5_1 p162 q162
        cases e162
        replace p162 := eq_true p162
        replace q162 := eq_true q162
        go_wp2
        repeat (go_quiet (fail); try go_wp2)
        go_ret
        exact ⟨by first | rfl | (simp; done) | (simp [*]; done), by repeat (first | exact Drawn0.refl _ | apply Drawn0.step)⟩
      ·rw [if_neg c6] at H
       exact absurd H (by simp)
     ·rw [if_neg c5] at H
      exact absurd H (by simp)
    ·rw [if_neg c4] at H
     have c4b0 : decide (x5_1 < (l0.length : Int)) = false := decide_eq_false c4
     clear c4
     obtain rfl := Option.some.inj H
     go_wp2
     repeat (go_quiet (fail); try go_wp2)
     go_ret
     exact ⟨by first | rfl | (simp; done) | (simp [*]; done), by repeat (first | exact Drawn0.refl _ | apply Drawn0.step)⟩
 ·rw [if_neg c3] at H
  have c3b0 : ((l0.length : Int) == (l1.length : Int)) = false := beq_eq_false_iff_ne.mpr c3
  have c3b1 : ((l0.length : Int) != (l1.length : Int)) = true := bne_iff_ne.mpr c3
  have c3b2 : (l0.length == l1.length) = false := by first | simpa using c3 | (simp at c3 ⊢; omega)
  obtain rfl := Option.some.inj H
  go_enter Try.func137, Try.ntmps137
  go_wp2
  repeat (go_quiet (fail); try go_wp2)
  go_ret
  exact ⟨by first | rfl | (simp; done) | (simp [*]; done), by repeat (first | exact Drawn0.refl _ | apply Drawn0.step)⟩

/-! ### spec_l20Same: function 118 -/
def spec_l20Same.f (k : Nat) (l0_0 : List Int) (l0_1 : List Int) (l0_2 : List Int) (l1_0 : List Int) (l1_1 : List Int) (l1_2 : List Int) : Option (Bool) := (spec_l04Ints.f k l0_0 l1_0).bind fun t165 => (if t165 = true then ((spec_l04Ints.f k l0_1 l1_1).bind fun t166 => (if t166 = true then ((spec_l04Ints.f k l0_2 l1_2).bind fun t167 => (some t167)) else (some false))) else (some false))
set_option maxHeartbeats 8000000 in
set_option maxRecDepth 100000 in
theorem spec_l20Same.calls (k : Nat) (A0_0 : Option Addr) (c0_0 : Nat) (l0_0 : List Int) (A0_1 : Option Addr) (c0_1 : Nat) (l0_1 : List Int) (A0_2 : Option Addr) (c0_2 : Nat) (l0_2 : List Int) (A1_0 : Option Addr) (c1_0 : Nat) (l1_0 : List Int) (A1_1 : Option Addr) (c1_1 : Nat) (l1_1 : List Int) (A1_2 : Option Addr) (c1_2 : Nat) (l1_2 : List Int) (r : Bool) (w : World) (hr0_0 : Kd.C (Kd.int .i64) w A0_0 l0_0.length l0_0) (hc0_0 : l0_0.length ≤ c0_0) (hr0_1 : Kd.C (Kd.int .i64) w A0_1 l0_1.length l0_1) (hc0_1 : l0_1.length ≤ c0_1) (hr0_2 : Kd.C (Kd.int .i64) w A0_2 l0_2.length l0_2) (hc0_2 : l0_2.length ≤ c0_2) (hr1_0 : Kd.C (Kd.int .i64) w A1_0 l1_0.length l1_0) (hc1_0 : l1_0.length ≤ c1_0) (hr1_1 : Kd.C (Kd.int .i64) w A1_1 l1_1.length l1_1) (hc1_1 : l1_1.length ≤ c1_1) (hr1_2 : Kd.C (Kd.int .i64) w A1_2 l1_2.length l1_2) (hc1_2 : l1_2.length ≤ c1_2) (h : spec_l20Same.f k l0_0 l0_1 l0_2 l1_0 l1_1 l1_2 = some r) :
  Calls Try.prog 118 #[.agg #[.slice A0_0 l0_0.length c0_0, .slice A0_1 l0_1.length c0_1, .slice A0_2 l0_2.length c0_2], .agg #[.slice A1_0 l1_0.length c1_0, .slice A1_1 l1_1.length c1_1, .slice A1_2 l1_2.length c1_2]] w fun e w' => e = .returned (.bool r) ∧ Below w.heap.size w w' := by
 have hu31 := Try.underlying31
 have HR0_0 := Aside0.mk hr0_0
 have HC0_0 := Aside0.mk hc0_0
 clear hr0_0 hc0_0
 have HR0_1 := Aside0.mk hr0_1
 have HC0_1 := Aside0.mk hc0_1
 clear hr0_1 hc0_1
 have HR0_2 := Aside0.mk hr0_2
 have HC0_2 := Aside0.mk hc0_2
 clear hr0_2 hc0_2
 have HR1_0 := Aside0.mk hr1_0
 have HC1_0 := Aside0.mk hc1_0
 clear hr1_0 hc1_0
 have HR1_1 := Aside0.mk hr1_1
 have HC1_1 := Aside0.mk hc1_1
 clear hr1_1 hc1_1
 have HR1_2 := Aside0.mk hr1_2
 have HC1_2 := Aside0.mk hc1_2
 clear hr1_2 hc1_2
 have HB := Aside0.mk (Below.refl w.heap.size w)
 have H : ((spec_l04Ints.f k l0_0 l1_0).bind fun t165 => (if t165 = true then ((spec_l04Ints.f k l0_1 l1_1).bind fun t166 => (if t166 = true then ((spec_l04Ints.f k l0_2 l1_2).bind fun t167 => (some t167)) else (some false))) else (some false))) = some r := h
 clear h
 replace H := Option.bind_eq_some_iff.mp H
 obtain ⟨t165, A30, H⟩ := H
 replace H : (if t165 = true then ((spec_l04Ints.f k l0_1 l1_1).bind fun t166 => (if t166 = true then ((spec_l04Ints.f k l0_2 l1_2).bind fun t167 => (some t167)) else (some false))) else (some false)) = some r := H
 have A3 := Aside0.mk A30
 clear A30
 by_cases c4 : t165 = true
 ·subst c4
  have H1 : ((spec_l04Ints.f k l0_1 l1_1).bind fun t166 => (if t166 = true then ((spec_l04Ints.f k l0_2 l1_2).bind fun t167 => (some t167)) else (some false))) = some r := by rw [if_pos rfl] at H; exact H
  clear H
  have H := H1
  clear H1
  replace H := Option.bind_eq_some_iff.mp H
  obtain ⟨t166, A50, H⟩ := H
  replace H : (if t166 = true then ((spec_l04Ints.f k l0_2 l1_2).bind fun t167 => (some t167)) else (some false)) = some r := H
  have A5 := Aside0.mk A50
  clear A50
  by_cases c6 : t166 = true
  ·subst c6
   have H1 : ((spec_l04Ints.f k l0_2 l1_2).bind fun t167 => (some t167)) = some r := by rw [if_pos rfl] at H; exact H
   clear H
   have H := H1
   clear H1
   replace H := Option.bind_eq_some_iff.mp H
   obtain ⟨t167, A70, H⟩ := H
   replace H : (some t167) = some r := H
   have A7 := Aside0.mk A70
   clear A70
   obtain rfl := Option.some.inj H
   go_enter Try.func118, Try.ntmps118
   go_wp2_with (first | ((with_reducible refine gate_dst (N := 2) rfl ?_); refine box_event ?hg (N := 2) ?hd (cs := #[.slice A0_0 l0_0.length c0_0, .slice A0_1 l0_1.length c0_1, .slice A0_2 l0_2.length c0_2]) (t := 31) ?hr ?_; (case hd => rfl); (case hg => rfl); (case hr => first | (go_simp; done) | (go_simp; rfl)); intro gb163 hg w8 hbox hb; have t_ := fc4 (below_step bb hb) (hbox) (bg hg : w.heap.size ≤ gb163) (bg hg : w.heap.size ≤ gb163); clear HB; obtain ⟨HB, BK163, GW163, GE163⟩ := t_; clear hb hbox hg) | ((with_reducible refine gate_dst (N := 3) rfl ?_); refine box_event ?hg (N := 3) ?hd (cs := #[.slice A1_0 l1_0.length c1_0, .slice A1_1 l1_1.length c1_1, .slice A1_2 l1_2.length c1_2]) (t := 31) ?hr ?_; (case hd => rfl); (case hg => rfl); (case hr => first | (go_simp; done) | (go_simp; rfl)); intro gb164 hg w9 hbox hb; have t_ := fc7 (bw BK163 hb) (below_step bb hb) (hbox) (bg hg : w.heap.size ≤ gb164) (bg hg : w.heap.size ≤ gb164) ((nl BK163 hg : gb163 ≠ gb164)) ((ng BK163 hg : gb164 ≠ gb163)); clear BK163 HB; obtain ⟨BK163, HB, BK164, GW164, GE164, NB163_164, NB164_163⟩ := t_; clear hb hbox hg; have hnb10 := NB163_164.out; have hnc10 := NB164_163.out; obtain ⟨hcz11_0, hcz11_1, hcz11_2, hfz11_0, hfz11_1, hfz11_2⟩ := bx3 BK163.out; obtain ⟨hcz12_0, hcz12_1, hcz12_2, hfz12_0, hfz12_1, hfz12_2⟩ := bx3 BK164.out) | ((with_reducible refine gate_callee (f := 137) rfl ?_); refine goesL_ (some 9) rfl rfl Try.func137 (by kernel_rfl) rfl #[.slice A0_0 l0_0.length c0_0, .slice A1_0 l1_0.length c1_0] rfl ms ?_; (with_reducible refine (spec_l04Ints.calls k _ _ l0_0 _ _ l1_0 true _ ?side1 ?side2 ?side3 ?side4 A3.out).mono ?_); (case side1 => exact kc); (case side2 => exact HC0_0.out); (case side3 => exact kc); (case side4 => exact HC1_0.out); rintro e w' ⟨rfl, ⟨nd, rfl⟩⟩; refine ⟨_, rfl, ?_⟩) | (go_at_call 137; (with_reducible refine (spec_l04Ints.calls k _ _ l0_1 _ _ l1_1 true _ ?side1 ?side2 ?side3 ?side4 A5.out).mono ?_); (case side1 => exact kc); (case side2 => exact HC0_1.out); (case side3 => exact kc); (case side4 => exact HC1_1.out); rintro e w' ⟨rfl, ⟨nd, rfl⟩⟩) | (go_at_call 137; (with_reducible refine (spec_l04Ints.calls k _ _ l0_2 _ _ l1_2 t167 _ ?side1 ?side2 ?side3 ?side4 A7.out).mono ?_); (case side1 => exact kc); (case side2 => exact HC0_2.out); (case side3 => exact kc); (case side4 => exact HC1_2.out); rintro e w' ⟨rfl, ⟨nd, rfl⟩⟩))
   go_ret
   exact ⟨er, bb⟩
  ·replace c6 := Bool.eq_false_iff.mpr c6
   subst c6
   have H1 : (some false) = some r := by rw [if_neg (show ¬ (false = true) by decide)] at H; exact H
   clear H
   have H := H1
   clear H1
   obtain rfl := Option.some.inj H
   go_enter Try.func118, Try.ntmps118
   go_wp2_with (first | ((with_reducible refine gate_dst (N := 2) rfl ?_); refine box_event ?hg (N := 2) ?hd (cs := #[.slice A0_0 l0_0.length c0_0, .slice A0_1 l0_1.length c0_1, .slice A0_2 l0_2.length c0_2]) (t := 31) ?hr ?_; (case hd => rfl); (case hg => rfl); (case hr => first | (go_simp; done) | (go_simp; rfl)); intro gb163 hg w13 hbox hb; have t_ := fc4 (below_step bb hb) (hbox) (bg hg : w.heap.size ≤ gb163) (bg hg : w.heap.size ≤ gb163); clear HB; obtain ⟨HB, BK163, GW163, GE163⟩ := t_; clear hb hbox hg) | ((with_reducible refine gate_dst (N := 3) rfl ?_); refine box_event ?hg (N := 3) ?hd (cs := #[.slice A1_0 l1_0.length c1_0, .slice A1_1 l1_1.length c1_1, .slice A1_2 l1_2.length c1_2]) (t := 31) ?hr ?_; (case hd => rfl); (case hg => rfl); (case hr => first | (go_simp; done) | (go_simp; rfl)); intro gb164 hg w14 hbox hb; have t_ := fc7 (bw BK163 hb) (below_step bb hb) (hbox) (bg hg : w.heap.size ≤ gb164) (bg hg : w.heap.size ≤ gb164) ((nl BK163 hg : gb163 ≠ gb164)) ((ng BK163 hg : gb164 ≠ gb163)); clear BK163 HB; obtain ⟨BK163, HB, BK164, GW164, GE164, NB163_164, NB164_163⟩ := t_; clear hb hbox hg; have hnb15 := NB163_164.out; have hnc15 := NB164_163.out; obtain ⟨hcz16_0, hcz16_1, hcz16_2, hfz16_0, hfz16_1, hfz16_2⟩ := bx3 BK163.out; obtain ⟨hcz17_0, hcz17_1, hcz17_2, hfz17_0, hfz17_1, hfz17_2⟩ := bx3 BK164.out) | ((with_reducible refine gate_callee (f := 137) rfl ?_); refine goesL_ (some 9) rfl rfl Try.func137 (by kernel_rfl) rfl #[.slice A0_0 l0_0.length c0_0, .slice A1_0 l1_0.length c1_0] rfl ms ?_; (with_reducible refine (spec_l04Ints.calls k _ _ l0_0 _ _ l1_0 true _ ?side1 ?side2 ?side3 ?side4 A3.out).mono ?_); (case side1 => exact kc); (case side2 => exact HC0_0.out); (case side3 => exact kc); (case side4 => exact HC1_0.out); rintro e w' ⟨rfl, ⟨nd, rfl⟩⟩; refine ⟨_, rfl, ?_⟩) | (go_at_call 137; (with_reducible refine (spec_l04Ints.calls k _ _ l0_1 _ _ l1_1 false _ ?side1 ?side2 ?side3 ?side4 A5.out).mono ?_); (case side1 => exact kc); (case side2 => exact HC0_1.out); (case side3 => exact kc); (case side4 => exact HC1_1.out); rintro e w' ⟨rfl, ⟨nd, rfl⟩⟩))
   go_ret
   exact ⟨er, bb⟩
 ·replace c4 := Bool.eq_false_iff.mpr c4
  subst c4
  have H1 : (some false) = some r := by rw [if_neg (show ¬ (false = true) by decide)] at H; exact H
  clear H
  have H := H1
  clear H1
  obtain rfl := Option.some.inj H
  go_enter Try.func118, Try.ntmps118
  go_wp2_with (first | ((with_reducible refine gate_dst (N := 2) rfl ?_); refine box_event ?hg (N := 2) ?hd (cs := #[.slice A0_0 l0_0.length c0_0, .slice A0_1 l0_1.length c0_1, .slice A0_2 l0_2.length c0_2]) (t := 31) ?hr ?_; (case hd => rfl); (case hg => rfl); (case hr => first | (go_simp; done) | (go_simp; rfl)); intro gb163 hg w18 hbox hb; have t_ := fc4 (below_step bb hb) (hbox) (bg hg : w.heap.size ≤ gb163) (bg hg : w.heap.size ≤ gb163); clear HB; obtain ⟨HB, BK163, GW163, GE163⟩ := t_; clear hb hbox hg) | ((with_reducible refine gate_dst (N := 3) rfl ?_); refine box_event ?hg (N := 3) ?hd (cs := #[.slice A1_0 l1_0.length c1_0, .slice A1_1 l1_1.length c1_1, .slice A1_2 l1_2.length c1_2]) (t := 31) ?hr ?_; (case hd => rfl); (case hg => rfl); (case hr => first | (go_simp; done) | (go_simp; rfl)); intro gb164 hg w19 hbox hb; have t_ := fc7 (bw BK163 hb) (below_step bb hb) (hbox) (bg hg : w.heap.size ≤ gb164) (bg hg : w.heap.size ≤ gb164) ((nl BK163 hg : gb163 ≠ gb164)) ((ng BK163 hg : gb164 ≠ gb163)); clear BK163 HB; obtain ⟨BK163, HB, BK164, GW164, GE164, NB163_164, NB164_163⟩ := t_; clear hb hbox hg; have hnb20 := NB163_164.out; have hnc20 := NB164_163.out; obtain ⟨hcz21_0, hcz21_1, hcz21_2, hfz21_0, hfz21_1, hfz21_2⟩ := bx3 BK163.out; obtain ⟨hcz22_0, hcz22_1, hcz22_2, hfz22_0, hfz22_1, hfz22_2⟩ := bx3 BK164.out) | ((with_reducible refine gate_callee (f := 137) rfl ?_); refine goesL_ (some 9) rfl rfl Try.func137 (by kernel_rfl) rfl #[.slice A0_0 l0_0.length c0_0, .slice A1_0 l1_0.length c1_0] rfl ms ?_; (with_reducible refine (spec_l04Ints.calls k _ _ l0_0 _ _ l1_0 false _ ?side1 ?side2 ?side3 ?side4 A3.out).mono ?_); (case side1 => exact kc); (case side2 => exact HC0_0.out); (case side3 => exact kc); (case side4 => exact HC1_0.out); rintro e w' ⟨rfl, ⟨nd, rfl⟩⟩; refine ⟨_, rfl, ?_⟩))
  go_ret
  exact ⟨er, bb⟩

/-! ### spec_l20Is: function 70 -/
def spec_l20Is.f (k : Nat) (l0 : List (S50)) (l1_0 : List Int) (l1_1 : List Int) (l1_2 : List Int) : Option (Bool) := (spec_Enumerate.f k l0).bind fun bt169 => (if bt169.2.2.2 = true then ((spec_l20Same.f k bt169.1 bt169.2.1 bt169.2.2.1 l1_0 l1_1 l1_2).bind fun t180 => (some t180)) else (some false))
set_option maxHeartbeats 8000000 in
set_option maxRecDepth 100000 in
theorem spec_l20Is.calls (k : Nat) (A0 : Option Addr) (c0 : Nat) (l0 : List (S50)) (A1_0 : Option Addr) (c1_0 : Nat) (l1_0 : List Int) (A1_1 : Option Addr) (c1_1 : Nat) (l1_1 : List Int) (A1_2 : Option Addr) (c1_2 : Nat) (l1_2 : List Int) (r : Bool) (w : World) (hr0 : Kd.C k50 w A0 l0.length l0) (hc0 : l0.length ≤ c0) (hr1_0 : Kd.C (Kd.int .i64) w A1_0 l1_0.length l1_0) (hc1_0 : l1_0.length ≤ c1_0) (hr1_1 : Kd.C (Kd.int .i64) w A1_1 l1_1.length l1_1) (hc1_1 : l1_1.length ≤ c1_1) (hr1_2 : Kd.C (Kd.int .i64) w A1_2 l1_2.length l1_2) (hc1_2 : l1_2.length ≤ c1_2) (h : spec_l20Is.f k l0 l1_0 l1_1 l1_2 = some r) :
  Calls Try.prog 70 #[.slice A0 l0.length c0, .agg #[.slice A1_0 l1_0.length c1_0, .slice A1_1 l1_1.length c1_1, .slice A1_2 l1_2.length c1_2]] w fun e w' => e = .returned (.bool r) ∧ Below w.heap.size w w' := by
 have hu31 := Try.underlying31
 have HR0 := Aside0.mk hr0
 have HC0 := Aside0.mk hc0
 clear hr0 hc0
 have HR1_0 := Aside0.mk hr1_0
 have HC1_0 := Aside0.mk hc1_0
 clear hr1_0 hc1_0
 have HR1_1 := Aside0.mk hr1_1
 have HC1_1 := Aside0.mk hc1_1
 clear hr1_1 hc1_1
 have HR1_2 := Aside0.mk hr1_2
 have HC1_2 := Aside0.mk hc1_2
 clear hr1_2 hc1_2
 have HB := Aside0.mk (Below.refl w.heap.size w)
 have H : ((spec_Enumerate.f k l0).bind fun bt169 => (if bt169.2.2.2 = true then ((spec_l20Same.f k bt169.1 bt169.2.1 bt169.2.2.1 l1_0 l1_1 l1_2).bind fun t180 => (some t180)) else (some false))) = some r := h
 clear h
 replace H := Option.bind_eq_some_iff.mp H
 obtain ⟨⟨t169, t172, t175, t178⟩, A30, H⟩ := H
 replace H : (if t178 = true then ((spec_l20Same.f k t169 t172 t175 l1_0 l1_1 l1_2).bind fun t180 => (some t180)) else (some false)) = some r := H
 have A3 := Aside0.mk A30
 clear A30
 by_cases c4 : t178 = true
 ·subst c4
  have H1 : ((spec_l20Same.f k t169 t172 t175 l1_0 l1_1 l1_2).bind fun t180 => (some t180)) = some r := by rw [if_pos rfl] at H; exact H
  clear H
  have H := H1
  clear H1
  replace H := Option.bind_eq_some_iff.mp H
  obtain ⟨t180, A50, H⟩ := H
  replace H : (some t180) = some r := H
  have A5 := Aside0.mk A50
  clear A50
  obtain rfl := Option.some.inj H
  go_enter Try.func70, Try.ntmps70
  go_wp2_with (first | ((with_reducible refine gate_dst (N := 3) rfl ?_); refine box_event ?hg (N := 3) ?hd (cs := #[.slice A1_0 l1_0.length c1_0, .slice A1_1 l1_1.length c1_1, .slice A1_2 l1_2.length c1_2]) (t := 31) ?hr ?_; (case hd => rfl); (case hg => rfl); (case hr => first | (go_simp; done) | (go_simp; rfl)); intro gb168 hg w6 hbox hb; have t_ := fc4 (below_step bb hb) (hbox) (bg hg : w.heap.size ≤ gb168) (bg hg : w.heap.size ≤ gb168); clear HB; obtain ⟨HB, BK168, GW168, GE168⟩ := t_; clear hb hbox hg) | ((with_reducible refine gate_callee (f := 51) rfl ?_); refine goesL_ (some 9) rfl rfl Try.func51 (by kernel_rfl) rfl #[.slice A0 l0.length c0] rfl ms ?_; (with_reducible refine (spec_Enumerate.calls k _ _ l0 t169 t172 t175 true _ ?side1 ?side2 A3.out).mono ?_); (case side1 => exact kc); (case side2 => exact HC0.out); rintro e w7 ⟨v170, v173, v176, rfl, ho0, ho1, ho2, hb⟩; refine ⟨_, rfl, ?_⟩; have t_ := fc5 (Kd.R_lower ho0 (below_size bb)) (Kd.R_lower ho1 (below_size bb)) (Kd.R_lower ho2 (below_size bb)) (bw BK168 hb) (below_step bb hb); clear BK168 HB; obtain ⟨HO171, HO174, HO177, BK168, HB⟩ := t_; (try clear hb); (try clear hk); (try clear ho0); (try clear ho1); (try clear ho2)) | ((with_reducible refine gate_dst (N := 5) rfl ?_); refine box_event ?hg (N := 5) ?hd (cs := #[.slice none 0 0, .slice none 0 0, .slice none 0 0]) (t := 31) ?hr ?_; (case hd => rfl); (case hg => rfl); (case hr => first | (go_simp; done) | (go_simp; rfl)); intro gb179 hg w8 hbox hb; have t_ := fc10 (Kd.R_below (ra HO171.out) hb) (Kd.R_below (ra HO174.out) hb) (Kd.R_below (ra HO177.out) hb) (bw BK168 hb) (below_step bb hb) (hbox) (bg hg : w.heap.size ≤ gb179) (bg hg : w.heap.size ≤ gb179) ((nl BK168 hg : gb168 ≠ gb179)) ((ng BK168 hg : gb179 ≠ gb168)); clear HO171 HO174 HO177 BK168 HB; obtain ⟨HO171, HO174, HO177, BK168, HB, BK179, GW179, GE179, NB168_179, NB179_168⟩ := t_; clear hb hbox hg; obtain ⟨Ao9, co9, eo9⟩ := Kd.R_slice HO171.out; subst eo9; have hnb10 := NB179_168.out; have hnc10 := NB168_179.out; obtain ⟨hcz11_0, hcz11_1, hcz11_2, hfz11_0, hfz11_1, hfz11_2⟩ := bx3 BK179.out; obtain ⟨Ao12, co12, eo12⟩ := Kd.R_slice HO174.out; subst eo12; obtain ⟨Ao13, co13, eo13⟩ := Kd.R_slice HO177.out; subst eo13; obtain ⟨hcz14_0, hcz14_1, hcz14_2, hfz14_0, hfz14_1, hfz14_2⟩ := bx3 BK168.out) | (go_at_call 118; (with_reducible refine (spec_l20Same.calls k _ _ t169 _ _ t172 _ _ t175 _ _ l1_0 _ _ l1_1 _ _ l1_2 t180 _ ?side1 ?side2 ?side3 ?side4 ?side5 ?side6 ?side7 ?side8 ?side9 ?side10 ?side11 ?side12 A5.out).mono ?_); (case side1 => refine (Kd.R_reads' (e := 3) (base := w.heap.size) (ok := fun k_ => (some k_ ≠ (.slice Ao12 t172.length co12 : Value).ownBlock ∧ some k_ ≠ (.slice Ao13 t175.length co13 : Value).ownBlock)) (n := t169.length) (c := co9) ?_).2.2; exact (ra (Kd.R_mono (Kd.R_far (p := ⟨gb179, 2, none⟩) (Kd.R_far (p := ⟨gb179, 1, none⟩) (Kd.R_far (p := ⟨gb179, 0, none⟩) (Kd.R_types HO171.out BK179.out (by decide)) fk (.slice Ao9 t169.length co9)) fk (.slice Ao12 t172.length co12)) fk (.slice Ao13 t175.length co13)) (fun _ h_ => h_.1)))); (case side2 => exact (Kd.R_reads' HO171.out).2.1); (case side3 => refine (Kd.R_reads' (e := 3) (base := w.heap.size) (ok := fun k_ => (some k_ ≠ (.slice Ao9 t169.length co9 : Value).ownBlock ∧ some k_ ≠ (.slice Ao13 t175.length co13 : Value).ownBlock)) (n := t172.length) (c := co12) ?_).2.2; exact (ra (Kd.R_mono (Kd.R_far (p := ⟨gb179, 2, none⟩) (Kd.R_far (p := ⟨gb179, 1, none⟩) (Kd.R_far (p := ⟨gb179, 0, none⟩) (Kd.R_types HO174.out BK179.out (by decide)) fk (.slice Ao9 t169.length co9)) fk (.slice Ao12 t172.length co12)) fk (.slice Ao13 t175.length co13)) (fun _ h_ => h_.1)))); (case side4 => exact (Kd.R_reads' HO174.out).2.1); (case side5 => refine (Kd.R_reads' (e := 3) (base := w.heap.size) (ok := fun k_ => (some k_ ≠ (.slice Ao9 t169.length co9 : Value).ownBlock ∧ some k_ ≠ (.slice Ao12 t172.length co12 : Value).ownBlock)) (n := t175.length) (c := co13) ?_).2.2; exact (ra (Kd.R_mono (Kd.R_far (p := ⟨gb179, 2, none⟩) (Kd.R_far (p := ⟨gb179, 1, none⟩) (Kd.R_far (p := ⟨gb179, 0, none⟩) (Kd.R_types HO177.out BK179.out (by decide)) fk (.slice Ao9 t169.length co9)) fk (.slice Ao12 t172.length co12)) fk (.slice Ao13 t175.length co13)) (fun _ h_ => h_.1)))); (case side6 => exact (Kd.R_reads' HO177.out).2.1); (case side7 => exact Kd.C_below HR1_0.out bb); (case side8 => exact HC1_0.out); (case side9 => exact Kd.C_below HR1_1.out bb); (case side10 => exact HC1_1.out); (case side11 => exact Kd.C_below HR1_2.out bb); (case side12 => exact HC1_2.out); rintro e w15 ⟨rfl, hb⟩; have t_ := fc6 (Kd.R_below (ra (Kd.R_mono (Kd.R_far (p := ⟨gb179, 2, none⟩) (Kd.R_far (p := ⟨gb179, 1, none⟩) (Kd.R_far (p := ⟨gb179, 0, none⟩) (Kd.R_types HO171.out BK179.out (by decide)) fk (.slice Ao9 t169.length co9)) fk (.slice Ao12 t172.length co12)) fk (.slice Ao13 t175.length co13)) (fun _ h_ => h_.1))) hb) (Kd.R_below (ra (Kd.R_mono (Kd.R_far (p := ⟨gb179, 2, none⟩) (Kd.R_far (p := ⟨gb179, 1, none⟩) (Kd.R_far (p := ⟨gb179, 0, none⟩) (Kd.R_types HO174.out BK179.out (by decide)) fk (.slice Ao9 t169.length co9)) fk (.slice Ao12 t172.length co12)) fk (.slice Ao13 t175.length co13)) (fun _ h_ => h_.1))) hb) (Kd.R_below (ra (Kd.R_mono (Kd.R_far (p := ⟨gb179, 2, none⟩) (Kd.R_far (p := ⟨gb179, 1, none⟩) (Kd.R_far (p := ⟨gb179, 0, none⟩) (Kd.R_types HO177.out BK179.out (by decide)) fk (.slice Ao9 t169.length co9)) fk (.slice Ao12 t172.length co12)) fk (.slice Ao13 t175.length co13)) (fun _ h_ => h_.1))) hb) (blk_below (g := gb168) (o := .cells #[.slice A1_0 l1_0.length c1_0, .slice A1_1 l1_1.length c1_1, .slice A1_2 l1_2.length c1_2] 31 (0, 0)) (by (with_reducible repeat (first | refine blk_drewN ?_ _ | refine blk_drew ?_ | refine blk_alloc ?_ _)); refine blk_far ?_ NB168_179.out _; (with_reducible repeat (first | refine blk_drewN ?_ _ | refine blk_drew ?_ | refine blk_alloc ?_ _)); refine blk_far ?_ NB168_179.out _; (with_reducible repeat (first | refine blk_drewN ?_ _ | refine blk_drew ?_ | refine blk_alloc ?_ _)); refine blk_far ?_ NB168_179.out _; exact bk) hb) (blk_below (g := gb179) (o := .cells #[.slice Ao9 t169.length co9, .slice Ao12 t172.length co12, .slice Ao13 t175.length co13] 31 (0, 0)) (by (with_reducible repeat (first | refine blk_drewN ?_ _ | refine blk_drew ?_ | refine blk_alloc ?_ _)); refine blk_put (cs := #[.slice Ao9 t169.length co9, .slice Ao12 t172.length co12, .slice none 0 0]) ?_ 2 _ rfl; (with_reducible repeat (first | refine blk_drewN ?_ _ | refine blk_drew ?_ | refine blk_alloc ?_ _)); refine blk_put (cs := #[.slice Ao9 t169.length co9, .slice none 0 0, .slice none 0 0]) ?_ 1 _ rfl; (with_reducible repeat (first | refine blk_drewN ?_ _ | refine blk_drew ?_ | refine blk_alloc ?_ _)); refine blk_put (cs := #[.slice none 0 0, .slice none 0 0, .slice none 0 0]) ?_ 0 _ rfl; exact bk) hb) (below_step bb hb); clear HO171 HO174 HO177 BK168 BK179 HB; obtain ⟨HO171, HO174, HO177, BK168, BK179, HB⟩ := t_; (try clear hb); (try clear hk)))
  go_ret
  exact ⟨er, bb⟩
 ·replace c4 := Bool.eq_false_iff.mpr c4
  subst c4
  have H1 : (some false) = some r := by rw [if_neg (show ¬ (false = true) by decide)] at H; exact H
  clear H
  have H := H1
  clear H1
  obtain rfl := Option.some.inj H
  go_enter Try.func70, Try.ntmps70
  go_wp2_with (first | ((with_reducible refine gate_dst (N := 3) rfl ?_); refine box_event ?hg (N := 3) ?hd (cs := #[.slice A1_0 l1_0.length c1_0, .slice A1_1 l1_1.length c1_1, .slice A1_2 l1_2.length c1_2]) (t := 31) ?hr ?_; (case hd => rfl); (case hg => rfl); (case hr => first | (go_simp; done) | (go_simp; rfl)); intro gb168 hg w16 hbox hb; have t_ := fc4 (below_step bb hb) (hbox) (bg hg : w.heap.size ≤ gb168) (bg hg : w.heap.size ≤ gb168); clear HB; obtain ⟨HB, BK168, GW168, GE168⟩ := t_; clear hb hbox hg) | ((with_reducible refine gate_callee (f := 51) rfl ?_); refine goesL_ (some 9) rfl rfl Try.func51 (by kernel_rfl) rfl #[.slice A0 l0.length c0] rfl ms ?_; (with_reducible refine (spec_Enumerate.calls k _ _ l0 t169 t172 t175 false _ ?side1 ?side2 A3.out).mono ?_); (case side1 => exact kc); (case side2 => exact HC0.out); rintro e w17 ⟨v170, v173, v176, rfl, ho0, ho1, ho2, hb⟩; refine ⟨_, rfl, ?_⟩; have t_ := fc5 (Kd.R_lower ho0 (below_size bb)) (Kd.R_lower ho1 (below_size bb)) (Kd.R_lower ho2 (below_size bb)) (bw BK168 hb) (below_step bb hb); clear BK168 HB; obtain ⟨HO171, HO174, HO177, BK168, HB⟩ := t_; (try clear hb); (try clear hk); (try clear ho0); (try clear ho1); (try clear ho2)) | ((with_reducible refine gate_dst (N := 5) rfl ?_); refine box_event ?hg (N := 5) ?hd (cs := #[.slice none 0 0, .slice none 0 0, .slice none 0 0]) (t := 31) ?hr ?_; (case hd => rfl); (case hg => rfl); (case hr => first | (go_simp; done) | (go_simp; rfl)); intro gb179 hg w18 hbox hb; have t_ := fc10 (Kd.R_below (ra HO171.out) hb) (Kd.R_below (ra HO174.out) hb) (Kd.R_below (ra HO177.out) hb) (bw BK168 hb) (below_step bb hb) (hbox) (bg hg : w.heap.size ≤ gb179) (bg hg : w.heap.size ≤ gb179) ((nl BK168 hg : gb168 ≠ gb179)) ((ng BK168 hg : gb179 ≠ gb168)); clear HO171 HO174 HO177 BK168 HB; obtain ⟨HO171, HO174, HO177, BK168, HB, BK179, GW179, GE179, NB168_179, NB179_168⟩ := t_; clear hb hbox hg; obtain ⟨Ao19, co19, eo19⟩ := Kd.R_slice HO171.out; subst eo19; have hnb20 := NB179_168.out; have hnc20 := NB168_179.out; obtain ⟨hcz21_0, hcz21_1, hcz21_2, hfz21_0, hfz21_1, hfz21_2⟩ := bx3 BK179.out; obtain ⟨Ao22, co22, eo22⟩ := Kd.R_slice HO174.out; subst eo22; obtain ⟨Ao23, co23, eo23⟩ := Kd.R_slice HO177.out; subst eo23))
  go_ret
  exact ⟨er, bb⟩

/-! ### spec_IsId: function 71 -/
def spec_IsId.f (a0 : Int) : Option (Bool) := (spec_l01In.f a0 0 255).bind fun t181 => (some t181)
set_option maxHeartbeats 8000000 in
set_option maxRecDepth 100000 in
theorem spec_IsId.calls (a0 : Int) (r : Bool) (w : World) (h : spec_IsId.f a0 = some r) :
  Calls Try.prog 71 #[.int .i64 a0] w fun e w' => e = .returned (.bool r) ∧ Drawn0 w w' := by
 have H : ((spec_l01In.f a0 0 255).bind fun t181 => (some t181)) = some r := h
 clear h
 replace H := Option.bind_eq_some_iff.mp H
 obtain ⟨t181, A20, H⟩ := H
 replace H : (some t181) = some r := H
 have A2 := Aside0.mk A20
 clear A20
 obtain rfl := Option.some.inj H
 go_enter Try.func71, Try.ntmps71
 go_wp2_with (first | ((with_reducible refine gate_callee (f := 103) rfl ?_); refine goesL_ (some 4) rfl rfl Try.func103 (by kernel_rfl) rfl #[.int .i64 a0, .int .i64 0, .int .i64 255] rfl ms ?_; (with_reducible refine (spec_l01In.calls a0 0 255 t181 _ A2.out).mono ?_); rintro e w' ⟨rfl, ⟨nd, rfl⟩⟩; refine ⟨_, rfl, ?_⟩))
 go_ret
 exact ⟨by first | rfl | (simp; done) | (simp [*]; done), by repeat (first | exact Drawn0.refl _ | apply Drawn0.step)⟩

/-! ### spec_BusOf: function 72 -/
def spec_BusOf.f (a0 : Int) : Option (Int) := (spec_IsId.f a0).bind fun t182 => (if t182 = true then (some (wrap64 (Int.tdiv a0 16))) else (some (-1)))
set_option maxHeartbeats 8000000 in
set_option maxRecDepth 100000 in
theorem spec_BusOf.calls (a0 : Int) (r : Int) (w : World) (h : spec_BusOf.f a0 = some r) :
  Calls Try.prog 72 #[.int .i64 a0] w fun e w' => e = .returned (.int .i64 r) ∧ Drawn0 w w' := by
 have H : ((spec_IsId.f a0).bind fun t182 => (if t182 = true then (some (wrap64 (Int.tdiv a0 16))) else (some (-1)))) = some r := h
 clear h
 replace H := Option.bind_eq_some_iff.mp H
 obtain ⟨t182, A20, H⟩ := H
 replace H : (if t182 = true then (some (wrap64 (Int.tdiv a0 16))) else (some (-1))) = some r := H
 have A2 := Aside0.mk A20
 clear A20
 by_cases c3 : t182 = true
 ·subst c3
  have H1 : (some (wrap64 (Int.tdiv a0 16))) = some r := by rw [if_pos rfl] at H; exact H
  clear H
  have H := H1
  clear H1
  obtain rfl := Option.some.inj H
  go_enter Try.func72, Try.ntmps72
  go_wp2_with (first | ((with_reducible refine gate_callee (f := 71) rfl ?_); refine goesL_ (some 4) rfl rfl Try.func71 (by kernel_rfl) rfl #[.int .i64 a0] rfl ms ?_; (with_reducible refine (spec_IsId.calls a0 true _ A2.out).mono ?_); rintro e w' ⟨rfl, ⟨nd, rfl⟩⟩; refine ⟨_, rfl, ?_⟩))
  go_ret
  exact ⟨by first | rfl | (simp; done) | (simp [*]; done), by repeat (first | exact Drawn0.refl _ | apply Drawn0.step)⟩
 ·replace c3 := Bool.eq_false_iff.mpr c3
  subst c3
  have H1 : (some (-1)) = some r := by rw [if_neg (show ¬ (false = true) by decide)] at H; exact H
  clear H
  have H := H1
  clear H1
  obtain rfl := Option.some.inj H
  go_enter Try.func72, Try.ntmps72
  go_wp2_with (first | ((with_reducible refine gate_callee (f := 71) rfl ?_); refine goesL_ (some 4) rfl rfl Try.func71 (by kernel_rfl) rfl #[.int .i64 a0] rfl ms ?_; (with_reducible refine (spec_IsId.calls a0 false _ A2.out).mono ?_); rintro e w' ⟨rfl, ⟨nd, rfl⟩⟩; refine ⟨_, rfl, ?_⟩))
  go_ret
  exact ⟨by first | rfl | (simp; done) | (simp [*]; done), by repeat (first | exact Drawn0.refl _ | apply Drawn0.step)⟩

/-! ### spec_DeviceOf: function 119 -/
def spec_DeviceOf.f (a0 : Int) : Option (Int) := (spec_IsId.f a0).bind fun t183 => (if t183 = true then (some (Int.tmod (wrap64 (Int.tdiv a0 4)) 4)) else (some (-1)))
set_option maxHeartbeats 8000000 in
set_option maxRecDepth 100000 in
theorem spec_DeviceOf.calls (a0 : Int) (r : Int) (w : World) (h : spec_DeviceOf.f a0 = some r) :
  Calls Try.prog 119 #[.int .i64 a0] w fun e w' => e = .returned (.int .i64 r) ∧ Drawn0 w w' := by
 have H : ((spec_IsId.f a0).bind fun t183 => (if t183 = true then (some (Int.tmod (wrap64 (Int.tdiv a0 4)) 4)) else (some (-1)))) = some r := h
 clear h
 replace H := Option.bind_eq_some_iff.mp H
 obtain ⟨t183, A20, H⟩ := H
 replace H : (if t183 = true then (some (Int.tmod (wrap64 (Int.tdiv a0 4)) 4)) else (some (-1))) = some r := H
 have A2 := Aside0.mk A20
 clear A20
 by_cases c3 : t183 = true
 ·subst c3
  have H1 : (some (Int.tmod (wrap64 (Int.tdiv a0 4)) 4)) = some r := by rw [if_pos rfl] at H; exact H
  clear H
  have H := H1
  clear H1
  obtain rfl := Option.some.inj H
  go_enter Try.func119, Try.ntmps119
  go_wp2_with (first | ((with_reducible refine gate_callee (f := 71) rfl ?_); refine goesL_ (some 4) rfl rfl Try.func71 (by kernel_rfl) rfl #[.int .i64 a0] rfl ms ?_; (with_reducible refine (spec_IsId.calls a0 true _ A2.out).mono ?_); rintro e w' ⟨rfl, ⟨nd, rfl⟩⟩; refine ⟨_, rfl, ?_⟩))
  go_ret
  exact ⟨by first | rfl | (simp; done) | (simp [*]; done), by repeat (first | exact Drawn0.refl _ | apply Drawn0.step)⟩
 ·replace c3 := Bool.eq_false_iff.mpr c3
  subst c3
  have H1 : (some (-1)) = some r := by rw [if_neg (show ¬ (false = true) by decide)] at H; exact H
  clear H
  have H := H1
  clear H1
  obtain rfl := Option.some.inj H
  go_enter Try.func119, Try.ntmps119
  go_wp2_with (first | ((with_reducible refine gate_callee (f := 71) rfl ?_); refine goesL_ (some 4) rfl rfl Try.func71 (by kernel_rfl) rfl #[.int .i64 a0] rfl ms ?_; (with_reducible refine (spec_IsId.calls a0 false _ A2.out).mono ?_); rintro e w' ⟨rfl, ⟨nd, rfl⟩⟩; refine ⟨_, rfl, ?_⟩))
  go_ret
  exact ⟨by first | rfl | (simp; done) | (simp [*]; done), by repeat (first | exact Drawn0.refl _ | apply Drawn0.step)⟩

end Go.Proofs.Ytbbppknnkghkjaa.PFnExactDownToId
