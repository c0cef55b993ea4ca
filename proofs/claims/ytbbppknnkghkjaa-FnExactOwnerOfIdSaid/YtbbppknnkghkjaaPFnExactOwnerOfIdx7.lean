/- Printed by a program of this session out of the translation: each Go function as a Lean function, with the proof that Go comes to just its answer (no condition beyond what each theorem says). (squeezed) -/
import Derived.Test.YtbbppknnkghkjaaPFnExactOwnerOfIdx0
import Derived.Test.YtbbppknnkghkjaaPFnExactOwnerOfIdx1
import Derived.Test.YtbbppknnkghkjaaPFnExactOwnerOfIdx6
namespace Go.Proofs.Ytbbppknnkghkjaa.PFnExactOwnerOfId
open Go.RowKit Go.Proofs.YtbbppknnkghkjaaW.PrintWords Go.Proofs.YtbbppknnkghkjaaW.PrintLast Go.Proofs.YtbbppknnkghkjaaW.PrintMore Go.Proofs.Ytbbppknnkghkjaa.Kit
attribute [local go_sem] max2_int min2_int max_two min_two max_three min_three max_four min_four   -- for this text's walks alone
set_option linter.unusedVariables false
set_option linter.unusedSimpArgs false

attribute [local go_sem high] eqA50
/-! ### spec_TreeOk: function 106 -/
mutual
def spec_TreeOk.j0 : Nat → List (S50) → Bool → Option (Bool)
 | 0, _, _ => none
 | k + 1, x0, x16 => if x16 = true then (some false) else (spec_TreeOk.l0 k x0 1)
def spec_TreeOk.l0 : Nat → List (S50) → Int → Option (Bool)
 | 0, _, _ => none
 | k + 1, x0, x3 => if x3 < (x0.length : Int) then (if 0 ≤ x3 then ((spec_l01In.f ((rd_T50 x0 x3).f0) 0 (wrap64 (x3 - 1))).bind fun t254 => (if t254 = true then (if 0 ≤ ((rd_T50 x0 x3).f0) then (if ((rd_T50 x0 x3).f0) < (x0.length : Int) then (if ((rd_T50 x0 ((rd_T50 x0 x3).f0)).f2) = 0 then ((spec_l01In.f ((rd_T50 x0 x3).f1) 0 3).bind fun t256 => (if t256 = true then ((spec_l01In.f ((rd_T50 x0 x3).f2) 0 4).bind fun t257 => (spec_TreeOk.j2 k x0 x3 (!t257) ((rd_T50 x0 x3).f0) ((rd_T50 x0 x3).f1) ((rd_T50 x0 x3).f2))) else (spec_TreeOk.j2 k x0 x3 true ((rd_T50 x0 x3).f0) ((rd_T50 x0 x3).f1) ((rd_T50 x0 x3).f2)))) else (spec_TreeOk.j2 k x0 x3 true ((rd_T50 x0 x3).f0) ((rd_T50 x0 x3).f1) ((rd_T50 x0 x3).f2))) else (none)) else (none)) else (spec_TreeOk.j2 k x0 x3 true ((rd_T50 x0 x3).f0) ((rd_T50 x0 x3).f1) ((rd_T50 x0 x3).f2)))) else (none)) else (some true)
def spec_TreeOk.j2 : Nat → List (S50) → Int → Bool → Int → Int → Int → Option (Bool)
 | 0, _, _, _, _, _, _ => none
 | k + 1, x0, x3, x53, x254000, x254001, x254002 => if x53 = true then (some false) else (spec_TreeOk.l1 k x0 x3 1 x254000 x254001 x254002)
def spec_TreeOk.l1 : Nat → List (S50) → Int → Int → Int → Int → Int → Option (Bool)
 | 0, _, _, _, _, _, _ => none
 | k + 1, x0, x3, x5, x254000, x254001, x254002 => if x5 < x3 then (if 0 ≤ x5 then (if x5 < (x0.length : Int) then (if ((rd_T50 x0 x5).f0) = x254000 then (if ((rd_T50 x0 x5).f1) = x254001 then (some false) else (spec_TreeOk.l1 k x0 x3 (wrap64 (x5 + 1)) x254000 x254001 x254002)) else (spec_TreeOk.l1 k x0 x3 (wrap64 (x5 + 1)) x254000 x254001 x254002)) else (none)) else (none)) else (spec_TreeOk.l0 k x0 (wrap64 (x3 + 1)))
end
def spec_TreeOk.f (k : Nat) (l0 : List (S50)) : Option (Bool) := (spec_l01In.f (l0.length : Int) 1 12).bind fun t250 => (if t250 = true then (if 0 < (l0.length : Int) then (spec_TreeOk.j0 k l0 (!(((rd_T50 l0 0).f0) == (-1)) || (!(((rd_T50 l0 0).f1) == 0) || (!(((rd_T50 l0 0).f2) == 0))))) else (none)) else (spec_TreeOk.j0 k l0 true))
set_option maxHeartbeats 8000000 in
set_option maxRecDepth 100000 in
theorem spec_TreeOk.calls (k : Nat) (A0 : Option Addr) (c0 : Nat) (l0 : List (S50)) (r : Bool) (w : World) (hr0 : Kd.C k50 w A0 l0.length l0) (hc0 : l0.length ≤ c0) (h : spec_TreeOk.f k l0 = some r) :
  Calls Try.prog 106 #[.slice A0 l0.length c0] w fun e w' => e = .returned (.bool r) ∧ Below w.heap.size w w' := by
 have hu50 := Try.underlying50
 have HR0 := Aside0.mk hr0
 have HC0 := Aside0.mk hc0
 clear hr0 hc0
 have HB := Aside0.mk (Below.refl w.heap.size w)
 have H : ((spec_l01In.f (l0.length : Int) 1 12).bind fun t250 => (if t250 = true then (if 0 < (l0.length : Int) then (spec_TreeOk.j0 k l0 (!(((rd_T50 l0 0).f0) == (-1)) || (!(((rd_T50 l0 0).f1) == 0) || (!(((rd_T50 l0 0).f2) == 0))))) else (none)) else (spec_TreeOk.j0 k l0 true))) = some r := h
 clear h
 have HC2 := Aside0.mk H
 clear H
 go_enter Try.func106, Try.ntmps106
 go_upto_region 1 with (fail)
 repeat (go_quiet (fail); go_upto_region 1 with (fail))
 go_cut [16] (fun v16 wc => ∃ (kq : Nat) (x16_1 : Bool), v16 = .bool x16_1 ∧ Aside0 (spec_TreeOk.j0 kq l0 x16_1 = some r) ∧ Aside0 (kq ≤ k) ∧ Aside0 (Below w.heap.size w wc))
 case first =>
  have H := HC2.out
  clear HC2
  replace H := Option.bind_eq_some_iff.mp H
  obtain ⟨t250, A30, H⟩ := H
  replace H : (if t250 = true then (if 0 < (l0.length : Int) then (spec_TreeOk.j0 k l0 (!(((rd_T50 l0 0).f0) == (-1)) || (!(((rd_T50 l0 0).f1) == 0) || (!(((rd_T50 l0 0).f2) == 0))))) else (none)) else (spec_TreeOk.j0 k l0 true)) = some r := H
  have A3 := Aside0.mk A30
  clear A30
  by_cases c4 : t250 = true
  ·subst c4
   have H1 : (if 0 < (l0.length : Int) then (spec_TreeOk.j0 k l0 (!(((rd_T50 l0 0).f0) == (-1)) || (!(((rd_T50 l0 0).f1) == 0) || (!(((rd_T50 l0 0).f2) == 0))))) else (none)) = some r := by rw [if_pos rfl] at H; exact H
   clear H
   have H := H1
   clear H1
   by_cases c5 : 0 < (l0.length : Int)
   ·rw [if_pos c5] at H
    have c5b0 : decide (0 < (l0.length : Int)) = true := decide_eq_true c5
    have c5b1 : decide (0 < l0.length) = true := decide_eq_true (by omega)
    clear c5
    (first | rw [c5b0] | (simp only [i64_w, i32_w]; rw [c5b0]) | skip)
    have H' := Aside0.mk H
    clear H
    go_wp2_with (first | (go_at_call 103; (with_reducible refine (spec_l01In.calls (l0.length : Int) 1 12 true _ A3.out).mono ?_); rintro e w' ⟨rfl, ⟨nd, rfl⟩⟩; (try first | exact ⟨rfl, _, World.drewN_drewN _ _ _⟩ | exact ⟨rfl, _, Eq.trans (World.drewN_drewN _ _ _) (congrArg (World.drewN _) (Nat.add_assoc _ _ _))⟩); have p251 : 0 ≤ (0 : Int) := (by omega); have q251 : 0 < (l0.length : Int) := of_decide_eq_true (by first | (with_reducible assumption) | assumption); obtain ⟨ad251, e251, hx251_0, hx251_1, hx251_2⟩ := at_T50 HR0.out 0 p251 q251; cases e251; have qi251 : (0 < l0.length) = True := eq_true (by omega); (try rw [show ((0 : Int)).toNat = 0 from rfl] at hx251_0); (try rw [show 0 * 3 = 0 from rfl] at hx251_0); (try rw [Addr.add_zero'] at hx251_0); (try rw [show ((0 : Int)).toNat = 0 from rfl] at hx251_1); (try rw [show 0 * 3 = 0 from rfl] at hx251_1); (try rw [Addr.add_zero'] at hx251_1); (try rw [show ((0 : Int)).toNat = 0 from rfl] at hx251_2); (try rw [show 0 * 3 = 0 from rfl] at hx251_2); (try rw [Addr.add_zero'] at hx251_2); replace hx251_0 := pw_cell_below HB.out hx251_0; replace hx251_1 := pw_cell_below HB.out hx251_1; replace hx251_2 := pw_cell_below HB.out hx251_2; replace p251 := eq_true p251; replace q251 := eq_true q251))
    repeat (go_quiet (first | (go_at_call 103; (with_reducible refine (spec_l01In.calls (l0.length : Int) 1 12 true _ A3.out).mono ?_); rintro e w' ⟨rfl, ⟨nd, rfl⟩⟩; (try first | exact ⟨rfl, _, World.drewN_drewN _ _ _⟩ | exact ⟨rfl, _, Eq.trans (World.drewN_drewN _ _ _) (congrArg (World.drewN _) (Nat.add_assoc _ _ _))⟩); have p251 : 0 ≤ (0 : Int) := (by omega); have q251 : 0 < (l0.length : Int) := of_decide_eq_true (by first | (with_reducible assumption) | assumption); obtain ⟨ad251, e251, hx251_0, hx251_1, hx251_2⟩ := at_T50 HR0.out 0 p251 q251; cases e251; have qi251 : (0 < l0.length) = True := eq_true (by omega); (try rw [show ((0 : Int)).toNat = 0 from rfl] at hx251_0); (try rw [show 0 * 3 = 0 from rfl] at hx251_0); (try rw [Addr.add_zero'] at hx251_0); (try rw [show ((0 : Int)).toNat = 0 from rfl] at hx251_1); (try rw [show 0 * 3 = 0 from rfl] at hx251_1); (try rw [Addr.add_zero'] at hx251_1); (try rw [show ((0 : Int)).toNat = 0 from rfl] at hx251_2); (try rw [show 0 * 3 = 0 from rfl] at hx251_2); (try rw [Addr.add_zero'] at hx251_2); replace hx251_0 := pw_cell_below HB.out hx251_0; replace hx251_1 := pw_cell_below HB.out hx251_1; replace hx251_2 := pw_cell_below HB.out hx251_2; replace p251 := eq_true p251; replace q251 := eq_true q251)); try go_wp2_with (first | (go_at_call 103; (with_reducible refine (spec_l01In.calls (l0.length : Int) 1 12 true _ A3.out).mono ?_); rintro e w' ⟨rfl, ⟨nd, rfl⟩⟩; (try first | exact ⟨rfl, _, World.drewN_drewN _ _ _⟩ | exact ⟨rfl, _, Eq.trans (World.drewN_drewN _ _ _) (congrArg (World.drewN _) (Nat.add_assoc _ _ _))⟩); have p251 : 0 ≤ (0 : Int) := (by omega); have q251 : 0 < (l0.length : Int) := of_decide_eq_true (by first | (with_reducible assumption) | assumption); obtain ⟨ad251, e251, hx251_0, hx251_1, hx251_2⟩ := at_T50 HR0.out 0 p251 q251; cases e251; have qi251 : (0 < l0.length) = True := eq_true (by omega); (try rw [show ((0 : Int)).toNat = 0 from rfl] at hx251_0); (try rw [show 0 * 3 = 0 from rfl] at hx251_0); (try rw [Addr.add_zero'] at hx251_0); (try rw [show ((0 : Int)).toNat = 0 from rfl] at hx251_1); (try rw [show 0 * 3 = 0 from rfl] at hx251_1); (try rw [Addr.add_zero'] at hx251_1); (try rw [show ((0 : Int)).toNat = 0 from rfl] at hx251_2); (try rw [show 0 * 3 = 0 from rfl] at hx251_2); (try rw [Addr.add_zero'] at hx251_2); replace hx251_0 := pw_cell_below HB.out hx251_0; replace hx251_1 := pw_cell_below HB.out hx251_1; replace hx251_2 := pw_cell_below HB.out hx251_2; replace p251 := eq_true p251; replace q251 := eq_true q251)))
    go_meet
    case rel => exact ⟨_, ((!(((rd_T50 l0 0).f0) == (-1)) || (!(((rd_T50 l0 0).f1) == 0) || (!(((rd_T50 l0 0).f2) == 0))))), (by first | rfl | (simp; done) | (simp [*]; done)), H', ⟨by first | omega | exact Nat.le_refl _⟩, ⟨bb⟩⟩
   ·rw [if_neg c5] at H
    exact absurd H (by simp)
  ·replace c4 := Bool.eq_false_iff.mpr c4
   subst c4
   have H1 : (spec_TreeOk.j0 k l0 true) = some r := by rw [if_neg (show ¬ (false = true) by decide)] at H; exact H
   clear H
   have H := H1
   clear H1
   have H' := Aside0.mk H
   clear H
   go_wp2_with (first | (go_at_call 103; (with_reducible refine (spec_l01In.calls (l0.length : Int) 1 12 false _ A3.out).mono ?_); rintro e w' ⟨rfl, ⟨nd, rfl⟩⟩; (try first | exact ⟨rfl, _, World.drewN_drewN _ _ _⟩ | exact ⟨rfl, _, Eq.trans (World.drewN_drewN _ _ _) (congrArg (World.drewN _) (Nat.add_assoc _ _ _))⟩)))
   repeat (go_quiet (first | (go_at_call 103; (with_reducible refine (spec_l01In.calls (l0.length : Int) 1 12 false _ A3.out).mono ?_); rintro e w' ⟨rfl, ⟨nd, rfl⟩⟩; (try first | exact ⟨rfl, _, World.drewN_drewN _ _ _⟩ | exact ⟨rfl, _, Eq.trans (World.drewN_drewN _ _ _) (congrArg (World.drewN _) (Nat.add_assoc _ _ _))⟩))); try go_wp2_with (first | (go_at_call 103; (with_reducible refine (spec_l01In.calls (l0.length : Int) 1 12 false _ A3.out).mono ?_); rintro e w' ⟨rfl, ⟨nd, rfl⟩⟩; (try first | exact ⟨rfl, _, World.drewN_drewN _ _ _⟩ | exact ⟨rfl, _, Eq.trans (World.drewN_drewN _ _ _) (congrArg (World.drewN _) (Nat.add_assoc _ _ _))⟩))))
   go_meet
   case rel => exact ⟨_, (true), (by first | rfl | (simp; done) | (simp [*]; done)), H', ⟨by first | omega | exact Nat.le_refl _⟩, ⟨bb⟩⟩
 case rest =>
  clear HC2
  try clear c1
  try clear p2
  try clear q2
  try clear hx2
  try clear qi2
  try clear c4
  try clear c5
  try clear c5b0
  try clear c5b1
  try clear hx251_0
  try clear hx251_1
  try clear hx251_2
  try clear p251
  try clear q251
  obtain ⟨kq, x16_1, rfl, HA, HJ1, HB⟩ := hcut
  cases kq with
  | zero => exact absurd HA.out (by simp [spec_TreeOk.j0])
  | succ kj1 =>
   have H := HA.out
   clear HA
   simp only [spec_TreeOk.j0] at H
   by_cases c6 : x16_1 = true
   ·subst c6
    have H1 : (some false) = some r := by rw [if_pos rfl] at H; exact H
    clear H
    have H := H1
    clear H1
    obtain rfl := Option.some.inj H
    go_wp2
    repeat (go_quiet (fail); try go_wp2)
    go_ret
    exact ⟨by first | rfl | (simp [errW_none, errW_some] <;> rfl) | (simp [*, errW_none, errW_some] <;> rfl), bb⟩
   ·replace c6 := Bool.eq_false_iff.mpr c6
    subst c6
    have H1 : (spec_TreeOk.l0 kj1 l0 1) = some r := by rw [if_neg (show ¬ (false = true) by decide)] at H; exact H
    clear H
    have H := H1
    clear H1
    have H' := Aside0.mk H
    clear H
    go_wp2
    repeat (go_quiet (fail); try go_wp2)
    go_loopg [3] kj1 (fun kq v3 w' => ∃ (x3_2 : Int), v3 = .int .i64 x3_2 ∧ Aside0 (spec_TreeOk.l0 kq l0 x3_2 = some r) ∧ Aside0 (kq ≤ kj1) ∧ Aside0 (Below w.heap.size w w'))
    case atStart => exact ⟨(1), (by first | rfl | (simp; done) | (simp [*]; done)), H', ⟨Nat.le_refl _⟩, ⟨bb⟩⟩
    case round =>
     clear H'
     try clear c1
     try clear p2
     try clear q2
     try clear hx2
     try clear qi2
     try clear c4
     try clear c5
     try clear c5b0
     try clear c5b1
     try clear c6
     try clear hx251_0
     try clear hx251_1
     try clear hx251_2
     try clear p2
     try clear p251
     try clear q2
     try clear q251
     obtain ⟨x3_2, rfl, HA, HK2, HB⟩ := hrel
     cases gk with
     | zero => exact absurd HA.out (by simp [spec_TreeOk.l0])
     | succ k2 =>
      have H := HA.out
      clear HA
      simp only [spec_TreeOk.l0] at H
      by_cases c7 : x3_2 < (l0.length : Int)
      ·rw [if_pos c7] at H
       have c7b0 : decide (x3_2 < (l0.length : Int)) = true := decide_eq_true c7
       clear c7
       by_cases c8 : 0 ≤ x3_2
       ·rw [if_pos c8] at H
        have c8b0 : decide (0 ≤ x3_2) = true := decide_eq_true c8
        clear c8
        have HC9 := Aside0.mk H
        clear H
        have p252 : 0 ≤ (x3_2 : Int) := of_decide_eq_true (by first | (with_reducible assumption) | assumption)
        have q252 : x3_2 < (l0.length : Int) := of_decide_eq_true (by first | (with_reducible assumption) | assumption)
        obtain ⟨ad252, e252, hx252_0, hx252_1, hx252_2⟩ := at_T50 HR0.out x3_2 p252 q252
        cases e252
        replace hx252_0 := pw_cell_below HB.out hx252_0
        replace hx252_1 := pw_cell_below HB.out hx252_1
        replace hx252_2 := pw_cell_below HB.out hx252_2
        replace p252 := eq_true p252
        replace q252 := eq_true q252
        go_upto_region 7 with (first | ((with_reducible refine gate_dst (N := 4) rfl ?_); refine box_event ?hg (N := 4) ?hd (cs := #[.int .i64 0, .int .i64 0, .int .i64 0]) (t := 50) ?hr ?_; (case hd => rfl); (case hg => rfl); (case hr => first | (go_simp; done) | (go_simp; rfl)); intro gb253 hg w10 hbox hb; have n0_ := Aside0.mk (below_step bb hb); have n1_ := Aside0.mk (hbox); have n2_ := Aside0.mk ((by rw [hg]; exact (below_size bb) : w.heap.size ≤ gb253)); have n3_ := Aside0.mk ((by rw [hg]; exact (below_size bb) : w.heap.size ≤ gb253)); clear HB; have HB := n0_; have BK253 := n1_; have GW253 := n2_; have GE253 := n3_; clear n0_ n1_ n2_ n3_; clear hb hbox hg; obtain ⟨hcz11_0, hcz11_1, hcz11_2, hfz11_0, hfz11_1, hfz11_2⟩ := bx3 BK253.out))
        repeat (go_quiet (first | ((with_reducible refine gate_dst (N := 4) rfl ?_); refine box_event ?hg (N := 4) ?hd (cs := #[.int .i64 0, .int .i64 0, .int .i64 0]) (t := 50) ?hr ?_; (case hd => rfl); (case hg => rfl); (case hr => first | (go_simp; done) | (go_simp; rfl)); intro gb253 hg w10 hbox hb; have n0_ := Aside0.mk (below_step bb hb); have n1_ := Aside0.mk (hbox); have n2_ := Aside0.mk ((by rw [hg]; exact (below_size bb) : w.heap.size ≤ gb253)); have n3_ := Aside0.mk ((by rw [hg]; exact (below_size bb) : w.heap.size ≤ gb253)); clear HB; have HB := n0_; have BK253 := n1_; have GW253 := n2_; have GE253 := n3_; clear n0_ n1_ n2_ n3_; clear hb hbox hg; obtain ⟨hcz11_0, hcz11_1, hcz11_2, hfz11_0, hfz11_1, hfz11_2⟩ := bx3 BK253.out)); go_upto_region 7 with (first | ((with_reducible refine gate_dst (N := 4) rfl ?_); refine box_event ?hg (N := 4) ?hd (cs := #[.int .i64 0, .int .i64 0, .int .i64 0]) (t := 50) ?hr ?_; (case hd => rfl); (case hg => rfl); (case hr => first | (go_simp; done) | (go_simp; rfl)); intro gb253 hg w10 hbox hb; have n0_ := Aside0.mk (below_step bb hb); have n1_ := Aside0.mk (hbox); have n2_ := Aside0.mk ((by rw [hg]; exact (below_size bb) : w.heap.size ≤ gb253)); have n3_ := Aside0.mk ((by rw [hg]; exact (below_size bb) : w.heap.size ≤ gb253)); clear HB; have HB := n0_; have BK253 := n1_; have GW253 := n2_; have GE253 := n3_; clear n0_ n1_ n2_ n3_; clear hb hbox hg; obtain ⟨hcz11_0, hcz11_1, hcz11_2, hfz11_0, hfz11_1, hfz11_2⟩ := bx3 BK253.out)))
        (try simp only [Act.put, List.setIfInBounds_toArray, List.set_cons_zero, List.set_cons_succ])
        go_cut [53] (fun v53 wc => ∃ (kq : Nat) (x53_8 : Bool), v53 = .bool x53_8 ∧ Aside0 (spec_TreeOk.j2 kq l0 x3_2 x53_8 ((rd_T50 l0 x3_2).f0) ((rd_T50 l0 x3_2).f1) ((rd_T50 l0 x3_2).f2) = some r) ∧ Aside0 (kq ≤ k2) ∧ Aside0 (wc.heap[gb253]? = some (.cells #[.int .i64 ((rd_T50 l0 x3_2).f0), .int .i64 ((rd_T50 l0 x3_2).f1), .int .i64 ((rd_T50 l0 x3_2).f2)] 50 (0, 0))) ∧ Aside0 (Below w.heap.size w wc))
        case first =>
         have H := HC9.out
         clear HC9
         replace H := Option.bind_eq_some_iff.mp H
         obtain ⟨t254, A120, H⟩ := H
         replace H : (if t254 = true then (if 0 ≤ ((rd_T50 l0 x3_2).f0) then (if ((rd_T50 l0 x3_2).f0) < (l0.length : Int) then (if ((rd_T50 l0 ((rd_T50 l0 x3_2).f0)).f2) = 0 then ((spec_l01In.f ((rd_T50 l0 x3_2).f1) 0 3).bind fun t256 => (if t256 = true then ((spec_l01In.f ((rd_T50 l0 x3_2).f2) 0 4).bind fun t257 => (spec_TreeOk.j2 k2 l0 x3_2 (!t257) ((rd_T50 l0 x3_2).f0) ((rd_T50 l0 x3_2).f1) ((rd_T50 l0 x3_2).f2))) else (spec_TreeOk.j2 k2 l0 x3_2 true ((rd_T50 l0 x3_2).f0) ((rd_T50 l0 x3_2).f1) ((rd_T50 l0 x3_2).f2)))) else (spec_TreeOk.j2 k2 l0 x3_2 true ((rd_T50 l0 x3_2).f0) ((rd_T50 l0 x3_2).f1) ((rd_T50 l0 x3_2).f2))) else (none)) else (none)) else (spec_TreeOk.j2 k2 l0 x3_2 true ((rd_T50 l0 x3_2).f0) ((rd_T50 l0 x3_2).f1) ((rd_T50 l0 x3_2).f2))) = some r := H
         have A12 := Aside0.mk A120
         clear A120
         by_cases c13 : t254 = true
         ·subst c13
          have H1 : (if 0 ≤ ((rd_T50 l0 x3_2).f0) then (if ((rd_T50 l0 x3_2).f0) < (l0.length : Int) then (if ((rd_T50 l0 ((rd_T50 l0 x3_2).f0)).f2) = 0 then ((spec_l01In.f ((rd_T50 l0 x3_2).f1) 0 3).bind fun t256 => (if t256 = true then ((spec_l01In.f ((rd_T50 l0 x3_2).f2) 0 4).bind fun t257 => (spec_TreeOk.j2 k2 l0 x3_2 (!t257) ((rd_T50 l0 x3_2).f0) ((rd_T50 l0 x3_2).f1) ((rd_T50 l0 x3_2).f2))) else (spec_TreeOk.j2 k2 l0 x3_2 true ((rd_T50 l0 x3_2).f0) ((rd_T50 l0 x3_2).f1) ((rd_T50 l0 x3_2).f2)))) else (spec_TreeOk.j2 k2 l0 x3_2 true ((rd_T50 l0 x3_2).f0) ((rd_T50 l0 x3_2).f1) ((rd_T50 l0 x3_2).f2))) else (none)) else (none)) = some r := by rw [if_pos rfl] at H; exact H
          clear H
          have H := H1
          clear H1
          by_cases c14 : 0 ≤ ((rd_T50 l0 x3_2).f0)
          ·rw [if_pos c14] at H
           have c14b0 : decide (0 ≤ ((rd_T50 l0 x3_2).f0)) = true := decide_eq_true c14
           clear c14
           (first | rw [c14b0] | (simp only [i64_w, i32_w]; rw [c14b0]) | skip)
           by_cases c15 : ((rd_T50 l0 x3_2).f0) < (l0.length : Int)
           ·rw [if_pos c15] at H
            have c15b0 : decide (((rd_T50 l0 x3_2).f0) < (l0.length : Int)) = true := decide_eq_true c15
            clear c15
            by_cases c16 : ((rd_T50 l0 ((rd_T50 l0 x3_2).f0)).f2) = 0
            ·rw [if_pos c16] at H
             have c16b0 : (((rd_T50 l0 ((rd_T50 l0 x3_2).f0)).f2) == 0) = true := beq_iff_eq.mpr c16
             have c16b1 : (((rd_T50 l0 ((rd_T50 l0 x3_2).f0)).f2) != 0) = false := bne_eq_false_iff_eq.mpr c16
             clear c16
             replace H := Option.bind_eq_some_iff.mp H
             obtain ⟨t256, A170, H⟩ := H
             replace H : (if t256 = true then ((spec_l01In.f ((rd_T50 l0 x3_2).f2) 0 4).bind fun t257 => (spec_TreeOk.j2 k2 l0 x3_2 (!t257) ((rd_T50 l0 x3_2).f0) ((rd_T50 l0 x3_2).f1) ((rd_T50 l0 x3_2).f2))) else (spec_TreeOk.j2 k2 l0 x3_2 true ((rd_T50 l0 x3_2).f0) ((rd_T50 l0 x3_2).f1) ((rd_T50 l0 x3_2).f2))) = some r := H
             have A17 := Aside0.mk A170
             clear A170
             by_cases c18 : t256 = true
             ·subst c18
              have H1 : ((spec_l01In.f ((rd_T50 l0 x3_2).f2) 0 4).bind fun t257 => (spec_TreeOk.j2 k2 l0 x3_2 (!t257) ((rd_T50 l0 x3_2).f0) ((rd_T50 l0 x3_2).f1) ((rd_T50 l0 x3_2).f2))) = some r := by rw [if_pos rfl] at H; exact H
              clear H
              have H := H1
              clear H1
              replace H := Option.bind_eq_some_iff.mp H
              obtain ⟨t257, A190, H⟩ := H
              replace H : (spec_TreeOk.j2 k2 l0 x3_2 (!t257) ((rd_T50 l0 x3_2).f0) ((rd_T50 l0 x3_2).f1) ((rd_T50 l0 x3_2).f2)) = some r := H
              have A19 := Aside0.mk A190
              clear A190
              have H' := Aside0.mk H
              clear H
              obtain ⟨hcz20_0, hcz20_1, hcz20_2, hfz20_0, hfz20_1, hfz20_2⟩ := bx3 BK253.out
              go_wp2_with (first | (go_at_call 103; (with_reducible refine (spec_l01In.calls ((rd_T50 l0 x3_2).f0) 0 (wrap64 (x3_2 - 1)) true _ A12.out).mono ?_); rintro e w' ⟨rfl, ⟨nd, rfl⟩⟩; (try first | exact ⟨rfl, _, World.drewN_drewN _ _ _⟩ | exact ⟨rfl, _, Eq.trans (World.drewN_drewN _ _ _) (congrArg (World.drewN _) (Nat.add_assoc _ _ _))⟩); have p255 : 0 ≤ (((rd_T50 l0 x3_2).f0) : Int) := of_decide_eq_true (by first | (with_reducible assumption) | assumption); have q255 : ((rd_T50 l0 x3_2).f0) < (l0.length : Int) := of_decide_eq_true (by first | (with_reducible assumption) | assumption); obtain ⟨ad255, e255, hx255_0, hx255_1, hx255_2⟩ := at_T50 HR0.out ((rd_T50 l0 x3_2).f0) p255 q255; obtain rfl : ad252 = ad255 := (by injection e255); have hn255_0 : ad252.block ≠ gb253 := Nat.ne_of_lt (Nat.lt_of_lt_of_le (by have := World.block_lt_of_cell? _ _ hx255_0; first | rwa [add_block] at this | exact this) GW253.out); have hn255_1 : ad252.block ≠ gb253 := Nat.ne_of_lt (Nat.lt_of_lt_of_le (by have := World.block_lt_of_cell? _ _ hx255_0; first | rwa [add_block] at this | exact this) GW253.out); have hn255_2 : ad252.block ≠ gb253 := Nat.ne_of_lt (Nat.lt_of_lt_of_le (by have := World.block_lt_of_cell? _ _ hx255_0; first | rwa [add_block] at this | exact this) GW253.out); replace hx255_0 := pw_cell_below HB.out hx255_0; replace hx255_1 := pw_cell_below HB.out hx255_1; replace hx255_2 := pw_cell_below HB.out hx255_2; replace hx255_0 := (cell_far (p := ⟨gb253, 0, none⟩) (by first | (rw [add_block]; exact hn255_0) | (show (Addr.add _ _).block ≠ _; rw [add_block]; exact hn255_0) | exact hn255_0) (.int .i64 ((rd_T50 l0 x3_2).f0))).trans hx255_0; replace hx255_1 := (cell_far (p := ⟨gb253, 0, none⟩) (by first | (rw [add_block]; exact hn255_0) | (show (Addr.add _ _).block ≠ _; rw [add_block]; exact hn255_0) | exact hn255_0) (.int .i64 ((rd_T50 l0 x3_2).f0))).trans hx255_1; replace hx255_2 := (cell_far (p := ⟨gb253, 0, none⟩) (by first | (rw [add_block]; exact hn255_0) | (show (Addr.add _ _).block ≠ _; rw [add_block]; exact hn255_0) | exact hn255_0) (.int .i64 ((rd_T50 l0 x3_2).f0))).trans hx255_2; replace hx255_0 := (cell_far (p := ⟨gb253, 1, none⟩) (by first | (rw [add_block]; exact hn255_1) | (show (Addr.add _ _).block ≠ _; rw [add_block]; exact hn255_1) | exact hn255_1) (.int .i64 ((rd_T50 l0 x3_2).f1))).trans hx255_0; replace hx255_1 := (cell_far (p := ⟨gb253, 1, none⟩) (by first | (rw [add_block]; exact hn255_1) | (show (Addr.add _ _).block ≠ _; rw [add_block]; exact hn255_1) | exact hn255_1) (.int .i64 ((rd_T50 l0 x3_2).f1))).trans hx255_1; replace hx255_2 := (cell_far (p := ⟨gb253, 1, none⟩) (by first | (rw [add_block]; exact hn255_1) | (show (Addr.add _ _).block ≠ _; rw [add_block]; exact hn255_1) | exact hn255_1) (.int .i64 ((rd_T50 l0 x3_2).f1))).trans hx255_2; replace hx255_0 := (cell_far (p := ⟨gb253, 2, none⟩) (by first | (rw [add_block]; exact hn255_2) | (show (Addr.add _ _).block ≠ _; rw [add_block]; exact hn255_2) | exact hn255_2) (.int .i64 ((rd_T50 l0 x3_2).f2))).trans hx255_0; replace hx255_1 := (cell_far (p := ⟨gb253, 2, none⟩) (by first | (rw [add_block]; exact hn255_2) | (show (Addr.add _ _).block ≠ _; rw [add_block]; exact hn255_2) | exact hn255_2) (.int .i64 ((rd_T50 l0 x3_2).f2))).trans hx255_1; replace hx255_2 := (cell_far (p := ⟨gb253, 2, none⟩) (by first | (rw [add_block]; exact hn255_2) | (show (Addr.add _ _).block ≠ _; rw [add_block]; exact hn255_2) | exact hn255_2) (.int .i64 ((rd_T50 l0 x3_2).f2))).trans hx255_2; (try have hy255_0 := fun (n_ : Nat) => (show (((((w10.drewN n_).setCell ⟨gb253, 0, none⟩ (.int .i64 ((rd_T50 l0 x3_2).f0))).setCell ⟨gb253, 1, none⟩ (.int .i64 ((rd_T50 l0 x3_2).f1))).setCell ⟨gb253, 2, none⟩ (.int .i64 ((rd_T50 l0 x3_2).f2)))).cell? _ = some _ from hx255_0)); (try have hy255_1 := fun (n_ : Nat) => (show (((((w10.drewN n_).setCell ⟨gb253, 0, none⟩ (.int .i64 ((rd_T50 l0 x3_2).f0))).setCell ⟨gb253, 1, none⟩ (.int .i64 ((rd_T50 l0 x3_2).f1))).setCell ⟨gb253, 2, none⟩ (.int .i64 ((rd_T50 l0 x3_2).f2)))).cell? _ = some _ from hx255_1)); (try have hy255_2 := fun (n_ : Nat) => (show (((((w10.drewN n_).setCell ⟨gb253, 0, none⟩ (.int .i64 ((rd_T50 l0 x3_2).f0))).setCell ⟨gb253, 1, none⟩ (.int .i64 ((rd_T50 l0 x3_2).f1))).setCell ⟨gb253, 2, none⟩ (.int .i64 ((rd_T50 l0 x3_2).f2)))).cell? _ = some _ from hx255_2)); clear hn255_0; clear hn255_1; clear hn255_2; replace p255 := eq_true p255; replace q255 := eq_true q255) | (go_at_call 103; (with_reducible refine (spec_l01In.calls ((rd_T50 l0 x3_2).f1) 0 3 true _ A17.out).mono ?_); rintro e w' ⟨rfl, ⟨nd, rfl⟩⟩; (try first | exact ⟨rfl, _, World.drewN_drewN _ _ _⟩ | exact ⟨rfl, _, Eq.trans (World.drewN_drewN _ _ _) (congrArg (World.drewN _) (Nat.add_assoc _ _ _))⟩)) | (go_at_call 103; (with_reducible refine (spec_l01In.calls ((rd_T50 l0 x3_2).f2) 0 4 t257 _ A19.out).mono ?_); rintro e w' ⟨rfl, ⟨nd, rfl⟩⟩; (try first | exact ⟨rfl, _, World.drewN_drewN _ _ _⟩ | exact ⟨rfl, _, Eq.trans (World.drewN_drewN _ _ _) (congrArg (World.drewN _) (Nat.add_assoc _ _ _))⟩)))
              repeat (go_quiet (first | (go_at_call 103; (with_reducible refine (spec_l01In.calls ((rd_T50 l0 x3_2).f0) 0 (wrap64 (x3_2 - 1)) true _ A12.out).mono ?_); rintro e w' ⟨rfl, ⟨nd, rfl⟩⟩; (try first | exact ⟨rfl, _, World.drewN_drewN _ _ _⟩ | exact ⟨rfl, _, Eq.trans (World.drewN_drewN _ _ _) (congrArg (World.drewN _) (Nat.add_assoc _ _ _))⟩); have p255 : 0 ≤ (((rd_T50 l0 x3_2).f0) : Int) := of_decide_eq_true (by first | (with_reducible assumption) | assumption); have q255 : ((rd_T50 l0 x3_2).f0) < (l0.length : Int) := of_decide_eq_true (by first | (with_reducible assumption) | assumption); obtain ⟨ad255, e255, hx255_0, hx255_1, hx255_2⟩ := at_T50 HR0.out ((rd_T50 l0 x3_2).f0) p255 q255; obtain rfl : ad252 = ad255 := (by injection e255); have hn255_0 : ad252.block ≠ gb253 := Nat.ne_of_lt (Nat.lt_of_lt_of_le (by have := World.block_lt_of_cell? _ _ hx255_0; first | rwa [add_block] at this | exact this) GW253.out); have hn255_1 : ad252.block ≠ gb253 := Nat.ne_of_lt (Nat.lt_of_lt_of_le (by have := World.block_lt_of_cell? _ _ hx255_0; first | rwa [add_block] at this | exact this) GW253.out); have hn255_2 : ad252.block ≠ gb253 := Nat.ne_of_lt (Nat.lt_of_lt_of_le (by have := World.block_lt_of_cell? _ _ hx255_0; first | rwa [add_block] at this | exact this) GW253.out); replace hx255_0 := pw_cell_below HB.out hx255_0; replace hx255_1 := pw_cell_below HB.out hx255_1; replace hx255_2 := pw_cell_below HB.out hx255_2; replace hx255_0 := (cell_far (p := ⟨gb253, 0, none⟩) (by first | (rw [add_block]; exact hn255_0) | (show (Addr.add _ _).block ≠ _; rw [add_block]; exact hn255_0) | exact hn255_0) (.int .i64 ((rd_T50 l0 x3_2).f0))).trans hx255_0; replace hx255_1 := (cell_far (p := ⟨gb253, 0, none⟩) (by first | (rw [add_block]; exact hn255_0) | (show (Addr.add _ _).block ≠ _; rw [add_block]; exact hn255_0) | exact hn255_0) (.int .i64 ((rd_T50 l0 x3_2).f0))).trans hx255_1; replace hx255_2 := (cell_far (p := ⟨gb253, 0, none⟩) (by first | (rw [add_block]; exact hn255_0) | (show (Addr.add _ _).block ≠ _; rw [add_block]; exact hn255_0) | exact hn255_0) (.int .i64 ((rd_T50 l0 x3_2).f0))).trans hx255_2; replace hx255_0 := (cell_far (p := ⟨gb253, 1, none⟩) (by first | (rw [add_block]; exact hn255_1) | (show (Addr.add _ _).block ≠ _; rw [add_block]; exact hn255_1) | exact hn255_1) (.int .i64 ((rd_T50 l0 x3_2).f1))).trans hx255_0; replace hx255_1 := (cell_far (p := ⟨gb253, 1, none⟩) (by first | (rw [add_block]; exact hn255_1) | (show (Addr.add _ _).block ≠ _; rw [add_block]; exact hn255_1) | exact hn255_1) (.int .i64 ((rd_T50 l0 x3_2).f1))).trans hx255_1; replace hx255_2 := (cell_far (p := ⟨gb253, 1, none⟩) (by first | (rw [add_block]; exact hn255_1) | (show (Addr.add _ _).block ≠ _; rw [add_block]; exact hn255_1) | exact hn255_1) (.int .i64 ((rd_T50 l0 x3_2).f1))).trans hx255_2; replace hx255_0 := (cell_far (p := ⟨gb253, 2, none⟩) (by first | (rw [add_block]; exact hn255_2) | (show (Addr.add _ _).block ≠ _; rw [add_block]; exact hn255_2) | exact hn255_2) (.int .i64 ((rd_T50 l0 x3_2).f2))).trans hx255_0; replace hx255_1 := (cell_far (p := ⟨gb253, 2, none⟩) (by first | (rw [add_block]; exact hn255_2) | (show (Addr.add _ _).block ≠ _; rw [add_block]; exact hn255_2) | exact hn255_2) (.int .i64 ((rd_T50 l0 x3_2).f2))).trans hx255_1; replace hx255_2 := (cell_far (p := ⟨gb253, 2, none⟩) (by first | (rw [add_block]; exact hn255_2) | (show (Addr.add _ _).block ≠ _; rw [add_block]; exact hn255_2) | exact hn255_2) (.int .i64 ((rd_T50 l0 x3_2).f2))).trans hx255_2; (try have hy255_0 := fun (n_ : Nat) => (show (((((w10.drewN n_).setCell ⟨gb253, 0, none⟩ (.int .i64 ((rd_T50 l0 x3_2).f0))).setCell ⟨gb253, 1, none⟩ (.int .i64 ((rd_T50 l0 x3_2).f1))).setCell ⟨gb253, 2, none⟩ (.int .i64 ((rd_T50 l0 x3_2).f2)))).cell? _ = some _ from hx255_0)); (try have hy255_1 := fun (n_ : Nat) => (show (((((w10.drewN n_).setCell ⟨gb253, 0, none⟩ (.int .i64 ((rd_T50 l0 x3_2).f0))).setCell ⟨gb253, 1, none⟩ (.int .i64 ((rd_T50 l0 x3_2).f1))).setCell ⟨gb253, 2, none⟩ (.int .i64 ((rd_T50 l0 x3_2).f2)))).cell? _ = some _ from hx255_1)); (try have hy255_2 := fun (n_ : Nat) => (show (((((w10.drewN n_).setCell ⟨gb253, 0, none⟩ (.int .i64 ((rd_T50 l0 x3_2).f0))).setCell ⟨gb253, 1, none⟩ (.int .i64 ((rd_T50 l0 x3_2).f1))).setCell ⟨gb253, 2, none⟩ (.int .i64 ((rd_T50 l0 x3_2).f2)))).cell? _ = some _ from hx255_2)); clear hn255_0; clear hn255_1; clear hn255_2; replace p255 := eq_true p255; replace q255 := eq_true q255) | (go_at_call 103; (with_reducible refine (spec_l01In.calls ((rd_T50 l0 x3_2).f1) 0 3 true _ A17.out).mono ?_); rintro e w' ⟨rfl, ⟨nd, rfl⟩⟩; (try first | exact ⟨rfl, _, World.drewN_drewN _ _ _⟩ | exact ⟨rfl, _, Eq.trans (World.drewN_drewN _ _ _) (congrArg (World.drewN _) (Nat.add_assoc _ _ _))⟩)) | (go_at_call 103; (with_reducible refine (spec_l01In.calls ((rd_T50 l0 x3_2).f2) 0 4 t257 _ A19.out).mono ?_); rintro e w' ⟨rfl, ⟨nd, rfl⟩⟩; (try first | exact ⟨rfl, _, World.drewN_drewN _ _ _⟩ | exact ⟨rfl, _, Eq.trans (World.drewN_drewN _ _ _) (congrArg (World.drewN _) (Nat.add_assoc _ _ _))⟩))); try go_wp2_with (first | (go_at_call 103; (with_reducible refine (spec_l01In.calls ((rd_T50 l0 x3_2).f0) 0 (wrap64 (x3_2 - 1)) true _ A12.out).mono ?_); rintro e w' ⟨rfl, ⟨nd, rfl⟩⟩; (try first | exact ⟨rfl, _, World.drewN_drewN _ _ _⟩ | exact ⟨rfl, _, Eq.trans (World.drewN_drewN _ _ _) (congrArg (World.drewN _) (Nat.add_assoc _ _ _))⟩); have p255 : 0 ≤ (((rd_T50 l0 x3_2).f0) : Int) := of_decide_eq_true (by first | (with_reducible assumption) | assumption); have q255 : ((rd_T50 l0 x3_2).f0) < (l0.length : Int) := of_decide_eq_true (by first | (with_reducible assumption) | assumption); obtain ⟨ad255, e255, hx255_0, hx255_1, hx255_2⟩ := at_T50 HR0.out ((rd_T50 l0 x3_2).f0) p255 q255; obtain rfl : ad252 = ad255 := (by injection e255); have hn255_0 : ad252.block ≠ gb253 := Nat.ne_of_lt (Nat.lt_of_lt_of_le (by have := World.block_lt_of_cell? _ _ hx255_0; first | rwa [add_block] at this | exact this) GW253.out); have hn255_1 : ad252.block ≠ gb253 := Nat.ne_of_lt (Nat.lt_of_lt_of_le (by have := World.block_lt_of_cell? _ _ hx255_0; first | rwa [add_block] at this | exact this) GW253.out); have hn255_2 : ad252.block ≠ gb253 := Nat.ne_of_lt (Nat.lt_of_lt_of_le (by have := World.block_lt_of_cell? _ _ hx255_0; first | rwa [add_block] at this | exact this) GW253.out); replace hx255_0 := pw_cell_below HB.out hx255_0; replace hx255_1 := pw_cell_below HB.out hx255_1; replace hx255_2 := pw_cell_below HB.out hx255_2; replace hx255_0 := (cell_far (p := ⟨gb253, 0, none⟩) (by first | (rw [add_block]; exact hn255_0) | (show (Addr.add _ _).block ≠ _; rw [add_block]; exact hn255_0) | exact hn255_0) (.int .i64 ((rd_T50 l0 x3_2).f0))).trans hx255_0; replace hx255_1 := (cell_far (p := ⟨gb253, 0, none⟩) (by first | (rw [add_block]; exact hn255_0) | (show (Addr.add _ _).block ≠ _; rw [add_block]; exact hn255_0) | exact hn255_0) (.int .i64 ((rd_T50 l0 x3_2).f0))).trans hx255_1; replace hx255_2 := (cell_far (p := ⟨gb253, 0, none⟩) (by first | (rw [add_block]; exact hn255_0) | (show (Addr.add _ _).block ≠ _; rw [add_block]; exact hn255_0) | exact hn255_0) (.int .i64 ((rd_T50 l0 x3_2).f0))).trans hx255_2; replace hx255_0 := (cell_far (p := ⟨gb253, 1, none⟩) (by first | (rw [add_block]; exact hn255_1) | (show (Addr.add _ _).block ≠ _; rw [add_block]; exact hn255_1) | exact hn255_1) (.int .i64 ((rd_T50 l0 x3_2).f1))).trans hx255_0; replace hx255_1 := (cell_far (p := ⟨gb253, 1, none⟩) (by first | (rw [add_block]; exact hn255_1) | (show (Addr.add _ _).block ≠ _; rw [add_block]; exact hn255_1) | exact hn255_1) (.int .i64 ((rd_T50 l0 x3_2).f1))).trans hx255_1; replace hx255_2 := (cell_far (p := ⟨gb253, 1, none⟩) (by first | (rw [add_block]; exact hn255_1) | (show (Addr.add _ _).block ≠ _; rw [add_block]; exact hn255_1) | exact hn255_1) (.int .i64 ((rd_T50 l0 x3_2).f1))).trans hx255_2; replace hx255_0 := (cell_far (p := ⟨gb253, 2, none⟩) (by first | (rw [add_block]; exact hn255_2) | (show (Addr.add _ _).block ≠ _; rw [add_block]; exact hn255_2) | exact hn255_2) (.int .i64 ((rd_T50 l0 x3_2).f2))).trans hx255_0; replace hx255_1 := (cell_far (p := ⟨gb253, 2, none⟩) (by first | (rw [add_block]; exact hn255_2) | (show (Addr.add _ _).block ≠ _; rw [add_block]; exact hn255_2) | exact hn255_2) (.int .i64 ((rd_T50 l0 x3_2).f2))).trans hx255_1; replace hx255_2 := (cell_far (p := ⟨gb253, 2, none⟩) (by first | (rw [add_block]; exact hn255_2) | (show (Addr.add _ _).block ≠ _; rw [add_block]; exact hn255_2) | exact hn255_2) (.int .i64 ((rd_T50 l0 x3_2).f2))).trans hx255_2; (try have hy255_0 := fun (n_ : Nat) => (show (((((w10.drewN n_).setCell ⟨gb253, 0, none⟩ (.int .i64 ((rd_T50 l0 x3_2).f0))).setCell ⟨gb253, 1, none⟩ (.int .i64 ((rd_T50 l0 x3_2).f1))).setCell ⟨gb253, 2, none⟩ (.int .i64 ((rd_T50 l0 x3_2).f2)))).cell? _ = some _ from hx255_0)); (try have hy255_1 := fun (n_ : Nat) => (show (((((w10.drewN n_).setCell ⟨gb253, 0, none⟩ (.int .i64 ((rd_T50 l0 x3_2).f0))).setCell ⟨gb253, 1, none⟩ (.int .i64 ((rd_T50 l0 x3_2).f1))).setCell ⟨gb253, 2, none⟩ (.int .i64 ((rd_T50 l0 x3_2).f2)))).cell? _ = some _ from hx255_1)); (try have hy255_2 := fun (n_ : Nat) => (show (((((w10.drewN n_).setCell ⟨gb253, 0, none⟩ (.int .i64 ((rd_T50 l0 x3_2).f0))).setCell ⟨gb253, 1, none⟩ (.int .i64 ((rd_T50 l0 x3_2).f1))).setCell ⟨gb253, 2, none⟩ (.int .i64 ((rd_T50 l0 x3_2).f2)))).cell? _ = some _ from hx255_2)); clear hn255_0; clear hn255_1; clear hn255_2; replace p255 := eq_true p255; replace q255 := eq_true q255) | (go_at_call 103; (with_reducible refine (spec_l01In.calls ((rd_T50 l0 x3_2).f1) 0 3 true _ A17.out).mono ?_); rintro e w' ⟨rfl, ⟨nd, rfl⟩⟩; (try first | exact ⟨rfl, _, World.drewN_drewN _ _ _⟩ | exact ⟨rfl, _, Eq.trans (World.drewN_drewN _ _ _) (congrArg (World.drewN _) (Nat.add_assoc _ _ _))⟩)) | (go_at_call 103; (with_reducible refine (spec_l01In.calls ((rd_T50 l0 x3_2).f2) 0 4 t257 _ A19.out).mono ?_); rintro e w' ⟨rfl, ⟨nd, rfl⟩⟩; (try first | exact ⟨rfl, _, World.drewN_drewN _ _ _⟩ | exact ⟨rfl, _, Eq.trans (World.drewN_drewN _ _ _) (congrArg (World.drewN _) (Nat.add_assoc _ _ _))⟩))))
              go_meet
              case rel => exact ⟨_, (!t257), (by first | rfl | (simp; done) | (simp [*]; done)), H', ⟨by have := HJ1.out; have := HK2.out; first | omega | exact Nat.le_refl _⟩, ⟨by (with_reducible repeat (first | refine blk_drewN ?_ _ | refine blk_drew ?_ | refine blk_alloc ?_ _)); refine blk_put (cs := #[.int .i64 ((rd_T50 l0 x3_2).f0), .int .i64 ((rd_T50 l0 x3_2).f1), .int .i64 0]) ?_ 2 _ rfl; (with_reducible repeat (first | refine blk_drewN ?_ _ | refine blk_drew ?_ | refine blk_alloc ?_ _)); refine blk_put (cs := #[.int .i64 ((rd_T50 l0 x3_2).f0), .int .i64 0, .int .i64 0]) ?_ 1 _ rfl; (with_reducible repeat (first | refine blk_drewN ?_ _ | refine blk_drew ?_ | refine blk_alloc ?_ _)); refine blk_put (cs := #[.int .i64 0, .int .i64 0, .int .i64 0]) ?_ 0 _ rfl; exact bk⟩, ⟨bb⟩⟩
             ·replace c18 := Bool.eq_false_iff.mpr c18
              subst c18
              have H1 : (spec_TreeOk.j2 k2 l0 x3_2 true ((rd_T50 l0 x3_2).f0) ((rd_T50 l0 x3_2).f1) ((rd_T50 l0 x3_2).f2)) = some r := by rw [if_neg (show ¬ (false = true) by decide)] at H; exact H
              clear H
              have H := H1
              clear H1
              have H' := Aside0.mk H
              clear H
              obtain ⟨hcz21_0, hcz21_1, hcz21_2, hfz21_0, hfz21_1, hfz21_2⟩ := bx3 BK253.out
              go_wp2_with (first | (go_at_call 103; (with_reducible refine (spec_l01In.calls ((rd_T50 l0 x3_2).f0) 0 (wrap64 (x3_2 - 1)) true _ A12.out).mono ?_); rintro e w' ⟨rfl, ⟨nd, rfl⟩⟩; (try first | exact ⟨rfl, _, World.drewN_drewN _ _ _⟩ | exact ⟨rfl, _, Eq.trans (World.drewN_drewN _ _ _) (congrArg (World.drewN _) (Nat.add_assoc _ _ _))⟩); have p255 : 0 ≤ (((rd_T50 l0 x3_2).f0) : Int) := of_decide_eq_true (by first | (with_reducible assumption) | assumption); have q255 : ((rd_T50 l0 x3_2).f0) < (l0.length : Int) := of_decide_eq_true (by first | (with_reducible assumption) | assumption); obtain ⟨ad255, e255, hx255_0, hx255_1, hx255_2⟩ := at_T50 HR0.out ((rd_T50 l0 x3_2).f0) p255 q255; obtain rfl : ad252 = ad255 := (by injection e255); have hn255_0 : ad252.block ≠ gb253 := Nat.ne_of_lt (Nat.lt_of_lt_of_le (by have := World.block_lt_of_cell? _ _ hx255_0; first | rwa [add_block] at this | exact this) GW253.out); have hn255_1 : ad252.block ≠ gb253 := Nat.ne_of_lt (Nat.lt_of_lt_of_le (by have := World.block_lt_of_cell? _ _ hx255_0; first | rwa [add_block] at this | exact this) GW253.out); have hn255_2 : ad252.block ≠ gb253 := Nat.ne_of_lt (Nat.lt_of_lt_of_le (by have := World.block_lt_of_cell? _ _ hx255_0; first | rwa [add_block] at this | exact this) GW253.out); replace hx255_0 := pw_cell_below HB.out hx255_0; replace hx255_1 := pw_cell_below HB.out hx255_1; replace hx255_2 := pw_cell_below HB.out hx255_2; replace hx255_0 := (cell_far (p := ⟨gb253, 0, none⟩) (by first | (rw [add_block]; exact hn255_0) | (show (Addr.add _ _).block ≠ _; rw [add_block]; exact hn255_0) | exact hn255_0) (.int .i64 ((rd_T50 l0 x3_2).f0))).trans hx255_0; replace hx255_1 := (cell_far (p := ⟨gb253, 0, none⟩) (by first | (rw [add_block]; exact hn255_0) | (show (Addr.add _ _).block ≠ _; rw [add_block]; exact hn255_0) | exact hn255_0) (.int .i64 ((rd_T50 l0 x3_2).f0))).trans hx255_1; replace hx255_2 := (cell_far (p := ⟨gb253, 0, none⟩) (by first | (rw [add_block]; exact hn255_0) | (show (Addr.add _ _).block ≠ _; rw [add_block]; exact hn255_0) | exact hn255_0) (.int .i64 ((rd_T50 l0 x3_2).f0))).trans hx255_2; replace hx255_0 := (cell_far (p := ⟨gb253, 1, none⟩) (by first | (rw [add_block]; exact hn255_1) | (show (Addr.add _ _).block ≠ _; rw [add_block]; exact hn255_1) | exact hn255_1) (.int .i64 ((rd_T50 l0 x3_2).f1))).trans hx255_0; replace hx255_1 := (cell_far (p := ⟨gb253, 1, none⟩) (by first | (rw [add_block]; exact hn255_1) | (show (Addr.add _ _).block ≠ _; rw [add_block]; exact hn255_1) | exact hn255_1) (.int .i64 ((rd_T50 l0 x3_2).f1))).trans hx255_1; replace hx255_2 := (cell_far (p := ⟨gb253, 1, none⟩) (by first | (rw [add_block]; exact hn255_1) | (show (Addr.add _ _).block ≠ _; rw [add_block]; exact hn255_1) | exact hn255_1) (.int .i64 ((rd_T50 l0 x3_2).f1))).trans hx255_2; replace hx255_0 := (cell_far (p := ⟨gb253, 2, none⟩) (by first | (rw [add_block]; exact hn255_2) | (show (Addr.add _ _).block ≠ _; rw [add_block]; exact hn255_2) | exact hn255_2) (.int .i64 ((rd_T50 l0 x3_2).f2))).trans hx255_0; replace hx255_1 := (cell_far (p := ⟨gb253, 2, none⟩) (by first | (rw [add_block]; exact hn255_2) | (show (Addr.add _ _).block ≠ _; rw [add_block]; exact hn255_2) | exact hn255_2) (.int .i64 ((rd_T50 l0 x3_2).f2))).trans hx255_1; replace hx255_2 := (cell_far (p := ⟨gb253, 2, none⟩) (by first | (rw [add_block]; exact hn255_2) | (show (Addr.add _ _).block ≠ _; rw [add_block]; exact hn255_2) | exact hn255_2) (.int .i64 ((rd_T50 l0 x3_2).f2))).trans hx255_2; (try have hy255_0 := fun (n_ : Nat) => (show (((((w10.drewN n_).setCell ⟨gb253, 0, none⟩ (.int .i64 ((rd_T50 l0 x3_2).f0))).setCell ⟨gb253, 1, none⟩ (.int .i64 ((rd_T50 l0 x3_2).f1))).setCell ⟨gb253, 2, none⟩ (.int .i64 ((rd_T50 l0 x3_2).f2)))).cell? _ = some _ from hx255_0)); (try have hy255_1 := fun (n_ : Nat) => (show (((((w10.drewN n_).setCell ⟨gb253, 0, none⟩ (.int .i64 ((rd_T50 l0 x3_2).f0))).setCell ⟨gb253, 1, none⟩ (.int .i64 ((rd_T50 l0 x3_2).f1))).setCell ⟨gb253, 2, none⟩ (.int .i64 ((rd_T50 l0 x3_2).f2)))).cell? _ = some _ from hx255_1)); (try have hy255_2 := fun (n_ : Nat) => (show (((((w10.drewN n_).setCell ⟨gb253, 0, none⟩ (.int .i64 ((rd_T50 l0 x3_2).f0))).setCell ⟨gb253, 1, none⟩ (.int .i64 ((rd_T50 l0 x3_2).f1))).setCell ⟨gb253, 2, none⟩ (.int .i64 ((rd_T50 l0 x3_2).f2)))).cell? _ = some _ from hx255_2)); clear hn255_0; clear hn255_1; clear hn255_2; replace p255 := eq_true p255; replace q255 := eq_true q255) | (go_at_call 103; (with_reducible refine (spec_l01In.calls ((rd_T50 l0 x3_2).f1) 0 3 false _ A17.out).mono ?_); rintro e w' ⟨rfl, ⟨nd, rfl⟩⟩; (try first | exact ⟨rfl, _, World.drewN_drewN _ _ _⟩ | exact ⟨rfl, _, Eq.trans (World.drewN_drewN _ _ _) (congrArg (World.drewN _) (Nat.add_assoc _ _ _))⟩)))
              repeat (go_quiet (first | (go_at_call 103; (with_reducible refine (spec_l01In.calls ((rd_T50 l0 x3_2).f0) 0 (wrap64 (x3_2 - 1)) true _ A12.out).mono ?_); rintro e w' ⟨rfl, ⟨nd, rfl⟩⟩; (try first | exact ⟨rfl, _, World.drewN_drewN _ _ _⟩ | exact ⟨rfl, _, Eq.trans (World.drewN_drewN _ _ _) (congrArg (World.drewN _) (Nat.add_assoc _ _ _))⟩); have p255 : 0 ≤ (((rd_T50 l0 x3_2).f0) : Int) := of_decide_eq_true (by first | (with_reducible assumption) | assumption); have q255 : ((rd_T50 l0 x3_2).f0) < (l0.length : Int) := of_decide_eq_true (by first | (with_reducible assumption) | assumption); obtain ⟨ad255, e255, hx255_0, hx255_1, hx255_2⟩ := at_T50 HR0.out ((rd_T50 l0 x3_2).f0) p255 q255; obtain rfl : ad252 = ad255 := (by injection e255); have hn255_0 : ad252.block ≠ gb253 := Nat.ne_of_lt (Nat.lt_of_lt_of_le (by have := World.block_lt_of_cell? _ _ hx255_0; first | rwa [add_block] at this | exact this) GW253.out); have hn255_1 : ad252.block ≠ gb253 := Nat.ne_of_lt (Nat.lt_of_lt_of_le (by have := World.block_lt_of_cell? _ _ hx255_0; first | rwa [add_block] at this | exact this) GW253.out); have hn255_2 : ad252.block ≠ gb253 := Nat.ne_of_lt (Nat.lt_of_lt_of_le (by have := World.block_lt_of_cell? _ _ hx255_0; first | rwa [add_block] at this | exact this) GW253.out); replace hx255_0 := pw_cell_below HB.out hx255_0; replace hx255_1 := pw_cell_below HB.out hx255_1; replace hx255_2 := pw_cell_below HB.out hx255_2; replace hx255_0 := (cell_far (p := ⟨gb253, 0, none⟩) (by first | (rw [add_block]; exact hn255_0) | (show (Addr.add _ _).block ≠ _; rw [add_block]; exact hn255_0) | exact hn255_0) (.int .i64 ((rd_T50 l0 x3_2).f0))).trans hx255_0; replace hx255_1 := (cell_far (p := ⟨gb253, 0, none⟩) (by first | (rw [add_block]; exact hn255_0) | (show (Addr.add _ _).block ≠ _; rw [add_block]; exact hn255_0) | exact hn255_0) (.int .i64 ((rd_T50 l0 x3_2).f0))).trans hx255_1; replace hx255_2 := (cell_far (p := ⟨gb253, 0, none⟩) (by first | (rw [add_block]; exact hn255_0) | (show (Addr.add _ _).block ≠ _; rw [add_block]; exact hn255_0) | exact hn255_0) (.int .i64 ((rd_T50 l0 x3_2).f0))).trans hx255_2; replace hx255_0 := (cell_far (p := ⟨gb253, 1, none⟩) (by first | (rw [add_block]; exact hn255_1) | (show (Addr.add _ _).block ≠ _; rw [add_block]; exact hn255_1) | exact hn255_1) (.int .i64 ((rd_T50 l0 x3_2).f1))).trans hx255_0; replace hx255_1 := (cell_far (p := ⟨gb253, 1, none⟩) (by first | (rw [add_block]; exact hn255_1) | (show (Addr.add _ _).block ≠ _; rw [add_block]; exact hn255_1) | exact hn255_1) (.int .i64 ((rd_T50 l0 x3_2).f1))).trans hx255_1; replace hx255_2 := (cell_far (p := ⟨gb253, 1, none⟩) (by first | (rw [add_block]; exact hn255_1) | (show (Addr.add _ _).block ≠ _; rw [add_block]; exact hn255_1) | exact hn255_1) (.int .i64 ((rd_T50 l0 x3_2).f1))).trans hx255_2; replace hx255_0 := (cell_far (p := ⟨gb253, 2, none⟩) (by first | (rw [add_block]; exact hn255_2) | (show (Addr.add _ _).block ≠ _; rw [add_block]; exact hn255_2) | exact hn255_2) (.int .i64 ((rd_T50 l0 x3_2).f2))).trans hx255_0; replace hx255_1 := (cell_far (p := ⟨gb253, 2, none⟩) (by first | (rw [add_block]; exact hn255_2) | (show (Addr.add _ _).block ≠ _; rw [add_block]; exact hn255_2) | exact hn255_2) (.int .i64 ((rd_T50 l0 x3_2).f2))).trans hx255_1; replace hx255_2 := (cell_far (p := ⟨gb253, 2, none⟩) (by first | (rw [add_block]; exact hn255_2) | (show (Addr.add _ _).block ≠ _; rw [add_block]; exact hn255_2) | exact hn255_2) (.int .i64 ((rd_T50 l0 x3_2).f2))).trans hx255_2; (try have hy255_0 := fun (n_ : Nat) => (show (((((w10.drewN n_).setCell ⟨gb253, 0, none⟩ (.int .i64 ((rd_T50 l0 x3_2).f0))).setCell ⟨gb253, 1, none⟩ (.int .i64 ((rd_T50 l0 x3_2).f1))).setCell ⟨gb253, 2, none⟩ (.int .i64 ((rd_T50 l0 x3_2).f2)))).cell? _ = some _ from hx255_0)); (try have hy255_1 := fun (n_ : Nat) => (show (((((w10.drewN n_).setCell ⟨gb253, 0, none⟩ (.int .i64 ((rd_T50 l0 x3_2).f0))).setCell ⟨gb253, 1, none⟩ (.int .i64 ((rd_T50 l0 x3_2).f1))).setCell ⟨gb253, 2, none⟩ (.int .i64 ((rd_T50 l0 x3_2).f2)))).cell? _ = some _ from hx255_1)); (try have hy255_2 := fun (n_ : Nat) => (show (((((w10.drewN n_).setCell ⟨gb253, 0, none⟩ (.int .i64 ((rd_T50 l0 x3_2).f0))).setCell ⟨gb253, 1, none⟩ (.int .i64 ((rd_T50 l0 x3_2).f1))).setCell ⟨gb253, 2, none⟩ (.int .i64 ((rd_T50 l0 x3_2).f2)))).cell? _ = some _ from hx255_2)); clear hn255_0; clear hn255_1; clear hn255_2; replace p255 := eq_true p255; replace q255 := eq_true q255) | (go_at_call 103; (with_reducible refine (spec_l01In.calls ((rd_T50 l0 x3_2).f1) 0 3 false _ A17.out).mono ?_); rintro e w' ⟨rfl, ⟨nd, rfl⟩⟩; (try first | exact ⟨rfl, _, World.drewN_drewN _ _ _⟩ | exact ⟨rfl, _, Eq.trans (World.drewN_drewN _ _ _) (congrArg (World.drewN _) (Nat.add_assoc _ _ _))⟩))); try go_wp2_with (first | (go_at_call 103; (with_reducible refine (spec_l01In.calls ((rd_T50 l0 x3_2).f0) 0 (wrap64 (x3_2 - 1)) true _ A12.out).mono ?_); rintro e w' ⟨rfl, ⟨nd, rfl⟩⟩; (try first | exact ⟨rfl, _, World.drewN_drewN _ _ _⟩ | exact ⟨rfl, _, Eq.trans (World.drewN_drewN _ _ _) (congrArg (World.drewN _) (Nat.add_assoc _ _ _))⟩); have p255 : 0 ≤ (((rd_T50 l0 x3_2).f0) : Int) := of_decide_eq_true (by first | (with_reducible assumption) | assumption); have q255 : ((rd_T50 l0 x3_2).f0) < (l0.length : Int) := of_decide_eq_true (by first | (with_reducible assumption) | assumption); obtain ⟨ad255, e255, hx255_0, hx255_1, hx255_2⟩ := at_T50 HR0.out ((rd_T50 l0 x3_2).f0) p255 q255; obtain rfl : ad252 = ad255 := (by injection e255); have hn255_0 : ad252.block ≠ gb253 := Nat.ne_of_lt (Nat.lt_of_lt_of_le (by have := World.block_lt_of_cell? _ _ hx255_0; first | rwa [add_block] at this | exact this) GW253.out); have hn255_1 : ad252.block ≠ gb253 := Nat.ne_of_lt (Nat.lt_of_lt_of_le (by have := World.block_lt_of_cell? _ _ hx255_0; first | rwa [add_block] at this | exact this) GW253.out); have hn255_2 : ad252.block ≠ gb253 := Nat.ne_of_lt (Nat.lt_of_lt_of_le (by have := World.block_lt_of_cell? _ _ hx255_0; first | rwa [add_block] at this | exact this) GW253.out); replace hx255_0 := pw_cell_below HB.out hx255_0; replace hx255_1 := pw_cell_below HB.out hx255_1; replace hx255_2 := pw_cell_below HB.out hx255_2; replace hx255_0 := (cell_far (p := ⟨gb253, 0, none⟩) (by first | (rw [add_block]; exact hn255_0) | (show (Addr.add _ _).block ≠ _; rw [add_block]; exact hn255_0) | exact hn255_0) (.int .i64 ((rd_T50 l0 x3_2).f0))).trans hx255_0; replace hx255_1 := (cell_far (p := ⟨gb253, 0, none⟩) (by first | (rw [add_block]; exact hn255_0) | (show (Addr.add _ _).block ≠ _; rw [add_block]; exact hn255_0) | exact hn255_0) (.int .i64 ((rd_T50 l0 x3_2).f0))).trans hx255_1; replace hx255_2 := (cell_far (p := ⟨gb253, 0, none⟩) (by first | (rw [add_block]; exact hn255_0) | (show (Addr.add _ _).block ≠ _; rw [add_block]; exact hn255_0) | exact hn255_0) (.int .i64 ((rd_T50 l0 x3_2).f0))).trans hx255_2; replace hx255_0 := (cell_far (p := ⟨gb253, 1, none⟩) (by first | (rw [add_block]; exact hn255_1) | (show (Addr.add _ _).block ≠ _; rw [add_block]; exact hn255_1) | exact hn255_1) (.int .i64 ((rd_T50 l0 x3_2).f1))).trans hx255_0; replace hx255_1 := (cell_far (p := ⟨gb253, 1, none⟩) (by first | (rw [add_block]; exact hn255_1) | (show (Addr.add _ _).block ≠ _; rw [add_block]; exact hn255_1) | exact hn255_1) (.int .i64 ((rd_T50 l0 x3_2).f1))).trans hx255_1; replace hx255_2 := (cell_far (p := ⟨gb253, 1, none⟩) (by first | (rw [add_block]; exact hn255_1) | (show (Addr.add _ _).block ≠ _; rw [add_block]; exact hn255_1) | exact hn255_1) (.int .i64 ((rd_T50 l0 x3_2).f1))).trans hx255_2; replace hx255_0 := (cell_far (p := ⟨gb253, 2, none⟩) (by first | (rw [add_block]; exact hn255_2) | (show (Addr.add _ _).block ≠ _; rw [add_block]; exact hn255_2) | exact hn255_2) (.int .i64 ((rd_T50 l0 x3_2).f2))).trans hx255_0; replace hx255_1 := (cell_far (p := ⟨gb253, 2, none⟩) (by first | (rw [add_block]; exact hn255_2) | (show (Addr.add _ _).block ≠ _; rw [add_block]; exact hn255_2) | exact hn255_2) (.int .i64 ((rd_T50 l0 x3_2).f2))).trans hx255_1; replace hx255_2 := (cell_far (p := ⟨gb253, 2, none⟩) (by first | (rw [add_block]; exact hn255_2) | (show (Addr.add _ _).block ≠ _; rw [add_block]; exact hn255_2) | exact hn255_2) (.int .i64 ((rd_T50 l0 x3_2).f2))).trans hx255_2; (try have hy255_0 := fun (n_ : Nat) => (show (((((w10.drewN n_).setCell ⟨gb253, 0, none⟩ (.int .i64 ((rd_T50 l0 x3_2).f0))).setCell ⟨gb253, 1, none⟩ (.int .i64 ((rd_T50 l0 x3_2).f1))).setCell ⟨gb253, 2, none⟩ (.int .i64 ((rd_T50 l0 x3_2).f2)))).cell? _ = some _ from hx255_0)); (try have hy255_1 := fun (n_ : Nat) => (show (((((w10.drewN n_).setCell ⟨gb253, 0, none⟩ (.int .i64 ((rd_T50 l0 x3_2).f0))).setCell ⟨gb253, 1, none⟩ (.int .i64 ((rd_T50 l0 x3_2).f1))).setCell ⟨gb253, 2, none⟩ (.int .i64 ((rd_T50 l0 x3_2).f2)))).cell? _ = some _ from hx255_1)); (try have hy255_2 := fun (n_ : Nat) => (show (((((w10.drewN n_).setCell ⟨gb253, 0, none⟩ (.int .i64 ((rd_T50 l0 x3_2).f0))).setCell ⟨gb253, 1, none⟩ (.int .i64 ((rd_T50 l0 x3_2).f1))).setCell ⟨gb253, 2, none⟩ (.int .i64 ((rd_T50 l0 x3_2).f2)))).cell? _ = some _ from hx255_2)); clear hn255_0; clear hn255_1; clear hn255_2; replace p255 := eq_true p255; replace q255 := eq_true q255) | (go_at_call 103; (with_reducible refine (spec_l01In.calls ((rd_T50 l0 x3_2).f1) 0 3 false _ A17.out).mono ?_); rintro e w' ⟨rfl, ⟨nd, rfl⟩⟩; (try first | exact ⟨rfl, _, World.drewN_drewN _ _ _⟩ | exact ⟨rfl, _, Eq.trans (World.drewN_drewN _ _ _) (congrArg (World.drewN _) (Nat.add_assoc _ _ _))⟩))))
              go_meet
              case rel => exact ⟨_, (true), (by first | rfl | (simp; done) | (simp [*]; done)), H', ⟨by have := HJ1.out; have := HK2.out; first | omega | exact Nat.le_refl _⟩, ⟨by (with_reducible repeat (first | refine blk_drewN ?_ _ | refine blk_drew ?_ | refine blk_alloc ?_ _)); refine blk_put (cs := #[.int .i64 ((rd_T50 l0 x3_2).f0), .int .i64 ((rd_T50 l0 x3_2).f1), .int .i64 0]) ?_ 2 _ rfl; (with_reducible repeat (first | refine blk_drewN ?_ _ | refine blk_drew ?_ | refine blk_alloc ?_ _)); refine blk_put (cs := #[.int .i64 ((rd_T50 l0 x3_2).f0), .int .i64 0, .int .i64 0]) ?_ 1 _ rfl; (with_reducible repeat (first | refine blk_drewN ?_ _ | refine blk_drew ?_ | refine blk_alloc ?_ _)); refine blk_put (cs := #[.int .i64 0, .int .i64 0, .int .i64 0]) ?_ 0 _ rfl; exact bk⟩, ⟨bb⟩⟩
            ·rw [if_neg c16] at H
             have c16b0 : (((rd_T50 l0 ((rd_T50 l0 x3_2).f0)).f2) == 0) = false := beq_eq_false_iff_ne.mpr c16
             have c16b1 : (((rd_T50 l0 ((rd_T50 l0 x3_2).f0)).f2) != 0) = true := bne_iff_ne.mpr c16
             have H' := Aside0.mk H
             clear H
             obtain ⟨hcz22_0, hcz22_1, hcz22_2, hfz22_0, hfz22_1, hfz22_2⟩ := bx3 BK253.out
             go_wp2_with (first | (go_at_call 103; (with_reducible refine (spec_l01In.calls ((rd_T50 l0 x3_2).f0) 0 (wrap64 (x3_2 - 1)) true _ A12.out).mono ?_); rintro e w' ⟨rfl, ⟨nd, rfl⟩⟩; (try first | exact ⟨rfl, _, World.drewN_drewN _ _ _⟩ | exact ⟨rfl, _, Eq.trans (World.drewN_drewN _ _ _) (congrArg (World.drewN _) (Nat.add_assoc _ _ _))⟩); have p255 : 0 ≤ (((rd_T50 l0 x3_2).f0) : Int) := of_decide_eq_true (by first | (with_reducible assumption) | assumption); have q255 : ((rd_T50 l0 x3_2).f0) < (l0.length : Int) := of_decide_eq_true (by first | (with_reducible assumption) | assumption); obtain ⟨ad255, e255, hx255_0, hx255_1, hx255_2⟩ := at_T50 HR0.out ((rd_T50 l0 x3_2).f0) p255 q255; obtain rfl : ad252 = ad255 := (by injection e255); have hn255_0 : ad252.block ≠ gb253 := Nat.ne_of_lt (Nat.lt_of_lt_of_le (by have := World.block_lt_of_cell? _ _ hx255_0; first | rwa [add_block] at this | exact this) GW253.out); have hn255_1 : ad252.block ≠ gb253 := Nat.ne_of_lt (Nat.lt_of_lt_of_le (by have := World.block_lt_of_cell? _ _ hx255_0; first | rwa [add_block] at this | exact this) GW253.out); have hn255_2 : ad252.block ≠ gb253 := Nat.ne_of_lt (Nat.lt_of_lt_of_le (by have := World.block_lt_of_cell? _ _ hx255_0; first | rwa [add_block] at this | exact this) GW253.out); replace hx255_0 := pw_cell_below HB.out hx255_0; replace hx255_1 := pw_cell_below HB.out hx255_1; replace hx255_2 := pw_cell_below HB.out hx255_2; replace hx255_0 := (cell_far (p := ⟨gb253, 0, none⟩) (by first | (rw [add_block]; exact hn255_0) | (show (Addr.add _ _).block ≠ _; rw [add_block]; exact hn255_0) | exact hn255_0) (.int .i64 ((rd_T50 l0 x3_2).f0))).trans hx255_0; replace hx255_1 := (cell_far (p := ⟨gb253, 0, none⟩) (by first | (rw [add_block]; exact hn255_0) | (show (Addr.add _ _).block ≠ _; rw [add_block]; exact hn255_0) | exact hn255_0) (.int .i64 ((rd_T50 l0 x3_2).f0))).trans hx255_1; replace hx255_2 := (cell_far (p := ⟨gb253, 0, none⟩) (by first | (rw [add_block]; exact hn255_0) | (show (Addr.add _ _).block ≠ _; rw [add_block]; exact hn255_0) | exact hn255_0) (.int .i64 ((rd_T50 l0 x3_2).f0))).trans hx255_2; replace hx255_0 := (cell_far (p := ⟨gb253, 1, none⟩) (by first | (rw [add_block]; exact hn255_1) | (show (Addr.add _ _).block ≠ _; rw [add_block]; exact hn255_1) | exact hn255_1) (.int .i64 ((rd_T50 l0 x3_2).f1))).trans hx255_0; replace hx255_1 := (cell_far (p := ⟨gb253, 1, none⟩) (by first | (rw [add_block]; exact hn255_1) | (show (Addr.add _ _).block ≠ _; rw [add_block]; exact hn255_1) | exact hn255_1) (.int .i64 ((rd_T50 l0 x3_2).f1))).trans hx255_1; replace hx255_2 := (cell_far (p := ⟨gb253, 1, none⟩) (by first | (rw [add_block]; exact hn255_1) | (show (Addr.add _ _).block ≠ _; rw [add_block]; exact hn255_1) | exact hn255_1) (.int .i64 ((rd_T50 l0 x3_2).f1))).trans hx255_2; replace hx255_0 := (cell_far (p := ⟨gb253, 2, none⟩) (by first | (rw [add_block]; exact hn255_2) | (show (Addr.add _ _).block ≠ _; rw [add_block]; exact hn255_2) | exact hn255_2) (.int .i64 ((rd_T50 l0 x3_2).f2))).trans hx255_0; replace hx255_1 := (cell_far (p := ⟨gb253, 2, none⟩) (by first | (rw [add_block]; exact hn255_2) | (show (Addr.add _ _).block ≠ _; rw [add_block]; exact hn255_2) | exact hn255_2) (.int .i64 ((rd_T50 l0 x3_2).f2))).trans hx255_1; replace hx255_2 := (cell_far (p := ⟨gb253, 2, none⟩) (by first | (rw [add_block]; exact hn255_2) | (show (Addr.add _ _).block ≠ _; rw [add_block]; exact hn255_2) | exact hn255_2) (.int .i64 ((rd_T50 l0 x3_2).f2))).trans hx255_2; (try have hy255_0 := fun (n_ : Nat) => (show (((((w10.drewN n_).setCell ⟨gb253, 0, none⟩ (.int .i64 ((rd_T50 l0 x3_2).f0))).setCell ⟨gb253, 1, none⟩ (.int .i64 ((rd_T50 l0 x3_2).f1))).setCell ⟨gb253, 2, none⟩ (.int .i64 ((rd_T50 l0 x3_2).f2)))).cell? _ = some _ from hx255_0)); (try have hy255_1 := fun (n_ : Nat) => (show (((((w10.drewN n_).setCell ⟨gb253, 0, none⟩ (.int .i64 ((rd_T50 l0 x3_2).f0))).setCell ⟨gb253, 1, none⟩ (.int .i64 ((rd_T50 l0 x3_2).f1))).setCell ⟨gb253, 2, none⟩ (.int .i64 ((rd_T50 l0 x3_2).f2)))).cell? _ = some _ from hx255_1)); (try have hy255_2 := fun (n_ : Nat) => (show (((((w10.drewN n_).setCell ⟨gb253, 0, none⟩ (.int .i64 ((rd_T50 l0 x3_2).f0))).setCell ⟨gb253, 1, none⟩ (.int .i64 ((rd_T50 l0 x3_2).f1))).setCell ⟨gb253, 2, none⟩ (.int .i64 ((rd_T50 l0 x3_2).f2)))).cell? _ = some _ from hx255_2)); clear hn255_0; clear hn255_1; clear hn255_2; replace p255 := eq_true p255; replace q255 := eq_true q255))
             repeat (go_quiet (first | (go_at_call 103; (with_reducible refine (spec_l01In.calls ((rd_T50 l0 x3_2).f0) 0 (wrap64 (x3_2 - 1)) true _ A12.out).mono ?_); rintro e w' ⟨rfl, ⟨nd, rfl⟩⟩; (try first | exact ⟨rfl, _, World.drewN_drewN _ _ _⟩ | exact ⟨rfl, _, Eq.trans (World.drewN_drewN _ _ _) (congrArg (World.drewN _) (Nat.add_assoc _ _ _))⟩); have p255 : 0 ≤ (((rd_T50 l0 x3_2).f0) : Int) := of_decide_eq_true (by first | (with_reducible assumption) | assumption); have q255 : ((rd_T50 l0 x3_2).f0) < (l0.length : Int) := of_decide_eq_true (by first | (with_reducible assumption) | assumption); obtain ⟨ad255, e255, hx255_0, hx255_1, hx255_2⟩ := at_T50 HR0.out ((rd_T50 l0 x3_2).f0) p255 q255; obtain rfl : ad252 = ad255 := (by injection e255); have hn255_0 : ad252.block ≠ gb253 := Nat.ne_of_lt (Nat.lt_of_lt_of_le (by have := World.block_lt_of_cell? _ _ hx255_0; first | rwa [add_block] at this | exact this) GW253.out); have hn255_1 : ad252.block ≠ gb253 := Nat.ne_of_lt (Nat.lt_of_lt_of_le (by have := World.block_lt_of_cell? _ _ hx255_0; first | rwa [add_block] at this | exact this) GW253.out); have hn255_2 : ad252.block ≠ gb253 := Nat.ne_of_lt (Nat.lt_of_lt_of_le (by have := World.block_lt_of_cell? _ _ hx255_0; first | rwa [add_block] at this | exact this) GW253.out); replace hx255_0 := pw_cell_below HB.out hx255_0; replace hx255_1 := pw_cell_below HB.out hx255_1; replace hx255_2 := pw_cell_below HB.out hx255_2; replace hx255_0 := (cell_far (p := ⟨gb253, 0, none⟩) (by first | (rw [add_block]; exact hn255_0) | (show (Addr.add _ _).block ≠ _; rw [add_block]; exact hn255_0) | exact hn255_0) (.int .i64 ((rd_T50 l0 x3_2).f0))).trans hx255_0; replace hx255_1 := (cell_far (p := ⟨gb253, 0, none⟩) (by first | (rw [add_block]; exact hn255_0) | (show (Addr.add _ _).block ≠ _; rw [add_block]; exact hn255_0) | exact hn255_0) (.int .i64 ((rd_T50 l0 x3_2).f0))).trans hx255_1; replace hx255_2 := (cell_far (p := ⟨gb253, 0, none⟩) (by first | (rw [add_block]; exact hn255_0) | (show (Addr.add _ _).block ≠ _; rw [add_block]; exact hn255_0) | exact hn255_0) (.int .i64 ((rd_T50 l0 x3_2).f0))).trans hx255_2; replace hx255_0 := (cell_far (p := ⟨gb253, 1, none⟩) (by first | (rw [add_block]; exact hn255_1) | (show (Addr.add _ _).block ≠ _; rw [add_block]; exact hn255_1) | exact hn255_1) (.int .i64 ((rd_T50 l0 x3_2).f1))).trans hx255_0; replace hx255_1 := (cell_far (p := ⟨gb253, 1, none⟩) (by first | (rw [add_block]; exact hn255_1) | (show (Addr.add _ _).block ≠ _; rw [add_block]; exact hn255_1) | exact hn255_1) (.int .i64 ((rd_T50 l0 x3_2).f1))).trans hx255_1; replace hx255_2 := (cell_far (p := ⟨gb253, 1, none⟩) (by first | (rw [add_block]; exact hn255_1) | (show (Addr.add _ _).block ≠ _; rw [add_block]; exact hn255_1) | exact hn255_1) (.int .i64 ((rd_T50 l0 x3_2).f1))).trans hx255_2; replace hx255_0 := (cell_far (p := ⟨gb253, 2, none⟩) (by first | (rw [add_block]; exact hn255_2) | (show (Addr.add _ _).block ≠ _; rw [add_block]; exact hn255_2) | exact hn255_2) (.int .i64 ((rd_T50 l0 x3_2).f2))).trans hx255_0; replace hx255_1 := (cell_far (p := ⟨gb253, 2, none⟩) (by first | (rw [add_block]; exact hn255_2) | (show (Addr.add _ _).block ≠ _; rw [add_block]; exact hn255_2) | exact hn255_2) (.int .i64 ((rd_T50 l0 x3_2).f2))).trans hx255_1; replace hx255_2 := (cell_far (p := ⟨gb253, 2, none⟩) (by first | (rw [add_block]; exact hn255_2) | (show (Addr.add _ _).block ≠ _; rw [add_block]; exact hn255_2) | exact hn255_2) (.int .i64 ((rd_T50 l0 x3_2).f2))).trans hx255_2; (try have hy255_0 := fun (n_ : Nat) => (show (((((w10.drewN n_).setCell ⟨gb253, 0, none⟩ (.int .i64 ((rd_T50 l0 x3_2).f0))).setCell ⟨gb253, 1, none⟩ (.int .i64 ((rd_T50 l0 x3_2).f1))).setCell ⟨gb253, 2, none⟩ (.int .i64 ((rd_T50 l0 x3_2).f2)))).cell? _ = some _ from hx255_0)); (try have hy255_1 := fun (n_ : Nat) => (show (((((w10.drewN n_).setCell ⟨gb253, 0, none⟩ (.int .i64 ((rd_T50 l0 x3_2).f0))).setCell ⟨gb253, 1, none⟩ (.int .i64 ((rd_T50 l0 x3_2).f1))).setCell ⟨gb253, 2, none⟩ (.int .i64 ((rd_T50 l0 x3_2).f2)))).cell? _ = some _ from hx255_1)); (try have hy255_2 := fun (n_ : Nat) => (show (((((w10.drewN n_).setCell ⟨gb253, 0, none⟩ (.int .i64 ((rd_T50 l0 x3_2).f0))).setCell ⟨gb253, 1, none⟩ (.int .i64 ((rd_T50 l0 x3_2).f1))).setCell ⟨gb253, 2, none⟩ (.int .i64 ((rd_T50 l0 x3_2).f2)))).cell? _ = some _ from hx255_2)); clear hn255_0; clear hn255_1; clear hn255_2; replace p255 := eq_true p255; replace q255 := eq_true q255)); try go_wp2_with (first | (go_at_call 103; (with_reducible refine (spec_l01In.calls ((rd_T50 l0 x3_2).f0) 0 (wrap64 (x3_2 - 1)) true _ A12.out).mono ?_); rintro e w' ⟨rfl, ⟨nd, rfl⟩⟩; (try first | exact ⟨rfl, _, World.drewN_drewN _ _ _⟩ | exact ⟨rfl, _, Eq.trans (World.drewN_drewN _ _ _) (congrArg (World.drewN _) (Nat.add_assoc _ _ _))⟩); have p255 : 0 ≤ (((rd_T50 l0 x3_2).f0) : Int) := of_decide_eq_true (by first | (with_reducible assumption) | assumption); have q255 : ((rd_T50 l0 x3_2).f0) < (l0.length : Int) := of_decide_eq_true (by first | (with_reducible assumption) | assumption); obtain ⟨ad255, e255, hx255_0, hx255_1, hx255_2⟩ := at_T50 HR0.out ((rd_T50 l0 x3_2).f0) p255 q255; obtain rfl : ad252 = ad255 := (by injection e255); have hn255_0 : ad252.block ≠ gb253 := Nat.ne_of_lt (Nat.lt_of_lt_of_le (by have := World.block_lt_of_cell? _ _ hx255_0; first | rwa [add_block] at this | exact this) GW253.out); have hn255_1 : ad252.block ≠ gb253 := Nat.ne_of_lt (Nat.lt_of_lt_of_le (by have := World.block_lt_of_cell? _ _ hx255_0; first | rwa [add_block] at this | exact this) GW253.out); have hn255_2 : ad252.block ≠ gb253 := Nat.ne_of_lt (Nat.lt_of_lt_of_le (by have := World.block_lt_of_cell? _ _ hx255_0; first | rwa [add_block] at this | exact this) GW253.out); replace hx255_0 := pw_cell_below HB.out hx255_0; replace hx255_1 := pw_cell_below HB.out hx255_1; replace hx255_2 := pw_cell_below HB.out hx255_2; replace hx255_0 := (cell_far (p := ⟨gb253, 0, none⟩) (by first | (rw [add_block]; exact hn255_0) | (show (Addr.add _ _).block ≠ _; rw [add_block]; exact hn255_0) | exact hn255_0) (.int .i64 ((rd_T50 l0 x3_2).f0))).trans hx255_0; replace hx255_1 := (cell_far (p := ⟨gb253, 0, none⟩) (by first | (rw [add_block]; exact hn255_0) | (show (Addr.add _ _).block ≠ _; rw [add_block]; exact hn255_0) | exact hn255_0) (.int .i64 ((rd_T50 l0 x3_2).f0))).trans hx255_1; replace hx255_2 := (cell_far (p := ⟨gb253, 0, none⟩) (by first | (rw [add_block]; exact hn255_0) | (show (Addr.add _ _).block ≠ _; rw [add_block]; exact hn255_0) | exact hn255_0) (.int .i64 ((rd_T50 l0 x3_2).f0))).trans hx255_2; replace hx255_0 := (cell_far (p := ⟨gb253, 1, none⟩) (by first | (rw [add_block]; exact hn255_1) | (show (Addr.add _ _).block ≠ _; rw [add_block]; exact hn255_1) | exact hn255_1) (.int .i64 ((rd_T50 l0 x3_2).f1))).trans hx255_0; replace hx255_1 := (cell_far (p := ⟨gb253, 1, none⟩) (by first | (rw [add_block]; exact hn255_1) | (show (Addr.add _ _).block ≠ _; rw [add_block]; exact hn255_1) | exact hn255_1) (.int .i64 ((rd_T50 l0 x3_2).f1))).trans hx255_1; replace hx255_2 := (cell_far (p := ⟨gb253, 1, none⟩) (by first | (rw [add_block]; exact hn255_1) | (show (Addr.add _ _).block ≠ _; rw [add_block]; exact hn255_1) | exact hn255_1) (.int .i64 ((rd_T50 l0 x3_2).f1))).trans hx255_2; replace hx255_0 := (cell_far (p := ⟨gb253, 2, none⟩) (by first | (rw [add_block]; exact hn255_2) | (show (Addr.add _ _).block ≠ _; rw [add_block]; exact hn255_2) | exact hn255_2) (.int .i64 ((rd_T50 l0 x3_2).f2))).trans hx255_0; replace hx255_1 := (cell_far (p := ⟨gb253, 2, none⟩) (by first | (rw [add_block]; exact hn255_2) | (show (Addr.add _ _).block ≠ _; rw [add_block]; exact hn255_2) | exact hn255_2) (.int .i64 ((rd_T50 l0 x3_2).f2))).trans hx255_1; replace hx255_2 := (cell_far (p := ⟨gb253, 2, none⟩) (by first | (rw [add_block]; exact hn255_2) | (show (Addr.add _ _).block ≠ _; rw [add_block]; exact hn255_2) | exact hn255_2) (.int .i64 ((rd_T50 l0 x3_2).f2))).trans hx255_2; (try have hy255_0 := fun (n_ : Nat) => (show (((((w10.drewN n_).setCell ⟨gb253, 0, none⟩ (.int .i64 ((rd_T50 l0 x3_2).f0))).setCell ⟨gb253, 1, none⟩ (.int .i64 ((rd_T50 l0 x3_2).f1))).setCell ⟨gb253, 2, none⟩ (.int .i64 ((rd_T50 l0 x3_2).f2)))).cell? _ = some _ from hx255_0)); (try have hy255_1 := fun (n_ : Nat) => (show (((((w10.drewN n_).setCell ⟨gb253, 0, none⟩ (.int .i64 ((rd_T50 l0 x3_2).f0))).setCell ⟨gb253, 1, none⟩ (.int .i64 ((rd_T50 l0 x3_2).f1))).setCell ⟨gb253, 2, none⟩ (.int .i64 ((rd_T50 l0 x3_2).f2)))).cell? _ = some _ from hx255_1)); (try have hy255_2 := fun (n_ : Nat) => (show (((((w10.drewN n_).setCell ⟨gb253, 0, none⟩ (.int .i64 ((rd_T50 l0 x3_2).f0))).setCell ⟨gb253, 1, none⟩ (.int .i64 ((rd_T50 l0 x3_2).f1))).setCell ⟨gb253, 2, none⟩ (.int .i64 ((rd_T50 l0 x3_2).f2)))).cell? _ = some _ from hx255_2)); clear hn255_0; clear hn255_1; clear hn255_2; replace p255 := eq_true p255; replace q255 := eq_true q255)))
             go_meet
             case rel => exact ⟨_, (true), (by first | rfl | (simp; done) | (simp [*]; done)), H', ⟨by have := HJ1.out; have := HK2.out; first | omega | exact Nat.le_refl _⟩, ⟨by (with_reducible repeat (first | refine blk_drewN ?_ _ | refine blk_drew ?_ | refine blk_alloc ?_ _)); refine blk_put (cs := #[.int .i64 ((rd_T50 l0 x3_2).f0), .int .i64 ((rd_T50 l0 x3_2).f1), .int .i64 0]) ?_ 2 _ rfl; (with_reducible repeat (first | refine blk_drewN ?_ _ | refine blk_drew ?_ | refine blk_alloc ?_ _)); refine blk_put (cs := #[.int .i64 ((rd_T50 l0 x3_2).f0), .int .i64 0, .int .i64 0]) ?_ 1 _ rfl; (with_reducible repeat (first | refine blk_drewN ?_ _ | refine blk_drew ?_ | refine blk_alloc ?_ _)); refine blk_put (cs := #[.int .i64 0, .int .i64 0, .int .i64 0]) ?_ 0 _ rfl; exact bk⟩, ⟨bb⟩⟩
           ·rw [if_neg c15] at H
            exact absurd H (by simp)
          ·rw [if_neg c14] at H
           exact absurd H (by simp)
         ·replace c13 := Bool.eq_false_iff.mpr c13
          subst c13
          have H1 : (spec_TreeOk.j2 k2 l0 x3_2 true ((rd_T50 l0 x3_2).f0) ((rd_T50 l0 x3_2).f1) ((rd_T50 l0 x3_2).f2)) = some r := by rw [if_neg (show ¬ (false = true) by decide)] at H; exact H
          clear H
          have H := H1
          clear H1
          have H' := Aside0.mk H
          clear H
          obtain ⟨hcz23_0, hcz23_1, hcz23_2, hfz23_0, hfz23_1, hfz23_2⟩ := bx3 BK253.out
          go_wp2_with (first | (go_at_call 103; (with_reducible refine (spec_l01In.calls ((rd_T50 l0 x3_2).f0) 0 (wrap64 (x3_2 - 1)) false _ A12.out).mono ?_); rintro e w' ⟨rfl, ⟨nd, rfl⟩⟩; (try first | exact ⟨rfl, _, World.drewN_drewN _ _ _⟩ | exact ⟨rfl, _, Eq.trans (World.drewN_drewN _ _ _) (congrArg (World.drewN _) (Nat.add_assoc _ _ _))⟩)))
          repeat (go_quiet (first | (go_at_call 103; (with_reducible refine (spec_l01In.calls ((rd_T50 l0 x3_2).f0) 0 (wrap64 (x3_2 - 1)) false _ A12.out).mono ?_); rintro e w' ⟨rfl, ⟨nd, rfl⟩⟩; (try first | exact ⟨rfl, _, World.drewN_drewN _ _ _⟩ | exact ⟨rfl, _, Eq.trans (World.drewN_drewN _ _ _) (congrArg (World.drewN _) (Nat.add_assoc _ _ _))⟩))); try go_wp2_with (first | (go_at_call 103; (with_reducible refine (spec_l01In.calls ((rd_T50 l0 x3_2).f0) 0 (wrap64 (x3_2 - 1)) false _ A12.out).mono ?_); rintro e w' ⟨rfl, ⟨nd, rfl⟩⟩; (try first | exact ⟨rfl, _, World.drewN_drewN _ _ _⟩ | exact ⟨rfl, _, Eq.trans (World.drewN_drewN _ _ _) (congrArg (World.drewN _) (Nat.add_assoc _ _ _))⟩))))
          go_meet
          case rel => exact ⟨_, (true), (by first | rfl | (simp; done) | (simp [*]; done)), H', ⟨by have := HJ1.out; have := HK2.out; first | omega | exact Nat.le_refl _⟩, ⟨by (with_reducible repeat (first | refine blk_drewN ?_ _ | refine blk_drew ?_ | refine blk_alloc ?_ _)); refine blk_put (cs := #[.int .i64 ((rd_T50 l0 x3_2).f0), .int .i64 ((rd_T50 l0 x3_2).f1), .int .i64 0]) ?_ 2 _ rfl; (with_reducible repeat (first | refine blk_drewN ?_ _ | refine blk_drew ?_ | refine blk_alloc ?_ _)); refine blk_put (cs := #[.int .i64 ((rd_T50 l0 x3_2).f0), .int .i64 0, .int .i64 0]) ?_ 1 _ rfl; (with_reducible repeat (first | refine blk_drewN ?_ _ | refine blk_drew ?_ | refine blk_alloc ?_ _)); refine blk_put (cs := #[.int .i64 0, .int .i64 0, .int .i64 0]) ?_ 0 _ rfl; exact bk⟩, ⟨bb⟩⟩
        case rest =>
         clear HC9
         try clear c1
         try clear p2
         try clear q2
         try clear hx2
         try clear qi2
         try clear c4
         try clear c5
         try clear c5b0
         try clear c5b1
         try clear c6
         try clear p6
         try clear c7
         try clear c7b0
         try clear c8
         try clear c8b0
         try clear c10
         try clear c13
         try clear c14
         try clear c14b0
         try clear c15
         try clear c15b0
         try clear c16
         try clear c16b0
         try clear c16b1
         try clear c18
         try clear hcz11_0
         try clear hcz11_1
         try clear hcz11_2
         try clear hcz20_0
         try clear hcz20_1
         try clear hcz20_2
         try clear hcz21_0
         try clear hcz21_1
         try clear hcz21_2
         try clear hcz22_0
         try clear hcz22_1
         try clear hcz22_2
         try clear hcz23_0
         try clear hcz23_1
         try clear hcz23_2
         try clear hfz11_0
         try clear hfz11_1
         try clear hfz11_2
         try clear hfz20_0
         try clear hfz20_1
         try clear hfz20_2
         try clear hfz21_0
         try clear hfz21_1
         try clear hfz21_2
         try clear hfz22_0
         try clear hfz22_1
         try clear hfz22_2
         try clear hfz23_0
         try clear hfz23_1
         try clear hfz23_2
         try clear hx251_0
         try clear hx251_1
         try clear hx251_2
         try clear hx252_0
         try clear hx252_1
         try clear hx252_2
         try clear hx255_0
         try clear hx255_1
         try clear hx255_2
         try clear p2
         try clear p251
         try clear p252
         try clear p255
         try clear q2
         try clear q251
         try clear q252
         try clear q255
         obtain ⟨kq, x53_8, rfl, HA, HJ8, BK253, HB⟩ := hcut
         cases kq with
         | zero => exact absurd HA.out (by simp [spec_TreeOk.j2])
         | succ kj8 =>
          have H := HA.out
          clear HA
          simp only [spec_TreeOk.j2] at H
          by_cases c24 : x53_8 = true
          ·subst c24
           have H1 : (some false) = some r := by rw [if_pos rfl] at H; exact H
           clear H
           have H := H1
           clear H1
           obtain rfl := Option.some.inj H
           go_wp2
           repeat (go_quiet (fail); try go_wp2)
           go_ret
           exact ⟨by first | rfl | (simp [errW_none, errW_some] <;> rfl) | (simp [*, errW_none, errW_some] <;> rfl), bb⟩
          ·replace c24 := Bool.eq_false_iff.mpr c24
           subst c24
           have H1 : (spec_TreeOk.l1 kj8 l0 x3_2 1 ((rd_T50 l0 x3_2).f0) ((rd_T50 l0 x3_2).f1) ((rd_T50 l0 x3_2).f2)) = some r := by rw [if_neg (show ¬ (false = true) by decide)] at H; exact H
           clear H
           have H := H1
           clear H1
           have H' := Aside0.mk H
           clear H
           go_wp2
           repeat (go_quiet (fail); try go_wp2)
           go_loopg [5] kj8 (fun kq v5 w' => ∃ (x5_4 : Int), v5 = .int .i64 x5_4 ∧ Aside0 (spec_TreeOk.l1 kq l0 x3_2 x5_4 ((rd_T50 l0 x3_2).f0) ((rd_T50 l0 x3_2).f1) ((rd_T50 l0 x3_2).f2) = some r) ∧ Aside0 (kq ≤ kj8) ∧ Aside0 (w'.heap[gb253]? = some (.cells #[.int .i64 ((rd_T50 l0 x3_2).f0), .int .i64 ((rd_T50 l0 x3_2).f1), .int .i64 ((rd_T50 l0 x3_2).f2)] 50 (0, 0))) ∧ Aside0 (Below w.heap.size w w'))
           case atStart => exact ⟨(1), (by first | rfl | (simp; done) | (simp [*]; done)), H', ⟨Nat.le_refl _⟩, ⟨by exact bk⟩, ⟨bb⟩⟩
           case round =>
            clear H'
            try clear c1
            try clear c2
            try clear p2
            try clear q2
            try clear hx2
            try clear qi2
            try clear c4
            try clear c5
            try clear c5b0
            try clear c5b1
            try clear c6
            try clear p6
            try clear c7
            try clear c7b0
            try clear c8
            try clear c8b0
            try clear c10
            try clear c13
            try clear c14
            try clear c14b0
            try clear c15
            try clear c15b0
            try clear c16
            try clear c16b0
            try clear c16b1
            try clear c18
            try clear c24
            try clear hcz11_0
            try clear hcz11_1
            try clear hcz11_2
            try clear hcz20_0
            try clear hcz20_1
            try clear hcz20_2
            try clear hcz21_0
            try clear hcz21_1
            try clear hcz21_2
            try clear hcz22_0
            try clear hcz22_1
            try clear hcz22_2
            try clear hcz23_0
            try clear hcz23_1
            try clear hcz23_2
            try clear hfz11_0
            try clear hfz11_1
            try clear hfz11_2
            try clear hfz20_0
            try clear hfz20_1
            try clear hfz20_2
            try clear hfz21_0
            try clear hfz21_1
            try clear hfz21_2
            try clear hfz22_0
            try clear hfz22_1
            try clear hfz22_2
            try clear hfz23_0
            try clear hfz23_1
            try clear hfz23_2
            try clear hx251_0
            try clear hx251_1
            try clear hx251_2
            try clear hx252_0
            try clear hx252_1
            try clear hx252_2
            try clear hx255_0
            try clear hx255_1
            try clear hx255_2
            try clear p2
            try clear p251
            try clear p252
            try clear p255
            try clear p6
            try clear q2
            try clear q251
            try clear q252
            try clear q255
            obtain ⟨x5_4, rfl, HA, HK4, BK253, HB⟩ := hrel
            cases gk with
            | zero => exact absurd HA.out (by simp [spec_TreeOk.l1])
            | succ k4 =>
             have H := HA.out
             clear HA
             simp only [spec_TreeOk.l1] at H
             by_cases c25 : x5_4 < x3_2
             ·rw [if_pos c25] at H
              have c25b0 : decide (x5_4 < x3_2) = true := decide_eq_true c25
              clear c25
              by_cases c26 : 0 ≤ x5_4
              ·rw [if_pos c26] at H
               have c26b0 : decide (0 ≤ x5_4) = true := decide_eq_true c26
               clear c26
               by_cases c27 : x5_4 < (l0.length : Int)
               ·rw [if_pos c27] at H
                have c27b0 : decide (x5_4 < (l0.length : Int)) = true := decide_eq_true c27
                clear c27
                by_cases c28 : ((rd_T50 l0 x5_4).f0) = ((rd_T50 l0 x3_2).f0)
                ·rw [if_pos c28] at H
                 have c28b0 : (((rd_T50 l0 x5_4).f0) == ((rd_T50 l0 x3_2).f0)) = true := beq_iff_eq.mpr c28
                 have c28b1 : (((rd_T50 l0 x5_4).f0) != ((rd_T50 l0 x3_2).f0)) = false := bne_eq_false_iff_eq.mpr c28
                 clear c28
                 by_cases c29 : ((rd_T50 l0 x5_4).f1) = ((rd_T50 l0 x3_2).f1)
                 ·rw [if_pos c29] at H
                  have c29b0 : (((rd_T50 l0 x5_4).f1) == ((rd_T50 l0 x3_2).f1)) = true := beq_iff_eq.mpr c29
                  have c29b1 : (((rd_T50 l0 x5_4).f1) != ((rd_T50 l0 x3_2).f1)) = false := bne_eq_false_iff_eq.mpr c29
                  clear c29
                  obtain rfl := Option.some.inj H
                  have p258 : 0 ≤ (x5_4 : Int) := of_decide_eq_true (by first | (with_reducible assumption) | assumption)
                  have q258 : x5_4 < (l0.length : Int) := of_decide_eq_true (by first | (with_reducible assumption) | assumption)
                  obtain ⟨ad258, e258, hx258_0, hx258_1, hx258_2⟩ := at_T50 HR0.out x5_4 p258 q258
                  obtain rfl : ad252 = ad258 := (by injection e258)
                  replace hx258_0 := pw_cell_below HB.out hx258_0
                  replace hx258_1 := pw_cell_below HB.out hx258_1
                  replace hx258_2 := pw_cell_below HB.out hx258_2
                  replace p258 := eq_true p258
                  replace q258 := eq_true q258
                  obtain ⟨hcz30_0, hcz30_1, hcz30_2, hfz30_0, hfz30_1, hfz30_2⟩ := bx3 BK253.out
                  have p259 : 0 ≤ (x5_4 : Int) := of_decide_eq_true (by first | (with_reducible assumption) | assumption)
                  have q259 : x5_4 < (l0.length : Int) := of_decide_eq_true (by first | (with_reducible assumption) | assumption)
                  obtain ⟨ad259, e259, hx259_0, hx259_1, hx259_2⟩ := at_T50 HR0.out x5_4 p259 q259
                  obtain rfl : ad252 = ad259 := (by injection e259)
                  replace hx259_0 := pw_cell_below HB.out hx259_0
                  replace hx259_1 := pw_cell_below HB.out hx259_1
                  replace hx259_2 := pw_cell_below HB.out hx259_2
                  replace p259 := eq_true p259
                  replace q259 := eq_true q259
                  go_wp2
                  repeat (go_quiet (fail); try go_wp2)
                  go_ret
                  exact ⟨by first | rfl | (simp [errW_none, errW_some] <;> rfl) | (simp [*, errW_none, errW_some] <;> rfl), bb⟩
                 ·rw [if_neg c29] at H
                  have c29b0 : (((rd_T50 l0 x5_4).f1) == ((rd_T50 l0 x3_2).f1)) = false := beq_eq_false_iff_ne.mpr c29
                  have c29b1 : (((rd_T50 l0 x5_4).f1) != ((rd_T50 l0 x3_2).f1)) = true := bne_iff_ne.mpr c29
                  have H' := Aside0.mk H
                  clear H
                  have p258 : 0 ≤ (x5_4 : Int) := of_decide_eq_true (by first | (with_reducible assumption) | assumption)
                  have q258 : x5_4 < (l0.length : Int) := of_decide_eq_true (by first | (with_reducible assumption) | assumption)
                  obtain ⟨ad258, e258, hx258_0, hx258_1, hx258_2⟩ := at_T50 HR0.out x5_4 p258 q258
                  obtain rfl : ad252 = ad258 := (by injection e258)
                  replace hx258_0 := pw_cell_below HB.out hx258_0
                  replace hx258_1 := pw_cell_below HB.out hx258_1
                  replace hx258_2 := pw_cell_below HB.out hx258_2
                  replace p258 := eq_true p258
                  replace q258 := eq_true q258
                  obtain ⟨hcz31_0, hcz31_1, hcz31_2, hfz31_0, hfz31_1, hfz31_2⟩ := bx3 BK253.out
                  have p259 : 0 ≤ (x5_4 : Int) := of_decide_eq_true (by first | (with_reducible assumption) | assumption)
                  have q259 : x5_4 < (l0.length : Int) := of_decide_eq_true (by first | (with_reducible assumption) | assumption)
                  obtain ⟨ad259, e259, hx259_0, hx259_1, hx259_2⟩ := at_T50 HR0.out x5_4 p259 q259
                  obtain rfl : ad252 = ad259 := (by injection e259)
                  replace hx259_0 := pw_cell_below HB.out hx259_0
                  replace hx259_1 := pw_cell_below HB.out hx259_1
                  replace hx259_2 := pw_cell_below HB.out hx259_2
                  replace p259 := eq_true p259
                  replace q259 := eq_true q259
                  go_wp2
                  repeat (go_quiet (fail); try go_wp2)
                  go_roundg k4
                  case measure => have := HJ1.out; have := HK2.out; have := HJ8.out; have := HK4.out; omega
                  case rel => exact ⟨(wrap64 (x5_4 + 1)), (by first | rfl | (simp; done) | (simp [*]; done)), H', ⟨by have := HJ1.out; have := HK2.out; have := HJ8.out; have := HK4.out; omega⟩, ⟨by exact bk⟩, ⟨bb⟩⟩
                ·rw [if_neg c28] at H
                 have c28b0 : (((rd_T50 l0 x5_4).f0) == ((rd_T50 l0 x3_2).f0)) = false := beq_eq_false_iff_ne.mpr c28
                 have c28b1 : (((rd_T50 l0 x5_4).f0) != ((rd_T50 l0 x3_2).f0)) = true := bne_iff_ne.mpr c28
                 have H' := Aside0.mk H
                 clear H
                 have p258 : 0 ≤ (x5_4 : Int) := of_decide_eq_true (by first | (with_reducible assumption) | assumption)
                 have q258 : x5_4 < (l0.length : Int) := of_decide_eq_true (by first | (with_reducible assumption) | assumption)
                 obtain ⟨ad258, e258, hx258_0, hx258_1, hx258_2⟩ := at_T50 HR0.out x5_4 p258 q258
                 obtain rfl : ad252 = ad258 := (by injection e258)
                 replace hx258_0 := pw_cell_below HB.out hx258_0
                 replace hx258_1 := pw_cell_below HB.out hx258_1
                 replace hx258_2 := pw_cell_below HB.out hx258_2
                 replace p258 := eq_true p258
                 replace q258 := eq_true q258
                 obtain ⟨hcz32_0, hcz32_1, hcz32_2, hfz32_0, hfz32_1, hfz32_2⟩ := bx3 BK253.out
                 go_wp2
                 repeat (go_quiet (fail); try go_wp2)
                 go_roundg k4
                 case measure => have := HJ1.out; have := HK2.out; have := HJ8.out; have := HK4.out; omega
                 case rel => exact ⟨(wrap64 (x5_4 + 1)), (by first | rfl | (simp; done) | (simp [*]; done)), H', ⟨by have := HJ1.out; have := HK2.out; have := HJ8.out; have := HK4.out; omega⟩, ⟨by exact bk⟩, ⟨bb⟩⟩
               ·rw [if_neg c27] at H
                exact absurd H (by simp)
              ·rw [if_neg c26] at H
               exact absurd H (by simp)
             ·rw [if_neg c25] at H
              have c25b0 : decide (x5_4 < x3_2) = false := decide_eq_false c25
              clear c25
              have H' := Aside0.mk H
              clear H
              go_wp2
              repeat (go_quiet (fail); try go_wp2)
              go_roundg k4
              case measure => have := HJ1.out; have := HK2.out; have := HJ8.out; have := HK4.out; omega
              case rel => exact ⟨(wrap64 (x3_2 + 1)), (by first | rfl | (simp; done) | (simp [*]; done)), H', ⟨by have := HJ1.out; have := HK2.out; have := HJ8.out; have := HK4.out; omega⟩, ⟨bb⟩⟩
       ·rw [if_neg c8] at H
        exact absurd H (by simp)
      ·rw [if_neg c7] at H
       have c7b0 : decide (x3_2 < (l0.length : Int)) = false := decide_eq_false c7
       clear c7
       obtain rfl := Option.some.inj H
       go_wp2
       repeat (go_quiet (fail); try go_wp2)
       go_ret
       exact ⟨by first | rfl | (simp [errW_none, errW_some] <;> rfl) | (simp [*, errW_none, errW_some] <;> rfl), bb⟩

/-! ### spec_l19Ok: function 97 -/
def spec_l19Ok.f (k : Nat) (l0 : List (S50)) (a1 : Int) : Option (Bool) := (spec_TreeOk.f k l0).bind fun t260 => (if t260 = true then ((spec_l01In.f a1 0 (wrap64 ((l0.length : Int) - 1))).bind fun t261 => (some t261)) else (some false))
set_option maxHeartbeats 8000000 in
set_option maxRecDepth 100000 in
theorem spec_l19Ok.calls (k : Nat) (A0 : Option Addr) (c0 : Nat) (l0 : List (S50)) (a1 : Int) (r : Bool) (w : World) (hr0 : Kd.C k50 w A0 l0.length l0) (hc0 : l0.length ≤ c0) (h : spec_l19Ok.f k l0 a1 = some r) :
  Calls Try.prog 97 #[.slice A0 l0.length c0, .int .i64 a1] w fun e w' => e = .returned (.bool r) ∧ Below w.heap.size w w' := by
 have HR0 := Aside0.mk hr0
 have HC0 := Aside0.mk hc0
 clear hr0 hc0
 have HB := Aside0.mk (Below.refl w.heap.size w)
 have H : ((spec_TreeOk.f k l0).bind fun t260 => (if t260 = true then ((spec_l01In.f a1 0 (wrap64 ((l0.length : Int) - 1))).bind fun t261 => (some t261)) else (some false))) = some r := h
 clear h
 replace H := Option.bind_eq_some_iff.mp H
 obtain ⟨t260, A30, H⟩ := H
 replace H : (if t260 = true then ((spec_l01In.f a1 0 (wrap64 ((l0.length : Int) - 1))).bind fun t261 => (some t261)) else (some false)) = some r := H
 have A3 := Aside0.mk A30
 clear A30
 by_cases c4 : t260 = true
 ·subst c4
  have H1 : ((spec_l01In.f a1 0 (wrap64 ((l0.length : Int) - 1))).bind fun t261 => (some t261)) = some r := by rw [if_pos rfl] at H; exact H
  clear H
  have H := H1
  clear H1
  replace H := Option.bind_eq_some_iff.mp H
  obtain ⟨t261, A50, H⟩ := H
  replace H : (some t261) = some r := H
  have A5 := Aside0.mk A50
  clear A50
  obtain rfl := Option.some.inj H
  go_enter Try.func97, Try.ntmps97
  go_wp2_with (first | ((with_reducible refine gate_callee (f := 106) rfl ?_); refine goesL_ (some 6) rfl rfl Try.func106 (by kernel_rfl) rfl #[.slice A0 l0.length c0] rfl (by (try simp only [List.map_toArray, List.map_cons, List.map_nil]); first | done | rfl | (simp only [List.length_drop, List.length_take]; rfl)) ?_; (with_reducible refine (spec_TreeOk.calls k _ _ l0 true _ ?side1 ?side2 A3.out).mono ?_); (case side1 => repeat (first | exact HR0.out | (with_reducible refine Kd.C_alloc ?_ _) | (with_reducible refine Kd.C_drewN ?_ _) | (with_reducible refine Kd.C_drew ?_))); (case side2 => exact HC0.out); rintro e w6 ⟨rfl, hb⟩; refine ⟨_, rfl, ?_⟩; have n0_ := Aside0.mk (below_step bb hb); clear HB; have HB := n0_; clear n0_; (try clear hb)) | (go_at_call 103; (with_reducible refine (spec_l01In.calls a1 0 (wrap64 ((l0.length : Int) - 1)) t261 _ A5.out).mono ?_); rintro e w' ⟨rfl, ⟨nd, rfl⟩⟩))
  go_ret
  exact ⟨by first | rfl | (simp [errW_none, errW_some] <;> rfl) | (simp [*, errW_none, errW_some] <;> rfl), bb⟩
 ·replace c4 := Bool.eq_false_iff.mpr c4
  subst c4
  have H1 : (some false) = some r := by rw [if_neg (show ¬ (false = true) by decide)] at H; exact H
  clear H
  have H := H1
  clear H1
  obtain rfl := Option.some.inj H
  go_enter Try.func97, Try.ntmps97
  go_wp2_with (first | ((with_reducible refine gate_callee (f := 106) rfl ?_); refine goesL_ (some 6) rfl rfl Try.func106 (by kernel_rfl) rfl #[.slice A0 l0.length c0] rfl (by (try simp only [List.map_toArray, List.map_cons, List.map_nil]); first | done | rfl | (simp only [List.length_drop, List.length_take]; rfl)) ?_; (with_reducible refine (spec_TreeOk.calls k _ _ l0 false _ ?side1 ?side2 A3.out).mono ?_); (case side1 => repeat (first | exact HR0.out | (with_reducible refine Kd.C_alloc ?_ _) | (with_reducible refine Kd.C_drewN ?_ _) | (with_reducible refine Kd.C_drew ?_))); (case side2 => exact HC0.out); rintro e w7 ⟨rfl, hb⟩; refine ⟨_, rfl, ?_⟩; have n0_ := Aside0.mk (below_step bb hb); clear HB; have HB := n0_; clear n0_; (try clear hb)))
  go_ret
  exact ⟨by first | rfl | (simp [errW_none, errW_some] <;> rfl) | (simp [*, errW_none, errW_some] <;> rfl), bb⟩

end Go.Proofs.Ytbbppknnkghkjaa.PFnExactOwnerOfId
