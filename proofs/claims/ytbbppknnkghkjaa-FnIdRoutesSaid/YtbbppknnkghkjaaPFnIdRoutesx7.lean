/- Printed by a program of this session out of the translation: each Go function as a Lean function, with the proof that Go comes to just its answer (no condition beyond what each theorem says). (squeezed) -/
import Derived.Test.YtbbppknnkghkjaaPFnIdRoutesx0
import Derived.Test.YtbbppknnkghkjaaSteps
import Derived.Test.YtbbppknnkghkjaaPFnIdRoutesx3
import Derived.Test.YtbbppknnkghkjaaPFnIdRoutesx4
import Derived.Test.YtbbppknnkghkjaaPFnIdRoutesx6
namespace Go.Proofs.Ytbbppknnkghkjaa.PFnIdRoutes
open Go.RowKit Go.Proofs.YtbbppknnkghkjaaW.PrintWords Go.Proofs.YtbbppknnkghkjaaW.PrintLast Go.Proofs.YtbbppknnkghkjaaW.PrintMore Go.Proofs.Ytbbppknnkghkjaa.Kit Go.Proofs.Ytbbppknnkghkjaa.Steps Go.Proofs.Ytbbppknnkghkjaa.Kit2
attribute [local go_sem] max2_int min2_int max_two min_two max_three min_three max_four min_four   -- for this text's walks alone
set_option linter.unusedVariables false
set_option linter.unusedSimpArgs false

/-! ### impl_DownToId: function 23 -/
mutual
def impl_DownToId.j0 : Nat → Bool → List (S50) → List Int → List Int → List Int → Int → Option (List Int)
 | 0, _, _, _, _, _, _ => none
 | k + 1, x21, x207000, x208000, x208001, x208002, x209000 => if x21 = true then (some ([] : List Int)) else ((impl_BusOf.f x209000).bind fun t214 => (impl_DownToId.l0 k (([0] : List Int)) x207000 x208000 x208001 x208002 x209000 t214))
def impl_DownToId.l0 : Nat → List Int → List (S50) → List Int → List Int → List Int → Int → Int → Option (List Int)
 | 0, _, _, _, _, _, _, _ => none
 | k + 1, x7, x207000, x208000, x208001, x208002, x209000, x216000 => if 0 ≤ (wrap64 ((x7.length : Int) - 1)) then (if (wrap64 ((x7.length : Int) - 1)) < (x7.length : Int) then (if 0 ≤ (rd x7 (wrap64 ((x7.length : Int) - 1))) then (if (rd x7 (wrap64 ((x7.length : Int) - 1))) < (x208001.length : Int) then ((impl_ChildrenOf.f k x207000 (rd x7 (wrap64 ((x7.length : Int) - 1)))).bind fun t219 => ((slices_IndexFunc_int_int_impl_DownToId_1.f t219 ((rd x208001 (rd x7 (wrap64 ((x7.length : Int) - 1)))) == x216000) x207000 x209000 x208000 x208001 x208002 x216000).bind fun t222 => (if t222 < 0 then (some ([] : List Int)) else (if 0 ≤ t222 then (if t222 < (t219.length : Int) then (if x7.length < 17592186044416 then ((some (x7 ++ [rd t219 t222] : List Int)).bind fun y224 => (if (rd x208001 (rd x7 (wrap64 ((x7.length : Int) - 1)))) = x216000 then (if 0 ≤ (rd t219 t222) then (if (rd t219 t222) < (x207000.length : Int) then ((impl_FunctionOf.f x209000).bind fun t229 => ((impl_hasFunction.f ((rd_T50 x207000 (rd t219 t222)).f0) ((rd_T50 x207000 (rd t219 t222)).f1) ((rd_T50 x207000 (rd t219 t222)).f2) t229).bind fun t230 => (if t230 = true then (some y224) else (some ([] : List Int))))) else (none)) else (none)) else (impl_DownToId.l0 k y224 x207000 x208000 x208001 x208002 x209000 x216000))) else (none)) else (none)) else (none))))) else (none)) else (none)) else (none)) else (none)
end
def impl_DownToId.f (k : Nat) (l0 : List (S50)) (l1_0 : List Int) (l1_1 : List Int) (l1_2 : List Int) (a2 : Int) : Option (List Int) := (impl_areNumbers.f k l0 l1_0 l1_1 l1_2).bind fun t209 => (if t209 = true then ((impl_IsId.f a2).bind fun t210 => (impl_DownToId.j0 k (!t210) l0 l1_0 l1_1 l1_2 a2)) else (impl_DownToId.j0 k true l0 l1_0 l1_1 l1_2 a2))
def impl_DownToId.T5 : Bool × List (List Nat × List Nat) := (true, [([], []), ([0], [0]), ([], []), ([1, 2], [1, 2]), ([3], [3]), ([], []), ([4, 5], [4, 5]), ([], []), ([7, 6, 0, 1, 2, 3, 4, 5, 6, 7], [6, 7])])
def impl_DownToId.B5 : List Nat := [0, 1, 0, 7, 15, 0, 63, 0, 255]
theorem impl_DownToId.tab5 : rtab .any (opsOf Try.f23 5) = impl_DownToId.T5 := by kernel_rfl
theorem impl_DownToId.bits5 : waitsOk impl_DownToId.T5.2 impl_DownToId.B5 = true := by kernel_rfl
def impl_DownToId.T12 : Bool × List (List Nat × List Nat) := (true, [([], []), ([], []), ([], []), ([1, 2], [1, 2]), ([3], [3]), ([0, 4], [0, 4]), ([5], [5]), ([], []), ([7], [7]), ([6, 8, 8], [6, 8]), ([9], [9])])
def impl_DownToId.B12 : List Nat := [0, 0, 0, 6, 14, 31, 63, 0, 128, 511, 1023]
theorem impl_DownToId.tab12 : rtab .any (opsOf Try.f23 12) = impl_DownToId.T12 := by kernel_rfl
theorem impl_DownToId.bits12 : waitsOk impl_DownToId.T12.2 impl_DownToId.B12 = true := by kernel_rfl
set_option maxHeartbeats 8000000 in
set_option maxRecDepth 100000 in
theorem impl_DownToId.calls (k : Nat) (A0 : Option Addr) (c0 : Nat) (l0 : List (S50)) (A1_0 : Option Addr) (c1_0 : Nat) (l1_0 : List Int) (A1_1 : Option Addr) (c1_1 : Nat) (l1_1 : List Int) (A1_2 : Option Addr) (c1_2 : Nat) (l1_2 : List Int) (a2 : Int) (r : List Int) (w : World) (hr0 : Kd.C k50 w A0 l0.length l0) (hc0 : l0.length ≤ c0) (hr1_0 : Kd.C (Kd.int .i64) w A1_0 l1_0.length l1_0) (hc1_0 : l1_0.length ≤ c1_0) (hr1_1 : Kd.C (Kd.int .i64) w A1_1 l1_1.length l1_1) (hc1_1 : l1_1.length ≤ c1_1) (hr1_2 : Kd.C (Kd.int .i64) w A1_2 l1_2.length l1_2) (hc1_2 : l1_2.length ≤ c1_2) (h : impl_DownToId.f k l0 l1_0 l1_1 l1_2 a2 = some r) :
  Calls Try.prog 23 #[.slice A0 l0.length c0, .agg #[.slice A1_0 l1_0.length c1_0, .slice A1_1 l1_1.length c1_1, .slice A1_2 l1_2.length c1_2], .int .i64 a2] w fun e w' => ∃ v0_ : Value, e = .returned (v0_) ∧ Kd.R (Kd.int .i64) 3 w' w.heap.size (fun _ => True) v0_ r ∧ Below w.heap.size w w' := by
 have hu31 := Try.underlying31
 have hu50 := Try.underlying50
 have HR0 := Aside0.mk hr0
 have HC0 := Aside0.mk hc0
 clear hr0 hc0
 have HR1_0 := Aside0.mk hr1_0
 have HC1_0 := Aside0.mk hc1_0
 clear hr1_0 hc1_0
 have HR1_1 := Aside0.mk hr1_1
 have HC1_1 := Aside0.mk hc1_1
 clear hr1_1 hc1_1
 have HR1_2 := Aside0.mk hr1_2
 have HC1_2 := Aside0.mk hc1_2
 clear hr1_2 hc1_2
 have HB := Aside0.mk (Below.refl w.heap.size w)
 have H : ((impl_areNumbers.f k l0 l1_0 l1_1 l1_2).bind fun t209 => (if t209 = true then ((impl_IsId.f a2).bind fun t210 => (impl_DownToId.j0 k (!t210) l0 l1_0 l1_1 l1_2 a2)) else (impl_DownToId.j0 k true l0 l1_0 l1_1 l1_2 a2))) = some r := h
 clear h
 have HC4 := Aside0.mk H
 clear H
 go_enter Try.func23, Try.ntmps23
 go_upto_region 1 with (first | ((with_reducible refine gate_dst (N := 3) rfl ?_); refine box_event ?hg (N := 3) ?hd (cs := #[.slice A0 l0.length c0]) (t := 29) ?hr ?_; (case hd => rfl); (case hg => rfl); (case hr => first | (go_simp; done) | (go_simp; rfl)); intro gb206 hg w5 hbox hb; have t_ := fc4 (below_step bb hb) (hbox) (bg hg : w.heap.size ≤ gb206) (bg hg : w.heap.size ≤ gb206); clear HB; obtain ⟨HB, BK206, GW206, GE206⟩ := t_; clear hb hbox hg) | ((with_reducible refine gate_dst (N := 4) rfl ?_); refine box_event ?hg (N := 4) ?hd (cs := #[.slice A1_0 l1_0.length c1_0, .slice A1_1 l1_1.length c1_1, .slice A1_2 l1_2.length c1_2]) (t := 31) ?hr ?_; (case hd => rfl); (case hg => rfl); (case hr => first | (go_simp; done) | (go_simp; rfl)); intro gb207 hg w6 hbox hb; have t_ := fc7 (bw BK206 hb) (below_step bb hb) (hbox) (bg hg : w.heap.size ≤ gb207) (bg hg : w.heap.size ≤ gb207) ((nl BK206 hg : gb206 ≠ gb207)) ((ng BK206 hg : gb207 ≠ gb206)); clear BK206 HB; obtain ⟨BK206, HB, BK207, GW207, GE207, NB206_207, NB207_206⟩ := t_; clear hb hbox hg) | ((with_reducible refine gate_dst (N := 5) rfl ?_); refine box_event ?hg (N := 5) ?hd (cs := #[.int .i64 a2]) (t := 3) ?hr ?_; (case hd => rfl); (case hg => rfl); (case hr => first | (go_simp; done) | (go_simp; rfl)); intro gb208 hg w7 hbox hb; have t_ := fc10 (bw BK206 hb) (bw BK207 hb) (below_step bb hb) (hbox) (bg hg : w.heap.size ≤ gb208) (bg hg : w.heap.size ≤ gb208) ((nl BK206 hg : gb206 ≠ gb208)) ((ng BK206 hg : gb208 ≠ gb206)) ((nl BK207 hg : gb207 ≠ gb208)) ((ng BK207 hg : gb208 ≠ gb207)); clear BK206 BK207 HB; obtain ⟨BK206, BK207, HB, BK208, GW208, GE208, NB206_208, NB208_206, NB207_208, NB208_207⟩ := t_; clear hb hbox hg))
 (try simp only [Act.put, List.setIfInBounds_toArray, List.set_cons_zero, List.set_cons_succ])
 go_cut [21] (fun v21 wc => ∃ (kq : Nat) (x21_3 : Bool), v21 = .bool x21_3 ∧ Aside0 (impl_DownToId.j0 kq x21_3 l0 l1_0 l1_1 l1_2 a2 = some r) ∧ Aside0 (kq ≤ k) ∧ Aside0 (wc.heap[gb206]? = some (.cells #[(.slice A0 l0.length c0)] 29 (0, 0))) ∧ Aside0 (wc.heap[gb207]? = some (.cells #[(.slice A1_0 l1_0.length c1_0), (.slice A1_1 l1_1.length c1_1), (.slice A1_2 l1_2.length c1_2)] 31 (0, 0))) ∧ Aside0 (wc.heap[gb208]? = some (.cells #[.int .i64 a2] 3 (0, 0))) ∧ Aside0 (Below w.heap.size w wc))
 case first =>
  have H := HC4.out
  clear HC4
  replace H := Option.bind_eq_some_iff.mp H
  obtain ⟨t209, A80, H⟩ := H
  replace H : (if t209 = true then ((impl_IsId.f a2).bind fun t210 => (impl_DownToId.j0 k (!t210) l0 l1_0 l1_1 l1_2 a2)) else (impl_DownToId.j0 k true l0 l1_0 l1_1 l1_2 a2)) = some r := H
  have A8 := Aside0.mk A80
  clear A80
  by_cases c9 : t209 = true
  ·subst c9
   have H1 : ((impl_IsId.f a2).bind fun t210 => (impl_DownToId.j0 k (!t210) l0 l1_0 l1_1 l1_2 a2)) = some r := by rw [if_pos rfl] at H; exact H
   clear H
   have H := H1
   clear H1
   replace H := Option.bind_eq_some_iff.mp H
   obtain ⟨t210, A100, H⟩ := H
   replace H : (impl_DownToId.j0 k (!t210) l0 l1_0 l1_1 l1_2 a2) = some r := H
   have A10 := Aside0.mk A100
   clear A100
   have H' := Aside0.mk H
   clear H
   have hnb11 := NB206_207.out
   have hnc11 := NB207_206.out
   have hnb12 := NB206_208.out
   have hnc12 := NB208_206.out
   obtain ⟨hcz13_0, hfz13_0⟩ := bx1 BK206.out
   have hnb14 := NB207_208.out
   have hnc14 := NB208_207.out
   obtain ⟨hcz15_0, hcz15_1, hcz15_2, hfz15_0, hfz15_1, hfz15_2⟩ := bx3 BK207.out
   go_wp2_with (first | ((with_reducible refine gate_callee (f := 76) rfl ?_); refine goesL_ (some 15) rfl rfl Try.func76 (by kernel_rfl) rfl #[.slice A0 l0.length c0, .agg #[.slice A1_0 l1_0.length c1_0, .slice A1_1 l1_1.length c1_1, .slice A1_2 l1_2.length c1_2]] rfl ms ?_; (with_reducible refine (impl_areNumbers.calls k _ _ l0 _ _ l1_0 _ _ l1_1 _ _ l1_2 true _ ?side1 ?side2 ?side3 ?side4 ?side5 ?side6 ?side7 ?side8 A8.out).mono ?_); (case side1 => exact kc); (case side2 => exact HC0.out); (case side3 => exact kc); (case side4 => exact HC1_0.out); (case side5 => exact kc); (case side6 => exact HC1_1.out); (case side7 => exact kc); (case side8 => exact HC1_2.out); rintro e w16 ⟨rfl, hb⟩; refine ⟨_, rfl, ?_⟩; have t_ := fc4 (bw BK206 hb) (bw BK207 hb) (bw BK208 hb) (below_step bb hb); clear BK206 BK207 BK208 HB; obtain ⟨BK206, BK207, BK208, HB⟩ := t_; (try clear hb); (try clear hk); obtain ⟨hcz17_0, hfz17_0⟩ := bx1 BK208.out) | (go_at_call 47; (with_reducible refine (impl_IsId.calls a2 t210 _ A10.out).mono ?_); rintro e w' ⟨rfl, ⟨nd, rfl⟩⟩))
   go_meet
   case rel => exact ⟨_, (!t210), (by first | rfl | (simp; done) | (simp [*]; done)), H', ⟨by first | omega | exact Nat.le_refl _⟩, ⟨by exact bk⟩, ⟨by exact bk⟩, ⟨by exact bk⟩, ⟨bb⟩⟩
  ·replace c9 := Bool.eq_false_iff.mpr c9
   subst c9
   have H1 : (impl_DownToId.j0 k true l0 l1_0 l1_1 l1_2 a2) = some r := by rw [if_neg (show ¬ (false = true) by decide)] at H; exact H
   clear H
   have H := H1
   clear H1
   have H' := Aside0.mk H
   clear H
   have hnb18 := NB206_207.out
   have hnc18 := NB207_206.out
   have hnb19 := NB206_208.out
   have hnc19 := NB208_206.out
   obtain ⟨hcz20_0, hfz20_0⟩ := bx1 BK206.out
   have hnb21 := NB207_208.out
   have hnc21 := NB208_207.out
   obtain ⟨hcz22_0, hcz22_1, hcz22_2, hfz22_0, hfz22_1, hfz22_2⟩ := bx3 BK207.out
   go_wp2_with (first | ((with_reducible refine gate_callee (f := 76) rfl ?_); refine goesL_ (some 15) rfl rfl Try.func76 (by kernel_rfl) rfl #[.slice A0 l0.length c0, .agg #[.slice A1_0 l1_0.length c1_0, .slice A1_1 l1_1.length c1_1, .slice A1_2 l1_2.length c1_2]] rfl ms ?_; (with_reducible refine (impl_areNumbers.calls k _ _ l0 _ _ l1_0 _ _ l1_1 _ _ l1_2 false _ ?side1 ?side2 ?side3 ?side4 ?side5 ?side6 ?side7 ?side8 A8.out).mono ?_); (case side1 => exact kc); (case side2 => exact HC0.out); (case side3 => exact kc); (case side4 => exact HC1_0.out); (case side5 => exact kc); (case side6 => exact HC1_1.out); (case side7 => exact kc); (case side8 => exact HC1_2.out); rintro e w23 ⟨rfl, hb⟩; refine ⟨_, rfl, ?_⟩; have t_ := fc4 (bw BK206 hb) (bw BK207 hb) (bw BK208 hb) (below_step bb hb); clear BK206 BK207 BK208 HB; obtain ⟨BK206, BK207, BK208, HB⟩ := t_; (try clear hb); (try clear hk)))
   go_meet
   case rel => exact ⟨_, (true), (by first | rfl | (simp; done) | (simp [*]; done)), H', ⟨by first | omega | exact Nat.le_refl _⟩, ⟨by exact bk⟩, ⟨by exact bk⟩, ⟨by exact bk⟩, ⟨bb⟩⟩
 case rest =>
  clear HC4
  try clear c1
  try clear c2
  try clear p2
  try clear c7
  try clear c9
  try clear c11
  try clear c12
  try clear c14
  try clear c18
  try clear c19
  try clear c21
  try clear c23
  try clear hcz13_0
  try clear hcz15_0
  try clear hcz15_1
  try clear hcz15_2
  try clear hcz17_0
  try clear hcz20_0
  try clear hcz22_0
  try clear hcz22_1
  try clear hcz22_2
  try clear hfz13_0
  try clear hfz15_0
  try clear hfz15_1
  try clear hfz15_2
  try clear hfz17_0
  try clear hfz20_0
  try clear hfz22_0
  try clear hfz22_1
  try clear hfz22_2
  obtain ⟨kq, x21_3, rfl, HA, HJ3, BK206, BK207, BK208, HB⟩ := hcut
  cases kq with
  | zero => exact absurd HA.out (by simp [impl_DownToId.j0])
  | succ kj3 =>
   have H := HA.out
   clear HA
   simp only [impl_DownToId.j0] at H
   by_cases c24 : x21_3 = true
   ·subst c24
    have H1 : (some ([] : List Int)) = some r := by rw [if_pos rfl] at H; exact H
    clear H
    have H := H1
    clear H1
    obtain rfl := Option.some.inj H
    go_wp2
    go_ret
    exact ⟨_, er, by first | exact Kd.R_nil _ _ _ _ _ | exact Kd.N_nil _ _ _ _ _ | exact Kd.V_nil _ _ _ _ _ | exact Kd.Q_nil _ _ _ _ _ | exact Kd.S_nil _ _ _ _ _, bb⟩
   ·replace c24 := Bool.eq_false_iff.mpr c24
    subst c24
    have H1 : ((impl_BusOf.f a2).bind fun t214 => (impl_DownToId.l0 kj3 (([0] : List Int)) l0 l1_0 l1_1 l1_2 a2 t214)) = some r := by rw [if_neg (show ¬ (false = true) by decide)] at H; exact H
    clear H
    have H := H1
    clear H1
    obtain ⟨y211, hy211⟩ : ∃ y_ : List Int, y_ = (([0] : List Int)) := ⟨_, rfl⟩
    replace H : ((impl_BusOf.f a2).bind fun t214 => (impl_DownToId.l0 kj3 y211 l0 l1_0 l1_1 l1_2 a2 t214)) = some r := by first | (rw [hy211]; with_reducible exact H) | (have H2_ := (Option.bind_some _ _).symm.trans H; rw [hy211]; with_reducible exact H2_) | (have H2_ := (Option.bind_some _ _).symm.trans H; with_reducible exact H2_) | with_reducible exact H | (rw [hy211]; exact H) | exact H
    have Ny211 := Aside0.mk hy211
    clear hy211
    replace H := Option.bind_eq_some_iff.mp H
    obtain ⟨t214, A250, H⟩ := H
    replace H : (impl_DownToId.l0 kj3 y211 l0 l1_0 l1_1 l1_2 a2 t214) = some r := H
    have A25 := Aside0.mk A250
    clear A250
    have H' := Aside0.mk H
    clear H
    go_wp2_with (first | ((with_reducible refine gate_dst (N := 22) rfl ?_); refine Kd.R_lit (Kd.int .i64) _ 3 ?hg (N := 22) ?hd (xs := ([0] : List Int)) (inner := [.int .i64 0]) (ok := fun _ => True) (okp := fun _ => True) ?hr ?hp (fun _ hk => hk) trivial (Below.refl _ _) (Nat.le_refl _) (by simp) ?_; (case hd => rfl); (case hg => rfl); (case hr => first | (go_simp; done) | (go_simp; rfl)); (case hp => exact (Reps.one (show Kd.M (Kd.int .i64) _ _ _ 0 [.int .i64 0] from rfl) (Reps.none _ _))); intro v212 w26 ho27 hb hg_ hnew_; clear hg_ hnew_; (first | rw [← Ny211.out] at ho27 | (simp only [Int.reduceToNat] at ho27; rw [← Ny211.out] at ho27)); have t_ := fc5 (Kd.R_lower (Kd.R_newB ho27 (g := gb208) (o := .cells #[.int .i64 a2] 3 (0, 0)) bk) (below_size bb)) (bw BK206 hb) (bw BK207 hb) (bw BK208 hb) (below_step bb hb); clear BK206 BK207 BK208 HB; obtain ⟨HO213, BK206, BK207, BK208, HB⟩ := t_; clear hb ho27; have hnb28 := NB208_206.out; have hnc28 := NB206_208.out; have hnb29 := NB208_207.out; have hnc29 := NB207_208.out; obtain ⟨hcz30_0, hfz30_0⟩ := bx1 BK208.out) | ((with_reducible refine gate_callee (f := 77) rfl ?_); refine goesL_ (some 24) rfl rfl Try.func77 (by kernel_rfl) rfl #[.int .i64 a2] rfl ms ?_; (with_reducible refine (impl_BusOf.calls a2 t214 _ A25.out).mono ?_); rintro e w' ⟨rfl, ⟨nd, rfl⟩⟩; refine ⟨_, rfl, ?_⟩; (try (rw [drewN_self w26]; generalize hq_ : World.drewN w26 _ = w26; have n0_ : Aside0 (Kd.R (Kd.int .i64) 3 w26 w.heap.size (fun k_ => (True ∧ k_ ≠ gb208)) v212 y211) := ⟨by rw [← hq_]; exact (ra HO213.out)⟩; have n1_ : Aside0 (w26.heap[gb206]? = some (.cells #[.slice A0 l0.length c0] 29 (0, 0))) := ⟨by rw [← hq_]; exact bk⟩; have n2_ : Aside0 (w26.heap[gb207]? = some (.cells #[.slice A1_0 l1_0.length c1_0, .slice A1_1 l1_1.length c1_1, .slice A1_2 l1_2.length c1_2] 31 (0, 0))) := ⟨by rw [← hq_]; exact bk⟩; have n3_ : Aside0 (w26.heap[gb208]? = some (.cells #[.int .i64 a2] 3 (0, 0))) := ⟨by rw [← hq_]; exact bk⟩; have n4_ : Aside0 (Below w.heap.size w w26) := ⟨by rw [← hq_]; exact bb⟩; clear HO213 BK206 BK207 BK208 HB hq_; have HO213 := n0_; have BK206 := n1_; have BK207 := n2_; have BK208 := n3_; have HB := n4_; clear n0_ n1_ n2_ n3_ n4_))) | ((with_reducible refine gate_dst (N := 8) rfl ?_); refine box_event ?hg (N := 8) ?hd (cs := #[.int .i64 0]) (t := 3) ?hr ?_; (case hd => rfl); (case hg => rfl); (case hr => first | (go_simp; done) | (go_simp; rfl)); intro gb215 hg w31 hbox hb; have t_ := fc14 (Kd.R_below (Kd.R_elderB (ra HO213.out) gb215 (Nat.le_of_eq hg.symm)) hb) (bw BK206 hb) (bw BK207 hb) (bw BK208 hb) (below_step bb hb) (hbox) (bg hg : w.heap.size ≤ gb215) (bg hg : w.heap.size ≤ gb215) ((nl BK206 hg : gb206 ≠ gb215)) ((ng BK206 hg : gb215 ≠ gb206)) ((nl BK207 hg : gb207 ≠ gb215)) ((ng BK207 hg : gb215 ≠ gb207)) ((nl BK208 hg : gb208 ≠ gb215)) ((ng BK208 hg : gb215 ≠ gb208)); clear HO213 BK206 BK207 BK208 HB; obtain ⟨HO213, BK206, BK207, BK208, HB, BK215, GW215, GE215, NB206_215, NB215_206, NB207_215, NB215_207, NB208_215, NB215_208⟩ := t_; clear hb hbox hg; have hnb32 := NB215_206.out; have hnc32 := NB206_215.out; have hnb33 := NB215_207.out; have hnc33 := NB207_215.out; have hnb34 := NB215_208.out; have hnc34 := NB208_215.out; obtain ⟨hcz35_0, hfz35_0⟩ := bx1 BK215.out))
    go_loopg [7] kj3 (fun kq v7 w' => ∃ (x7_2 : List Int), Aside0 (impl_DownToId.l0 kq x7_2 l0 l1_0 l1_1 l1_2 a2 t214 = some r) ∧ Aside0 (kq ≤ kj3) ∧ Aside0 (Kd.R (Kd.int .i64) 3 w' w.heap.size (fun k_ => k_ ≠ gb208 ∧ k_ ≠ gb215) v7 x7_2) ∧ Aside0 (w'.heap[gb206]? = some (.cells #[(.slice A0 l0.length c0)] 29 (0, 0))) ∧ Aside0 (w'.heap[gb207]? = some (.cells #[(.slice A1_0 l1_0.length c1_0), (.slice A1_1 l1_1.length c1_1), (.slice A1_2 l1_2.length c1_2)] 31 (0, 0))) ∧ Aside0 (w'.heap[gb208]? = some (.cells #[.int .i64 a2] 3 (0, 0))) ∧ Aside0 (w'.heap[gb215]? = some (.cells #[.int .i64 t214] 3 (0, 0))) ∧ Aside0 (Below w.heap.size w w'))
    case atStart => exact ⟨(y211), H', ⟨Nat.le_refl _⟩, ⟨by (with_reducible repeat (first | apply Kd.R_alloc | apply Kd.R_drewN | apply Kd.R_drew)); exact Kd.R_mono (Kd.R_far (p := ⟨gb215, 0, none⟩) (Kd.R_mono HO213.out (fun k_ hk => (⟨hk, hk.2⟩ : _ ∧ k_ ≠ gb215))) fk (.int .i64 t214)) (fun _ hk => (And.intro (hk.1.1.2) (hk.1.2)))⟩, ⟨by (with_reducible repeat (first | refine blk_drewN ?_ _ | refine blk_drew ?_ | refine blk_alloc ?_ _)); refine blk_far ?_ NB206_215.out _; exact bk⟩, ⟨by (with_reducible repeat (first | refine blk_drewN ?_ _ | refine blk_drew ?_ | refine blk_alloc ?_ _)); refine blk_far ?_ NB207_215.out _; exact bk⟩, ⟨by (with_reducible repeat (first | refine blk_drewN ?_ _ | refine blk_drew ?_ | refine blk_alloc ?_ _)); refine blk_far ?_ NB208_215.out _; exact bk⟩, ⟨by (with_reducible repeat (first | refine blk_drewN ?_ _ | refine blk_drew ?_ | refine blk_alloc ?_ _)); refine blk_put (cs := #[.int .i64 0]) ?_ 0 _ rfl; exact bk⟩, ⟨bb⟩⟩
    case round =>
     clear H'
     try clear c1
     try clear c2
     try clear p2
     try clear c3
     try clear c7
     try clear c9
     try clear c11
     try clear c12
     try clear c14
     try clear c18
     try clear c19
     try clear c21
     try clear c23
     try clear c24
     try clear c28
     try clear c29
     try clear c32
     try clear c33
     try clear c34
     try clear hcz13_0
     try clear hcz15_0
     try clear hcz15_1
     try clear hcz15_2
     try clear hcz17_0
     try clear hcz20_0
     try clear hcz22_0
     try clear hcz22_1
     try clear hcz22_2
     try clear hcz30_0
     try clear hcz35_0
     try clear hfz13_0
     try clear hfz15_0
     try clear hfz15_1
     try clear hfz15_2
     try clear hfz17_0
     try clear hfz20_0
     try clear hfz22_0
     try clear hfz22_1
     try clear hfz22_2
     try clear hfz30_0
     try clear hfz35_0
     try clear p2
     obtain ⟨x7_2, HA, HK2, HO_7, BK206, BK207, BK208, BK215, HB⟩ := hrel
     cases gk with
     | zero => exact absurd HA.out (by simp [impl_DownToId.l0])
     | succ k2 =>
      have H := HA.out
      clear HA
      simp only [impl_DownToId.l0] at H
      obtain ⟨ji36, hji36⟩ : ∃ j_ : Int, (wrap64 ((x7_2.length : Int) - 1)) = j_ := ⟨_, rfl⟩
      replace H : (if 0 ≤ (ji36) then (if (ji36) < (x7_2.length : Int) then (if 0 ≤ (rd x7_2 (ji36)) then (if (rd x7_2 (ji36)) < (l1_1.length : Int) then ((impl_ChildrenOf.f k2 l0 (rd x7_2 (ji36))).bind fun t219 => ((slices_IndexFunc_int_int_impl_DownToId_1.f t219 ((rd l1_1 (rd x7_2 (ji36))) == t214) l0 a2 l1_0 l1_1 l1_2 t214).bind fun t222 => (if t222 < 0 then (some ([] : List Int)) else (if 0 ≤ t222 then (if t222 < (t219.length : Int) then (if x7_2.length < 17592186044416 then ((some (x7_2 ++ [rd t219 t222] : List Int)).bind fun y224 => (if (rd l1_1 (rd x7_2 (ji36))) = t214 then (if 0 ≤ (rd t219 t222) then (if (rd t219 t222) < (l0.length : Int) then ((impl_FunctionOf.f a2).bind fun t229 => ((impl_hasFunction.f ((rd_T50 l0 (rd t219 t222)).f0) ((rd_T50 l0 (rd t219 t222)).f1) ((rd_T50 l0 (rd t219 t222)).f2) t229).bind fun t230 => (if t230 = true then (some y224) else (some ([] : List Int))))) else (none)) else (none)) else (impl_DownToId.l0 k2 y224 l0 l1_0 l1_1 l1_2 a2 t214))) else (none)) else (none)) else (none))))) else (none)) else (none)) else (none)) else (none)) = some r := by first | (rw [hji36] at H; exact H) | (simp only [hji36] at H ⊢; exact H)
      have hji36w : (IntKind.i64.wrap ((x7_2.length : Int) - 1)) = ji36 := (i64_w _).trans hji36
      by_cases c37 : 0 ≤ (ji36)
      ·rw [if_pos c37] at H
       have c37b0 : decide (0 ≤ (ji36)) = true := decide_eq_true c37
       clear c37
       by_cases c38 : (ji36) < (x7_2.length : Int)
       ·rw [if_pos c38] at H
        have c38b0 : decide ((ji36) < (x7_2.length : Int)) = true := decide_eq_true c38
        clear c38
        by_cases c39 : 0 ≤ (rd x7_2 (ji36))
        ·rw [if_pos c39] at H
         have c39b0 : decide (0 ≤ (rd x7_2 (ji36))) = true := decide_eq_true c39
         clear c39
         by_cases c40 : (rd x7_2 (ji36)) < (l1_1.length : Int)
         ·rw [if_pos c40] at H
          have c40b0 : decide ((rd x7_2 (ji36)) < (l1_1.length : Int)) = true := decide_eq_true c40
          clear c40
          replace H := Option.bind_eq_some_iff.mp H
          obtain ⟨t219, A410, H⟩ := H
          replace H : ((slices_IndexFunc_int_int_impl_DownToId_1.f t219 ((rd l1_1 (rd x7_2 (ji36))) == t214) l0 a2 l1_0 l1_1 l1_2 t214).bind fun t222 => (if t222 < 0 then (some ([] : List Int)) else (if 0 ≤ t222 then (if t222 < (t219.length : Int) then (if x7_2.length < 17592186044416 then ((some (x7_2 ++ [rd t219 t222] : List Int)).bind fun y224 => (if (rd l1_1 (rd x7_2 (ji36))) = t214 then (if 0 ≤ (rd t219 t222) then (if (rd t219 t222) < (l0.length : Int) then ((impl_FunctionOf.f a2).bind fun t229 => ((impl_hasFunction.f ((rd_T50 l0 (rd t219 t222)).f0) ((rd_T50 l0 (rd t219 t222)).f1) ((rd_T50 l0 (rd t219 t222)).f2) t229).bind fun t230 => (if t230 = true then (some y224) else (some ([] : List Int))))) else (none)) else (none)) else (impl_DownToId.l0 k2 y224 l0 l1_0 l1_1 l1_2 a2 t214))) else (none)) else (none)) else (none)))) = some r := H
          have A41 := Aside0.mk A410
          clear A410
          replace H := Option.bind_eq_some_iff.mp H
          obtain ⟨t222, A420, H⟩ := H
          replace H : (if t222 < 0 then (some ([] : List Int)) else (if 0 ≤ t222 then (if t222 < (t219.length : Int) then (if x7_2.length < 17592186044416 then ((some (x7_2 ++ [rd t219 t222] : List Int)).bind fun y224 => (if (rd l1_1 (rd x7_2 (ji36))) = t214 then (if 0 ≤ (rd t219 t222) then (if (rd t219 t222) < (l0.length : Int) then ((impl_FunctionOf.f a2).bind fun t229 => ((impl_hasFunction.f ((rd_T50 l0 (rd t219 t222)).f0) ((rd_T50 l0 (rd t219 t222)).f1) ((rd_T50 l0 (rd t219 t222)).f2) t229).bind fun t230 => (if t230 = true then (some y224) else (some ([] : List Int))))) else (none)) else (none)) else (impl_DownToId.l0 k2 y224 l0 l1_0 l1_1 l1_2 a2 t214))) else (none)) else (none)) else (none))) = some r := H
          have A42 := Aside0.mk A420
          clear A420
          by_cases c43 : t222 < 0
          ·rw [if_pos c43] at H
           have c43b0 : decide (t222 < 0) = true := decide_eq_true c43
           clear c43
           obtain rfl := Option.some.inj H
           obtain ⟨Ao44, co44, eo44⟩ := Kd.R_slice HO_7.out
           subst eo44
           have p216 : 0 ≤ ((ji36) : Int) := of_decide_eq_true as_
           have q216 : (ji36) < (x7_2.length : Int) := of_decide_eq_true as_
           obtain ⟨ad216, e216, hx216_0⟩ := Kd.at_int (Kd.R_reads' HO_7.out).2.2 (ji36) p216 q216
           cases e216
           replace p216 := eq_true p216
           replace q216 := eq_true q216
           try go_wp2
           have t_ := fc6 (Kd.R_drew HO_7.out) (blk_drew BK206.out) (blk_drew BK207.out) (blk_drew BK208.out) (blk_drew BK215.out) (below_drew1 HB.out)
           clear HO_7 BK206 BK207 BK208 BK215 HB
           obtain ⟨HO_7, BK206, BK207, BK208, BK215, HB⟩ := t_
           have p217 : 0 ≤ ((rd x7_2 (ji36)) : Int) := of_decide_eq_true as_
           have q217 : (rd x7_2 (ji36)) < (l1_1.length : Int) := of_decide_eq_true as_
           obtain ⟨ad217, e217, hx217_0⟩ := Kd.at_int HR1_1.out (rd x7_2 (ji36)) p217 q217
           have hw217_0 := hx217_0
           cases e217
           replace hx217_0 := pw_cell_below HB.out hx217_0
           replace p217 := eq_true p217
           replace q217 := eq_true q217
           refine start_ (n := 9) (S := fun w' => w'.cell? ⟨gb207, 0, none⟩ = some (.slice A1_0 l1_0.length c1_0) ∧ w'.cell? ⟨gb207, 1, none⟩ = some (.slice (some ad217) l1_1.length c1_1) ∧ w'.cell? ⟨gb207, 2, none⟩ = some (.slice A1_2 l1_2.length c1_2) ∧ w'.cell? ⟨gb215, 0, none⟩ = some (.int .i64 t214) ∧ w'.cell? (ad217.add ((rd x7_2 (ji36))).toNat) = some (.int .i64 (rd l1_1 (rd x7_2 (ji36))))) (ds := []) (bz 9 0) (by kernel_rfl) rfl (by kernel_rfl) ⟨(blk_cell BK207.out 0).trans rfl, (blk_cell BK207.out 1).trans rfl, (blk_cell BK207.out 2).trans rfl, (blk_cell BK215.out 0).trans rfl, ((HB.out.cell (World.block_lt_of_cell? w _ hw217_0)).trans hw217_0)⟩ (fun hHeld => ?_); refine with_tabW impl_DownToId.tab5 impl_DownToId.bits5 (fun HT_ HW_ => ?_)
           generalize wr.drew = w45 at HO_7 BK206 BK207 BK208 BK215 HB hx217_0 hHeld ⊢
           refine pv 0 31 (bz 9 1) HT_ (h := ?_)
           refine pv 2 33 (bz 9 5) HT_ (h := ?_)
           refine tv5 1 32 (bz 9 7) HT_ HW_ hHeld (h := ?_)
           refine pv 3 34 (bz 9 15) HT_ (h := ?_)
           refine tv5 4 35 (bz 9 31) HT_ HW_ hHeld (h := ?_)
           refine tv5 5 36 (bz 9 63) HT_ HW_ hHeld (h := ?_)
           refine pv 6 37 (bz 9 127) HT_ (h := ?_)
           refine one_ (i := 7) (N := some 10) (bz 9 255) rfl rfl (one_of HT_.out (by kernel_rfl)) (by decide) (fun K hK => ?_)
           refine box_step ?hg (N := 10) ?hd (cs := #[.bool false]) (t := 4) ?hr ?_; (case hd => rfl); (case hg => rfl); (case hr => first | (go_simp; done) | (go_simp; rfl))
           intro gb218 hg w46 hbox hb
           have t_ := fc17 (Kd.R_below (ra HO_7.out) hb) (bw BK206 hb) (bw BK207 hb) (bw BK208 hb) (bw BK215 hb) (below_step bb hb) (hbox) (bg hg : w.heap.size ≤ gb218) (bg hg : w.heap.size ≤ gb218) ((nl BK206 hg : gb206 ≠ gb218)) ((ng BK206 hg : gb218 ≠ gb206)) ((nl BK207 hg : gb207 ≠ gb218)) ((ng BK207 hg : gb218 ≠ gb207)) ((nl BK208 hg : gb208 ≠ gb218)) ((ng BK208 hg : gb218 ≠ gb208)) ((nl BK215 hg : gb215 ≠ gb218)) ((ng BK215 hg : gb218 ≠ gb215))
           clear HO_7 BK206 BK207 BK208 BK215 HB
           obtain ⟨HO_7, BK206, BK207, BK208, BK215, HB, BK218, GW218, GE218, NB206_218, NB218_206, NB207_218, NB218_207, NB208_218, NB218_208, NB215_218, NB218_215⟩ := t_
           clear hb hbox hg
           refine hK.out _ _ ⟨(blk_cell BK207.out 0).trans rfl, (blk_cell BK207.out 1).trans rfl, (blk_cell BK207.out 2).trans rfl, (blk_cell BK215.out 0).trans rfl, ((HB.out.cell (World.block_lt_of_cell? w _ hw217_0)).trans hw217_0)⟩ (fun hHeld => ?_)
           clear hK K
           refine norm_ (a' := ?_) ?_ ?_
           rotate_left
           ·show Act.put _ (some 10) _ = _
            simp only [Act.put, List.setIfInBounds_toArray, List.set_cons_zero, List.set_cons_succ, i64_w, i32_w]
            rfl
           refine one_ (i := 8) (N := none) (bz 9 511) rfl rfl (one_of HT_.out (by kernel_rfl)) (by decide) (fun K hK => ?_)
           have hs47 : w46.cell? ⟨gb218, 0, none⟩ = some (.bool false) := (blk_cell BK218.out 0).trans rfl
           have hfs47 := blk_frozen BK218.out 0
           have hns47_0 := NB206_218.out
           have hns47_1 := NB207_218.out
           have hns47_2 := NB208_218.out
           have hns47_3 := NB215_218.out
           have hms47_0 := NB218_206.out
           have hms47_1 := NB218_207.out
           have hms47_2 := NB218_208.out
           have hms47_3 := NB218_215.out
           refine skip_ (w1 := ?_) (by rfl) rfl ?_ ?_
           rotate_left
           ·go_simp
            rfl
           refine hK.out _ _ ⟨((cell_far (p := ⟨gb218, _, none⟩) NB207_218.out _).trans (hHeld.1)), ((cell_far (p := ⟨gb218, _, none⟩) NB207_218.out _).trans (hHeld.2.1)), ((cell_far (p := ⟨gb218, _, none⟩) NB207_218.out _).trans (hHeld.2.2.1)), ((cell_far (p := ⟨gb218, _, none⟩) NB215_218.out _).trans (hHeld.2.2.2.1)), ((cell_far (p := ⟨gb218, _, none⟩) (by first | exact Nat.ne_of_lt (Nat.lt_of_lt_of_le (by have := World.block_lt_of_cell? _ _ hw217_0; first | rwa [add_block] at this | exact this) GW218.out) | (rw [add_block]; exact Nat.ne_of_lt (Nat.lt_of_lt_of_le (by have := World.block_lt_of_cell? _ _ hw217_0; first | rwa [add_block] at this | exact this) GW218.out)) | (show (Addr.add _ _).block ≠ _; rw [add_block]; exact Nat.ne_of_lt (Nat.lt_of_lt_of_le (by have := World.block_lt_of_cell? _ _ hw217_0; first | rwa [add_block] at this | exact this) GW218.out)) | (dsimp only; exact Nat.ne_of_lt (Nat.lt_of_lt_of_le (by have := World.block_lt_of_cell? _ _ hw217_0; first | rwa [add_block] at this | exact this) GW218.out))) _).trans (hHeld.2.2.2.2))⟩ (fun hHeld => ?_)
           clear hK K
           refine done_ (done_of HT_.out (by kernel_rfl)) ?_
           have hnb48 := NB206_207.out
           have hnc48 := NB207_206.out
           have hnb49 := NB206_208.out
           have hnc49 := NB208_206.out
           have hnb50 := NB206_215.out
           have hnc50 := NB215_206.out
           have hnb51 := NB206_218.out
           have hnc51 := NB218_206.out
           obtain ⟨hcz52_0, hfz52_0⟩ := bx1 BK206.out
           try go_wp2_with (first | ((with_reducible refine gate_callee (f := 39) rfl ?_); refine goesL_ (some 40) rfl rfl Try.func39 (by kernel_rfl) rfl #[.slice A0 l0.length c0, .int .i64 (rd x7_2 (ji36))] rfl (by (try simp only [List.map_toArray, List.map_cons, List.map_nil]); first | done | (simp only [hji36]; rfl) | rfl | (simp only [List.length_drop, List.length_take]; rfl)) ?_; (with_reducible refine (impl_ChildrenOf.calls k2 _ _ l0 (rd x7_2 (ji36)) t219 _ ?side1 ?side2 A41.out).mono ?_); (case side1 => exact Kd.C_below HR0.out bb); (case side2 => exact HC0.out); rintro e w53 ⟨v220, rfl, ho0, hb⟩; refine ⟨_, rfl, ?_⟩; have t_ := fc8 (Kd.R_elder' (ra (Kd.R_mono (Kd.R_far (p := ⟨gb218, 0, none⟩) (Kd.R_types HO_7.out BK218.out (by decide)) fk (.bool ((rd l1_1 (rd x7_2 (ji36))) == t214))) (fun _ h_ => h_.1))) (Kd.R_base ho0) hb) (Kd.R_lower (Kd.R_newB (Kd.R_newB (Kd.R_new' ho0 (Kd.R_lt (ra (Kd.R_mono (Kd.R_far (p := ⟨gb218, 0, none⟩) (Kd.R_types HO_7.out BK218.out (by decide)) fk (.bool ((rd l1_1 (rd x7_2 (ji36))) == t214))) (fun _ h_ => h_.1))))) (g := gb208) (o := .cells #[.int .i64 a2] 3 (0, 0)) (by (with_reducible repeat (first | refine blk_drewN ?_ _ | refine blk_drew ?_ | refine blk_alloc ?_ _)); refine blk_far ?_ NB208_218.out _; exact bk)) (g := gb215) (o := .cells #[.int .i64 t214] 3 (0, 0)) (by (with_reducible repeat (first | refine blk_drewN ?_ _ | refine blk_drew ?_ | refine blk_alloc ?_ _)); refine blk_far ?_ NB215_218.out _; exact bk)) (below_size bb)) (blk_below (g := gb206) (o := .cells #[.slice A0 l0.length c0] 29 (0, 0)) (by (with_reducible repeat (first | refine blk_drewN ?_ _ | refine blk_drew ?_ | refine blk_alloc ?_ _)); refine blk_far ?_ NB206_218.out _; exact bk) hb) (blk_below (g := gb207) (o := .cells #[.slice A1_0 l1_0.length c1_0, .slice (some ad217) l1_1.length c1_1, .slice A1_2 l1_2.length c1_2] 31 (0, 0)) (by (with_reducible repeat (first | refine blk_drewN ?_ _ | refine blk_drew ?_ | refine blk_alloc ?_ _)); refine blk_far ?_ NB207_218.out _; exact bk) hb) (blk_below (g := gb208) (o := .cells #[.int .i64 a2] 3 (0, 0)) (by (with_reducible repeat (first | refine blk_drewN ?_ _ | refine blk_drew ?_ | refine blk_alloc ?_ _)); refine blk_far ?_ NB208_218.out _; exact bk) hb) (blk_below (g := gb215) (o := .cells #[.int .i64 t214] 3 (0, 0)) (by (with_reducible repeat (first | refine blk_drewN ?_ _ | refine blk_drew ?_ | refine blk_alloc ?_ _)); refine blk_far ?_ NB215_218.out _; exact bk) hb) (blk_below (g := gb218) (o := .cells #[.bool ((rd l1_1 (rd x7_2 (ji36))) == t214)] 4 (0, 0)) (by (with_reducible repeat (first | refine blk_drewN ?_ _ | refine blk_drew ?_ | refine blk_alloc ?_ _)); refine blk_put (cs := #[.bool false]) ?_ 0 _ rfl; exact bk) hb) (below_step bb hb); clear HO_7 BK206 BK207 BK208 BK215 BK218 HB; obtain ⟨HO_7, HO221, BK206, BK207, BK208, BK215, BK218, HB⟩ := t_; (try clear hb); (try clear hk); (try clear ho0); obtain ⟨Ao54, co54, eo54⟩ := Kd.R_slice HO221.out; subst eo54) | ((with_reducible refine gate_callee (f := 78) rfl ?_); refine goesL_ (some 43) rfl rfl Try.func78 (by kernel_rfl) rfl #[.slice Ao54 t219.length co54, .func (.func 79) #[] #[.pointer (some ⟨gb218, 0, none⟩), .pointer (some ⟨gb206, 0, none⟩), .pointer (some ⟨gb208, 0, none⟩), .pointer (some ⟨gb207, 0, none⟩), .pointer (some ⟨gb215, 0, none⟩)]] rfl ms ?_; (with_reducible refine (slices_IndexFunc_int_int_impl_DownToId_1.calls _ _ t219 gb218 ((rd l1_1 (rd x7_2 (ji36))) == t214) gb206 A0 c0 l0 gb208 a2 gb207 A1_0 c1_0 l1_0 (some ad217) c1_1 l1_1 A1_2 c1_2 l1_2 gb215 t214 t222 _ ?side1 ?side2 ?side3 ?side4 ?side5 ?side6 ?side7 ?side8 ?side9 ?side10 ?side11 ?side12 ?side13 ?side14 ?side15 ?side16 ?side17 ?side18 ?side19 ?side20 ?side21 ?side22 ?side23 ?side24 ?side25 A42.out).mono ?_); (case side1 => repeat (first | exact (Kd.R_reads' HO221.out).2.2 | (with_reducible refine Kd.C_alloc ?_ _) | (with_reducible refine Kd.C_drewN ?_ _) | (with_reducible refine Kd.C_drew ?_))); (case side2 => exact (Kd.R_reads' HO221.out).2.1); (case side3 => exact kc); (case side4 => exact HC0.out); (case side5 => exact kc); (case side6 => exact HC1_0.out); (case side7 => exact kc); (case side8 => exact HC1_1.out); (case side9 => exact kc); (case side10 => exact HC1_2.out); (case side11 => exact bk); (case side12 => exact bk); (case side13 => exact bk); (case side14 => exact bk); (case side15 => exact bk); (case side16 => exact NB218_206.out); (case side17 => exact NB218_208.out); (case side18 => exact NB218_207.out); (case side19 => exact NB218_215.out); (case side20 => exact NB206_208.out); (case side21 => exact NB206_207.out); (case side22 => exact NB206_215.out); (case side23 => exact NB208_207.out); (case side24 => exact NB208_215.out); (case side25 => exact NB207_215.out); rintro e w55 ⟨rfl, hb⟩; refine ⟨_, rfl, ?_⟩; have t_ := fc8 (Kd.R_below (ra HO_7.out) hb) (Kd.R_below (ra HO221.out) hb) (bw BK206 hb) (bw BK207 hb) (bw BK208 hb) (bw BK215 hb) (bw BK218 hb) (below_step bb hb); clear HO_7 HO221 BK206 BK207 BK208 BK215 BK218 HB; obtain ⟨HO_7, HO221, BK206, BK207, BK208, BK215, BK218, HB⟩ := t_; (try clear hb); (try clear hk)))
           go_ret
           exact ⟨_, by first | rfl | (simp [errW_none, errW_some] <;> rfl) | (simp only [← hji36]; first | rfl | (simp [errW_none, errW_some] <;> rfl)) | (simp [*, errW_none, errW_some] <;> rfl), by first | exact Kd.R_nil _ _ _ _ _ | exact Kd.N_nil _ _ _ _ _ | exact Kd.V_nil _ _ _ _ _ | exact Kd.Q_nil _ _ _ _ _ | exact Kd.S_nil _ _ _ _ _, bb⟩
          ·rw [if_neg c43] at H
           have c43b0 : decide (t222 < 0) = false := decide_eq_false c43
           clear c43
           by_cases c56 : 0 ≤ t222
           ·rw [if_pos c56] at H
            have c56b0 : decide (0 ≤ t222) = true := decide_eq_true c56
            clear c56
            by_cases c57 : t222 < (t219.length : Int)
            ·rw [if_pos c57] at H
             have c57b0 : decide (t222 < (t219.length : Int)) = true := decide_eq_true c57
             clear c57
             by_cases c58 : x7_2.length < 17592186044416
             ·rw [if_pos c58] at H
              have LMc58 := Aside0.mk c58
              clear c58
              obtain ⟨y224, hy224⟩ : ∃ y_ : List Int, y_ = (x7_2 ++ [rd t219 t222]) := ⟨_, rfl⟩
              replace H : (if (rd l1_1 (rd x7_2 (ji36))) = t214 then (if 0 ≤ (rd t219 t222) then (if (rd t219 t222) < (l0.length : Int) then ((impl_FunctionOf.f a2).bind fun t229 => ((impl_hasFunction.f ((rd_T50 l0 (rd t219 t222)).f0) ((rd_T50 l0 (rd t219 t222)).f1) ((rd_T50 l0 (rd t219 t222)).f2) t229).bind fun t230 => (if t230 = true then (some y224) else (some ([] : List Int))))) else (none)) else (none)) else (impl_DownToId.l0 k2 y224 l0 l1_0 l1_1 l1_2 a2 t214)) = some r := by first | (rw [hy224]; with_reducible exact H) | (have H2_ := (Option.bind_some _ _).symm.trans H; rw [hy224]; with_reducible exact H2_) | (have H2_ := (Option.bind_some _ _).symm.trans H; with_reducible exact H2_) | with_reducible exact H | (rw [hy224]; exact H) | exact H
              have Ny224 := Aside0.mk hy224
              clear hy224
              by_cases c59 : (rd l1_1 (rd x7_2 (ji36))) = t214
              ·rw [if_pos c59] at H
               have c59b0 : ((rd l1_1 (rd x7_2 (ji36))) == t214) = true := beq_iff_eq.mpr c59
               have A42 := Aside0.mk (by have h_ := A42.out; rw [c59b0] at h_; exact h_)
               have c59b1 : ((rd l1_1 (rd x7_2 (ji36))) != t214) = false := bne_eq_false_iff_eq.mpr c59
               clear c59
               by_cases c60 : 0 ≤ (rd t219 t222)
               ·rw [if_pos c60] at H
                have c60b0 : decide (0 ≤ (rd t219 t222)) = true := decide_eq_true c60
                clear c60
                by_cases c61 : (rd t219 t222) < (l0.length : Int)
                ·rw [if_pos c61] at H
                 have c61b0 : decide ((rd t219 t222) < (l0.length : Int)) = true := decide_eq_true c61
                 clear c61
                 replace H := Option.bind_eq_some_iff.mp H
                 obtain ⟨t229, A620, H⟩ := H
                 replace H : ((impl_hasFunction.f ((rd_T50 l0 (rd t219 t222)).f0) ((rd_T50 l0 (rd t219 t222)).f1) ((rd_T50 l0 (rd t219 t222)).f2) t229).bind fun t230 => (if t230 = true then (some y224) else (some ([] : List Int)))) = some r := H
                 have A62 := Aside0.mk A620
                 clear A620
                 replace H := Option.bind_eq_some_iff.mp H
                 obtain ⟨t230, A630, H⟩ := H
                 replace H : (if t230 = true then (some y224) else (some ([] : List Int))) = some r := H
                 have A63 := Aside0.mk A630
                 clear A630
                 by_cases c64 : t230 = true
                 ·subst c64
                  have H1 : (some y224) = some r := by rw [if_pos rfl] at H; exact H
                  clear H
                  have H := H1
                  clear H1
                  obtain rfl := Option.some.inj H
                  obtain ⟨Ao65, co65, eo65⟩ := Kd.R_slice HO_7.out
                  subst eo65
                  have p216 : 0 ≤ ((ji36) : Int) := of_decide_eq_true as_
                  have q216 : (ji36) < (x7_2.length : Int) := of_decide_eq_true as_
                  obtain ⟨ad216, e216, hx216_0⟩ := Kd.at_int (Kd.R_reads' HO_7.out).2.2 (ji36) p216 q216
                  cases e216
                  replace p216 := eq_true p216
                  replace q216 := eq_true q216
                  try go_wp2
                  have t_ := fc6 (Kd.R_drew HO_7.out) (blk_drew BK206.out) (blk_drew BK207.out) (blk_drew BK208.out) (blk_drew BK215.out) (below_drew1 HB.out)
                  clear HO_7 BK206 BK207 BK208 BK215 HB
                  obtain ⟨HO_7, BK206, BK207, BK208, BK215, HB⟩ := t_
                  have p217 : 0 ≤ ((rd x7_2 (ji36)) : Int) := of_decide_eq_true as_
                  have q217 : (rd x7_2 (ji36)) < (l1_1.length : Int) := of_decide_eq_true as_
                  obtain ⟨ad217, e217, hx217_0⟩ := Kd.at_int HR1_1.out (rd x7_2 (ji36)) p217 q217
                  have hw217_0 := hx217_0
                  cases e217
                  replace hx217_0 := pw_cell_below HB.out hx217_0
                  replace p217 := eq_true p217
                  replace q217 := eq_true q217
                  refine start_ (n := 9) (S := fun w' => w'.cell? ⟨gb207, 0, none⟩ = some (.slice A1_0 l1_0.length c1_0) ∧ w'.cell? ⟨gb207, 1, none⟩ = some (.slice (some ad217) l1_1.length c1_1) ∧ w'.cell? ⟨gb207, 2, none⟩ = some (.slice A1_2 l1_2.length c1_2) ∧ w'.cell? ⟨gb215, 0, none⟩ = some (.int .i64 t214) ∧ w'.cell? (ad217.add ((rd x7_2 (ji36))).toNat) = some (.int .i64 (rd l1_1 (rd x7_2 (ji36))))) (ds := []) (bz 9 0) (by kernel_rfl) rfl (by kernel_rfl) ⟨(blk_cell BK207.out 0).trans rfl, (blk_cell BK207.out 1).trans rfl, (blk_cell BK207.out 2).trans rfl, (blk_cell BK215.out 0).trans rfl, ((HB.out.cell (World.block_lt_of_cell? w _ hw217_0)).trans hw217_0)⟩ (fun hHeld => ?_); refine with_tabW impl_DownToId.tab5 impl_DownToId.bits5 (fun HT_ HW_ => ?_)
                  generalize wr.drew = w66 at HO_7 BK206 BK207 BK208 BK215 HB hx217_0 hHeld ⊢
                  refine pv 0 31 (bz 9 1) HT_ (h := ?_)
                  refine pv 2 33 (bz 9 5) HT_ (h := ?_)
                  refine tv5 1 32 (bz 9 7) HT_ HW_ hHeld (h := ?_)
                  refine pv 3 34 (bz 9 15) HT_ (h := ?_)
                  refine tv5 4 35 (bz 9 31) HT_ HW_ hHeld (h := ?_)
                  refine tv5 5 36 (bz 9 63) HT_ HW_ hHeld (h := ?_)
                  refine pv 6 37 (bz 9 127) HT_ (h := ?_)
                  refine one_ (i := 7) (N := some 10) (bz 9 255) rfl rfl (one_of HT_.out (by kernel_rfl)) (by decide) (fun K hK => ?_)
                  refine box_step ?hg (N := 10) ?hd (cs := #[.bool false]) (t := 4) ?hr ?_; (case hd => rfl); (case hg => rfl); (case hr => first | (go_simp; done) | (go_simp; rfl))
                  intro gb218 hg w67 hbox hb
                  have t_ := fc17 (Kd.R_below (ra HO_7.out) hb) (bw BK206 hb) (bw BK207 hb) (bw BK208 hb) (bw BK215 hb) (below_step bb hb) (hbox) (bg hg : w.heap.size ≤ gb218) (bg hg : w.heap.size ≤ gb218) ((nl BK206 hg : gb206 ≠ gb218)) ((ng BK206 hg : gb218 ≠ gb206)) ((nl BK207 hg : gb207 ≠ gb218)) ((ng BK207 hg : gb218 ≠ gb207)) ((nl BK208 hg : gb208 ≠ gb218)) ((ng BK208 hg : gb218 ≠ gb208)) ((nl BK215 hg : gb215 ≠ gb218)) ((ng BK215 hg : gb218 ≠ gb215))
                  clear HO_7 BK206 BK207 BK208 BK215 HB
                  obtain ⟨HO_7, BK206, BK207, BK208, BK215, HB, BK218, GW218, GE218, NB206_218, NB218_206, NB207_218, NB218_207, NB208_218, NB218_208, NB215_218, NB218_215⟩ := t_
                  clear hb hbox hg
                  refine hK.out _ _ ⟨(blk_cell BK207.out 0).trans rfl, (blk_cell BK207.out 1).trans rfl, (blk_cell BK207.out 2).trans rfl, (blk_cell BK215.out 0).trans rfl, ((HB.out.cell (World.block_lt_of_cell? w _ hw217_0)).trans hw217_0)⟩ (fun hHeld => ?_)
                  clear hK K
                  refine norm_ (a' := ?_) ?_ ?_
                  rotate_left
                  ·show Act.put _ (some 10) _ = _
                   simp only [Act.put, List.setIfInBounds_toArray, List.set_cons_zero, List.set_cons_succ, i64_w, i32_w]
                   rfl
                  refine one_ (i := 8) (N := none) (bz 9 511) rfl rfl (one_of HT_.out (by kernel_rfl)) (by decide) (fun K hK => ?_)
                  have hs68 : w67.cell? ⟨gb218, 0, none⟩ = some (.bool false) := (blk_cell BK218.out 0).trans rfl
                  have hfs68 := blk_frozen BK218.out 0
                  have hns68_0 := NB206_218.out
                  have hns68_1 := NB207_218.out
                  have hns68_2 := NB208_218.out
                  have hns68_3 := NB215_218.out
                  have hms68_0 := NB218_206.out
                  have hms68_1 := NB218_207.out
                  have hms68_2 := NB218_208.out
                  have hms68_3 := NB218_215.out
                  refine skip_ (w1 := ?_) (by rfl) rfl ?_ ?_
                  rotate_left
                  ·go_simp
                   rfl
                  refine hK.out _ _ ⟨((cell_far (p := ⟨gb218, _, none⟩) NB207_218.out _).trans (hHeld.1)), ((cell_far (p := ⟨gb218, _, none⟩) NB207_218.out _).trans (hHeld.2.1)), ((cell_far (p := ⟨gb218, _, none⟩) NB207_218.out _).trans (hHeld.2.2.1)), ((cell_far (p := ⟨gb218, _, none⟩) NB215_218.out _).trans (hHeld.2.2.2.1)), ((cell_far (p := ⟨gb218, _, none⟩) (by first | exact Nat.ne_of_lt (Nat.lt_of_lt_of_le (by have := World.block_lt_of_cell? _ _ hw217_0; first | rwa [add_block] at this | exact this) GW218.out) | (rw [add_block]; exact Nat.ne_of_lt (Nat.lt_of_lt_of_le (by have := World.block_lt_of_cell? _ _ hw217_0; first | rwa [add_block] at this | exact this) GW218.out)) | (show (Addr.add _ _).block ≠ _; rw [add_block]; exact Nat.ne_of_lt (Nat.lt_of_lt_of_le (by have := World.block_lt_of_cell? _ _ hw217_0; first | rwa [add_block] at this | exact this) GW218.out)) | (dsimp only; exact Nat.ne_of_lt (Nat.lt_of_lt_of_le (by have := World.block_lt_of_cell? _ _ hw217_0; first | rwa [add_block] at this | exact this) GW218.out))) _).trans (hHeld.2.2.2.2))⟩ (fun hHeld => ?_)
                  clear hK K
                  refine done_ (done_of HT_.out (by kernel_rfl)) ?_
                  have hnb69 := NB206_207.out
                  have hnc69 := NB207_206.out
                  have hnb70 := NB206_208.out
                  have hnc70 := NB208_206.out
                  have hnb71 := NB206_215.out
                  have hnc71 := NB215_206.out
                  have hnb72 := NB206_218.out
                  have hnc72 := NB218_206.out
                  obtain ⟨hcz73_0, hfz73_0⟩ := bx1 BK206.out
                  try go_wp2_with (first | ((with_reducible refine gate_callee (f := 39) rfl ?_); refine goesL_ (some 40) rfl rfl Try.func39 (by kernel_rfl) rfl #[.slice A0 l0.length c0, .int .i64 (rd x7_2 (ji36))] rfl (by (try simp only [List.map_toArray, List.map_cons, List.map_nil]); first | done | (simp only [hji36]; rfl) | rfl | (simp only [List.length_drop, List.length_take]; rfl)) ?_; (with_reducible refine (impl_ChildrenOf.calls k2 _ _ l0 (rd x7_2 (ji36)) t219 _ ?side1 ?side2 A41.out).mono ?_); (case side1 => exact Kd.C_below HR0.out bb); (case side2 => exact HC0.out); rintro e w74 ⟨v220, rfl, ho0, hb⟩; refine ⟨_, rfl, ?_⟩; have t_ := fc8 (Kd.R_elder' (ra (Kd.R_mono (Kd.R_far (p := ⟨gb218, 0, none⟩) (Kd.R_types HO_7.out BK218.out (by decide)) fk (.bool true)) (fun _ h_ => h_.1))) (Kd.R_base ho0) hb) (Kd.R_lower (Kd.R_newB (Kd.R_newB (Kd.R_new' ho0 (Kd.R_lt (ra (Kd.R_mono (Kd.R_far (p := ⟨gb218, 0, none⟩) (Kd.R_types HO_7.out BK218.out (by decide)) fk (.bool true)) (fun _ h_ => h_.1))))) (g := gb208) (o := .cells #[.int .i64 a2] 3 (0, 0)) (by (with_reducible repeat (first | refine blk_drewN ?_ _ | refine blk_drew ?_ | refine blk_alloc ?_ _)); refine blk_far ?_ NB208_218.out _; exact bk)) (g := gb215) (o := .cells #[.int .i64 t214] 3 (0, 0)) (by (with_reducible repeat (first | refine blk_drewN ?_ _ | refine blk_drew ?_ | refine blk_alloc ?_ _)); refine blk_far ?_ NB215_218.out _; exact bk)) (below_size bb)) (blk_below (g := gb206) (o := .cells #[.slice A0 l0.length c0] 29 (0, 0)) (by (with_reducible repeat (first | refine blk_drewN ?_ _ | refine blk_drew ?_ | refine blk_alloc ?_ _)); refine blk_far ?_ NB206_218.out _; exact bk) hb) (blk_below (g := gb207) (o := .cells #[.slice A1_0 l1_0.length c1_0, .slice (some ad217) l1_1.length c1_1, .slice A1_2 l1_2.length c1_2] 31 (0, 0)) (by (with_reducible repeat (first | refine blk_drewN ?_ _ | refine blk_drew ?_ | refine blk_alloc ?_ _)); refine blk_far ?_ NB207_218.out _; exact bk) hb) (blk_below (g := gb208) (o := .cells #[.int .i64 a2] 3 (0, 0)) (by (with_reducible repeat (first | refine blk_drewN ?_ _ | refine blk_drew ?_ | refine blk_alloc ?_ _)); refine blk_far ?_ NB208_218.out _; exact bk) hb) (blk_below (g := gb215) (o := .cells #[.int .i64 t214] 3 (0, 0)) (by (with_reducible repeat (first | refine blk_drewN ?_ _ | refine blk_drew ?_ | refine blk_alloc ?_ _)); refine blk_far ?_ NB215_218.out _; exact bk) hb) (blk_below (g := gb218) (o := .cells #[.bool true] 4 (0, 0)) (by (with_reducible repeat (first | refine blk_drewN ?_ _ | refine blk_drew ?_ | refine blk_alloc ?_ _)); refine blk_put (cs := #[.bool false]) ?_ 0 _ rfl; exact bk) hb) (below_step bb hb); clear HO_7 BK206 BK207 BK208 BK215 BK218 HB; obtain ⟨HO_7, HO221, BK206, BK207, BK208, BK215, BK218, HB⟩ := t_; (try clear hb); (try clear hk); (try clear ho0); obtain ⟨Ao75, co75, eo75⟩ := Kd.R_slice HO221.out; subst eo75) | ((with_reducible refine gate_callee (f := 78) rfl ?_); refine goesL_ (some 43) rfl rfl Try.func78 (by kernel_rfl) rfl #[.slice Ao75 t219.length co75, .func (.func 79) #[] #[.pointer (some ⟨gb218, 0, none⟩), .pointer (some ⟨gb206, 0, none⟩), .pointer (some ⟨gb208, 0, none⟩), .pointer (some ⟨gb207, 0, none⟩), .pointer (some ⟨gb215, 0, none⟩)]] rfl ms ?_; (with_reducible refine (slices_IndexFunc_int_int_impl_DownToId_1.calls _ _ t219 gb218 true gb206 A0 c0 l0 gb208 a2 gb207 A1_0 c1_0 l1_0 (some ad217) c1_1 l1_1 A1_2 c1_2 l1_2 gb215 t214 t222 _ ?side1 ?side2 ?side3 ?side4 ?side5 ?side6 ?side7 ?side8 ?side9 ?side10 ?side11 ?side12 ?side13 ?side14 ?side15 ?side16 ?side17 ?side18 ?side19 ?side20 ?side21 ?side22 ?side23 ?side24 ?side25 A42.out).mono ?_); (case side1 => repeat (first | exact (Kd.R_reads' HO221.out).2.2 | (with_reducible refine Kd.C_alloc ?_ _) | (with_reducible refine Kd.C_drewN ?_ _) | (with_reducible refine Kd.C_drew ?_))); (case side2 => exact (Kd.R_reads' HO221.out).2.1); (case side3 => exact kc); (case side4 => exact HC0.out); (case side5 => exact kc); (case side6 => exact HC1_0.out); (case side7 => exact kc); (case side8 => exact HC1_1.out); (case side9 => exact kc); (case side10 => exact HC1_2.out); (case side11 => exact bk); (case side12 => exact bk); (case side13 => exact bk); (case side14 => exact bk); (case side15 => exact bk); (case side16 => exact NB218_206.out); (case side17 => exact NB218_208.out); (case side18 => exact NB218_207.out); (case side19 => exact NB218_215.out); (case side20 => exact NB206_208.out); (case side21 => exact NB206_207.out); (case side22 => exact NB206_215.out); (case side23 => exact NB208_207.out); (case side24 => exact NB208_215.out); (case side25 => exact NB207_215.out); rintro e w76 ⟨rfl, hb⟩; refine ⟨_, rfl, ?_⟩; have t_ := fc8 (Kd.R_below (ra HO_7.out) hb) (Kd.R_below (ra HO221.out) hb) (bw BK206 hb) (bw BK207 hb) (bw BK208 hb) (bw BK215 hb) (bw BK218 hb) (below_step bb hb); clear HO_7 HO221 BK206 BK207 BK208 BK215 BK218 HB; obtain ⟨HO_7, HO221, BK206, BK207, BK208, BK215, BK218, HB⟩ := t_; (try clear hb); (try clear hk); have p223 : 0 ≤ (t222 : Int) := of_decide_eq_true as_; have q223 : t222 < (t219.length : Int) := of_decide_eq_true as_; obtain ⟨ad223, e223, hx223_0⟩ := Kd.at_int (Kd.R_reads' HO221.out).2.2 t222 p223 q223; cases e223; replace p223 := eq_true p223; replace q223 := eq_true q223) | ((with_reducible refine gate_builtin (b := .append) (xs := #[.tmp 46, .tmp 51]) rfl ?_); at_builtin; refine Kd.R_append (Kd.int .i64) (w0 := w) w.heap.size rfl (.tmp 46) (.tmp 51) 23 3 (.int .i64 0) 8 rfl Try.underlying23 info3 rfl (by decide) (by omega) (.slice (some ad216) x7_2.length co65) x7_2 (rd t219 t222) [.int .i64 (rd t219 t222)] (fun k_ => some k_ ≠ (.slice (some ad223) t219.length co75 : Value).ownBlock ∧ k_ ≠ gb208 ∧ k_ ≠ gb215) (fun _ => False) rfl rfl ?aP (fun _ hk => hk.elim) ?aF ?aO ?aB ?aS ?aL ?_; (case aP => exact rfl); (case aB => exact bb); (case aF => exact (fun k_ hk => ⟨Kd.fresh' (Kd.R_lt (ra HO221.out)) k_ hk, Kd.freshB (g := gb208) (o := .cells #[.int .i64 a2] 3 (0, 0)) bk k_ hk, Kd.freshB (g := gb215) (o := .cells #[.int .i64 t214] 3 (0, 0)) bk k_ hk⟩)); (case aO => exact (ra (Kd.R_mono HO_7.out (fun _ hk => (And.intro (hk.2) ((And.intro (hk.1.1) (hk.1.2)))))))); (case aS => exact (below_size bb)); (case aL => have := LMc58.out; omega); intro v225 w77 ho hb hg hat; rw [← Ny224.out] at ho; have t_ := fc8 (blk_grown (g := gb206) (o := .cells #[.slice A0 l0.length c0] 29 (0, 0)) bk hg (Kd.R_ne HO_7.out BK206.out (by decide))) (blk_grown (g := gb207) (o := .cells #[.slice A1_0 l1_0.length c1_0, .slice (some ad217) l1_1.length c1_1, .slice A1_2 l1_2.length c1_2] 31 (0, 0)) bk hg (Kd.R_ne HO_7.out BK207.out (by decide))) (blk_grown (g := gb208) (o := .cells #[.int .i64 a2] 3 (0, 0)) bk hg (Kd.R_away HO_7.out (fun _ hk => by first | exact hk.1.1 | exact hk))) (blk_grown (g := gb215) (o := .cells #[.int .i64 t214] 3 (0, 0)) bk hg (Kd.R_away HO_7.out (fun _ hk => by first | exact hk.1.2 | exact hk))) (blk_grown (g := gb218) (o := .cells #[.bool true] 4 (0, 0)) bk hg (Kd.R_ne HO_7.out BK218.out (by decide))) (Kd.R_after (ok := (fun k_ => k_ ≠ gb208 ∧ k_ ≠ gb215)) (ra (Kd.R_mono HO221.out (fun _ hk => (And.intro ((And.intro (hk.1.2) (hk.2))) (hk.1.1.2))))) hg hat) (hb) (ho); clear BK206 BK207 BK208 BK215 BK218 HO221 HB HO_7; obtain ⟨BK206, BK207, BK208, BK215, BK218, HO221, HB, HO226⟩ := t_; clear ho hb hg hat; have hnb78 := NB218_207.out; have hnc78 := NB207_218.out; have hnb79 := NB218_208.out; have hnc79 := NB208_218.out; have hnb80 := NB218_215.out; have hnc80 := NB215_218.out; have hcz81_0 : w77.cell? ⟨gb218, 0, none⟩ = some (.bool true) := (blk_cell BK218.out 0).trans rfl; have hfz81_0 := blk_frozen BK218.out 0))
                  have t_ := fc8 (Kd.R_drew HO221.out) (Kd.R_drew HO226.out) (blk_drew BK206.out) (blk_drew BK207.out) (blk_drew BK208.out) (blk_drew BK215.out) (blk_drew BK218.out) (below_drew1 HB.out)
                  clear HO221 HO226 BK206 BK207 BK208 BK215 BK218 HB
                  obtain ⟨HO221, HO226, BK206, BK207, BK208, BK215, BK218, HB⟩ := t_
                  have p227 : 0 ≤ (t222 : Int) := of_decide_eq_true as_
                  have q227 : t222 < (t219.length : Int) := of_decide_eq_true as_
                  obtain ⟨ad227, e227, hx227_0⟩ := Kd.at_int (Kd.R_reads' HO221.out).2.2 t222 p227 q227
                  obtain rfl : ad223 = ad227 := (by injection e227)
                  replace p227 := eq_true p227
                  replace q227 := eq_true q227
                  have p228 : 0 ≤ ((rd t219 t222) : Int) := of_decide_eq_true as_
                  have q228 : (rd t219 t222) < (l0.length : Int) := of_decide_eq_true as_
                  obtain ⟨ad228, e228, hx228_0, hx228_1, hx228_2⟩ := at_T50 HR0.out (rd t219 t222) p228 q228
                  have hw228_2 := hx228_2
                  have hw228_1 := hx228_1
                  have hw228_0 := hx228_0
                  cases e228
                  replace hx228_0 := pw_cell_below HB.out hx228_0
                  replace hx228_1 := pw_cell_below HB.out hx228_1
                  replace hx228_2 := pw_cell_below HB.out hx228_2
                  replace p228 := eq_true p228
                  replace q228 := eq_true q228
                  refine start_ (n := 11) (S := fun w' => w'.cell? ⟨gb206, 0, none⟩ = some (.slice (some ad228) l0.length c0) ∧ w'.cell? ⟨gb208, 0, none⟩ = some (.int .i64 a2) ∧ w'.cell? (ad223.add (t222).toNat) = some (.int .i64 (rd t219 t222)) ∧ w'.cell? (ad228.add (((rd t219 t222)).toNat * 3)) = some (.int .i64 ((rd_T50 l0 (rd t219 t222)).f0)) ∧ w'.cell? ⟨(ad228.add (((rd t219 t222)).toNat * 3)).block, (ad228.add (((rd t219 t222)).toNat * 3)).off + 1, none⟩ = some (.int .i64 ((rd_T50 l0 (rd t219 t222)).f1)) ∧ w'.cell? ⟨(ad228.add (((rd t219 t222)).toNat * 3)).block, (ad228.add (((rd t219 t222)).toNat * 3)).off + 2, none⟩ = some (.int .i64 ((rd_T50 l0 (rd t219 t222)).f2))) (ds := []) (bz 11 0) (by kernel_rfl) rfl (by kernel_rfl) ⟨(blk_cell BK206.out 0).trans rfl, (blk_cell BK208.out 0).trans rfl, hx227_0, ((HB.out.cell (World.block_lt_of_cell? w _ hw228_0)).trans hw228_0), ((HB.out.cell (World.block_lt_of_cell? w _ hw228_1)).trans hw228_1), ((HB.out.cell (World.block_lt_of_cell? w _ hw228_2)).trans hw228_2)⟩ (fun hHeld => ?_); refine with_tabW impl_DownToId.tab12 impl_DownToId.bits12 (fun HT_ HW_ => ?_)
                  generalize w77.drew = w82 at HO221 HO226 BK206 BK207 BK208 BK215 BK218 HB hx227_0 hx228_0 hx228_1 hx228_2 hHeld ⊢
                  refine pv 1 55 (bz 11 2) HT_ (h := ?_)
                  refine pv 2 56 (bz 11 6) HT_ (h := ?_)
                  refine pv 3 57 (bz 11 14) HT_ (h := ?_)
                  refine tv6 0 54 (bz 11 15) HT_ HW_ hHeld (h := ?_)
                  refine tv6 4 58 (bz 11 31) HT_ HW_ hHeld (h := ?_)
                  refine pv 5 59 (bz 11 63) HT_ (h := ?_)
                  refine tv6 6 60 (bz 11 127) HT_ HW_ hHeld (h := ?_)
                  refine tv6 7 61 (bz 11 255) HT_ HW_ hHeld (h := ?_)
                  refine one_ (i := 8) (N := some 62) (bz 11 511) rfl rfl (one_of HT_.out (by kernel_rfl)) (by decide) (fun K hK => ?_)
                  refine goes_ Try.func83 (by kernel_rfl) rfl #[.int .i64 a2] (by rfl) rfl rfl ms ?_
                  with_reducible refine (impl_FunctionOf.calls a2 t229 _ A62.out).mono ?_
                  rintro e w' ⟨rfl, ⟨nd, rfl⟩⟩
                  refine ⟨_, rfl, ?_⟩
                  refine hK.out _ _ ⟨(blk_cell BK206.out 0).trans rfl, (blk_cell BK208.out 0).trans rfl, hHeld.2.2.1, ((HB.out.cell (World.block_lt_of_cell? w _ hw228_0)).trans hw228_0), ((HB.out.cell (World.block_lt_of_cell? w _ hw228_1)).trans hw228_1), ((HB.out.cell (World.block_lt_of_cell? w _ hw228_2)).trans hw228_2)⟩ (fun hHeld => ?_)
                  clear hK K
                  refine norm_ (a' := ?_) ?_ ?_
                  rotate_left
                  ·show Act.put _ (some 62) _ = _
                   simp only [Act.put, List.setIfInBounds_toArray, List.set_cons_zero, List.set_cons_succ, i64_w, i32_w]
                   rfl
                  refine one_ (i := 9) (N := some 63) (bz 11 1023) rfl rfl (one_of HT_.out (by kernel_rfl)) (by decide) (fun K hK => ?_)
                  refine goes_ Try.func82 (by kernel_rfl) rfl #[.agg #[.int .i64 ((rd_T50 l0 (rd t219 t222)).f0), .int .i64 ((rd_T50 l0 (rd t219 t222)).f1), .int .i64 ((rd_T50 l0 (rd t219 t222)).f2)], .int .i64 t229] (by rfl) rfl rfl ms ?_
                  with_reducible refine (impl_hasFunction.calls ((rd_T50 l0 (rd t219 t222)).f0) ((rd_T50 l0 (rd t219 t222)).f1) ((rd_T50 l0 (rd t219 t222)).f2) t229 true _ A63.out).mono ?_
                  rintro e w83 ⟨rfl, hb⟩
                  have HS2_ := (hb.cell (World.block_lt_of_cell? _ _ (hHeld.2.2.1))).trans (hHeld.2.2.1)
                  refine ⟨_, rfl, ?_⟩
                  have t_ := fc8 (Kd.R_below (ra HO221.out) hb) (Kd.R_below (ra HO226.out) hb) (bw BK206 hb) (bw BK207 hb) (bw BK208 hb) (bw BK215 hb) (bw BK218 hb) (below_step bb hb)
                  clear HO221 HO226 BK206 BK207 BK208 BK215 BK218 HB
                  obtain ⟨HO221, HO226, BK206, BK207, BK208, BK215, BK218, HB⟩ := t_
                  (try clear hb)
                  (try clear hb2)
                  (try clear hk)
                  (try clear hi)
                  refine hK.out _ _ ⟨(blk_cell BK206.out 0).trans rfl, (blk_cell BK208.out 0).trans rfl, HS2_, ((HB.out.cell (World.block_lt_of_cell? w _ hw228_0)).trans hw228_0), ((HB.out.cell (World.block_lt_of_cell? w _ hw228_1)).trans hw228_1), ((HB.out.cell (World.block_lt_of_cell? w _ hw228_2)).trans hw228_2)⟩ (fun hHeld => ?_)
                  clear hK K
                  refine norm_ (a' := ?_) ?_ ?_
                  rotate_left
                  ·show Act.put _ (some 63) _ = _
                   simp only [Act.put, List.setIfInBounds_toArray, List.set_cons_zero, List.set_cons_succ, i64_w, i32_w]
                   rfl
                  refine pv 10 64 (bz 11 2047) HT_ (h := ?_)
                  refine done_ (done_of HT_.out (by kernel_rfl)) ?_
                  try go_wp2
                  go_ret
                  exact ⟨_, by first | rfl | (simp [errW_none, errW_some] <;> rfl) | (simp only [← hji36]; first | rfl | (simp [errW_none, errW_some] <;> rfl)) | (simp [*, errW_none, errW_some] <;> rfl), by (with_reducible repeat (first | apply Kd.R_alloc | apply Kd.R_drewN | apply Kd.R_drew)); exact Kd.R_mono HO226.out (fun _ hk => trivial), bb⟩
                 ·replace c64 := Bool.eq_false_iff.mpr c64
                  subst c64
                  have H1 : (some ([] : List Int)) = some r := by rw [if_neg (show ¬ (false = true) by decide)] at H; exact H
                  clear H
                  have H := H1
                  clear H1
                  obtain rfl := Option.some.inj H
                  obtain ⟨Ao84, co84, eo84⟩ := Kd.R_slice HO_7.out
                  subst eo84
                  have p216 : 0 ≤ ((ji36) : Int) := of_decide_eq_true as_
                  have q216 : (ji36) < (x7_2.length : Int) := of_decide_eq_true as_
                  obtain ⟨ad216, e216, hx216_0⟩ := Kd.at_int (Kd.R_reads' HO_7.out).2.2 (ji36) p216 q216
                  cases e216
                  replace p216 := eq_true p216
                  replace q216 := eq_true q216
                  try go_wp2
                  have t_ := fc6 (Kd.R_drew HO_7.out) (blk_drew BK206.out) (blk_drew BK207.out) (blk_drew BK208.out) (blk_drew BK215.out) (below_drew1 HB.out)
                  clear HO_7 BK206 BK207 BK208 BK215 HB
                  obtain ⟨HO_7, BK206, BK207, BK208, BK215, HB⟩ := t_
                  have p217 : 0 ≤ ((rd x7_2 (ji36)) : Int) := of_decide_eq_true as_
                  have q217 : (rd x7_2 (ji36)) < (l1_1.length : Int) := of_decide_eq_true as_
                  obtain ⟨ad217, e217, hx217_0⟩ := Kd.at_int HR1_1.out (rd x7_2 (ji36)) p217 q217
                  have hw217_0 := hx217_0
                  cases e217
                  replace hx217_0 := pw_cell_below HB.out hx217_0
                  replace p217 := eq_true p217
                  replace q217 := eq_true q217
                  refine start_ (n := 9) (S := fun w' => w'.cell? ⟨gb207, 0, none⟩ = some (.slice A1_0 l1_0.length c1_0) ∧ w'.cell? ⟨gb207, 1, none⟩ = some (.slice (some ad217) l1_1.length c1_1) ∧ w'.cell? ⟨gb207, 2, none⟩ = some (.slice A1_2 l1_2.length c1_2) ∧ w'.cell? ⟨gb215, 0, none⟩ = some (.int .i64 t214) ∧ w'.cell? (ad217.add ((rd x7_2 (ji36))).toNat) = some (.int .i64 (rd l1_1 (rd x7_2 (ji36))))) (ds := []) (bz 9 0) (by kernel_rfl) rfl (by kernel_rfl) ⟨(blk_cell BK207.out 0).trans rfl, (blk_cell BK207.out 1).trans rfl, (blk_cell BK207.out 2).trans rfl, (blk_cell BK215.out 0).trans rfl, ((HB.out.cell (World.block_lt_of_cell? w _ hw217_0)).trans hw217_0)⟩ (fun hHeld => ?_); refine with_tabW impl_DownToId.tab5 impl_DownToId.bits5 (fun HT_ HW_ => ?_)
                  generalize wr.drew = w85 at HO_7 BK206 BK207 BK208 BK215 HB hx217_0 hHeld ⊢
                  refine pv 0 31 (bz 9 1) HT_ (h := ?_)
                  refine pv 2 33 (bz 9 5) HT_ (h := ?_)
                  refine tv5 1 32 (bz 9 7) HT_ HW_ hHeld (h := ?_)
                  refine pv 3 34 (bz 9 15) HT_ (h := ?_)
                  refine tv5 4 35 (bz 9 31) HT_ HW_ hHeld (h := ?_)
                  refine tv5 5 36 (bz 9 63) HT_ HW_ hHeld (h := ?_)
                  refine pv 6 37 (bz 9 127) HT_ (h := ?_)
                  refine one_ (i := 7) (N := some 10) (bz 9 255) rfl rfl (one_of HT_.out (by kernel_rfl)) (by decide) (fun K hK => ?_)
                  refine box_step ?hg (N := 10) ?hd (cs := #[.bool false]) (t := 4) ?hr ?_; (case hd => rfl); (case hg => rfl); (case hr => first | (go_simp; done) | (go_simp; rfl))
                  intro gb218 hg w86 hbox hb
                  have t_ := fc17 (Kd.R_below (ra HO_7.out) hb) (bw BK206 hb) (bw BK207 hb) (bw BK208 hb) (bw BK215 hb) (below_step bb hb) (hbox) (bg hg : w.heap.size ≤ gb218) (bg hg : w.heap.size ≤ gb218) ((nl BK206 hg : gb206 ≠ gb218)) ((ng BK206 hg : gb218 ≠ gb206)) ((nl BK207 hg : gb207 ≠ gb218)) ((ng BK207 hg : gb218 ≠ gb207)) ((nl BK208 hg : gb208 ≠ gb218)) ((ng BK208 hg : gb218 ≠ gb208)) ((nl BK215 hg : gb215 ≠ gb218)) ((ng BK215 hg : gb218 ≠ gb215))
                  clear HO_7 BK206 BK207 BK208 BK215 HB
                  obtain ⟨HO_7, BK206, BK207, BK208, BK215, HB, BK218, GW218, GE218, NB206_218, NB218_206, NB207_218, NB218_207, NB208_218, NB218_208, NB215_218, NB218_215⟩ := t_
                  clear hb hbox hg
                  refine hK.out _ _ ⟨(blk_cell BK207.out 0).trans rfl, (blk_cell BK207.out 1).trans rfl, (blk_cell BK207.out 2).trans rfl, (blk_cell BK215.out 0).trans rfl, ((HB.out.cell (World.block_lt_of_cell? w _ hw217_0)).trans hw217_0)⟩ (fun hHeld => ?_)
                  clear hK K
                  refine norm_ (a' := ?_) ?_ ?_
                  rotate_left
                  ·show Act.put _ (some 10) _ = _
                   simp only [Act.put, List.setIfInBounds_toArray, List.set_cons_zero, List.set_cons_succ, i64_w, i32_w]
                   rfl
                  refine one_ (i := 8) (N := none) (bz 9 511) rfl rfl (one_of HT_.out (by kernel_rfl)) (by decide) (fun K hK => ?_)
                  have hs87 : w86.cell? ⟨gb218, 0, none⟩ = some (.bool false) := (blk_cell BK218.out 0).trans rfl
                  have hfs87 := blk_frozen BK218.out 0
                  have hns87_0 := NB206_218.out
                  have hns87_1 := NB207_218.out
                  have hns87_2 := NB208_218.out
                  have hns87_3 := NB215_218.out
                  have hms87_0 := NB218_206.out
                  have hms87_1 := NB218_207.out
                  have hms87_2 := NB218_208.out
                  have hms87_3 := NB218_215.out
                  refine skip_ (w1 := ?_) (by rfl) rfl ?_ ?_
                  rotate_left
                  ·go_simp
                   rfl
                  refine hK.out _ _ ⟨((cell_far (p := ⟨gb218, _, none⟩) NB207_218.out _).trans (hHeld.1)), ((cell_far (p := ⟨gb218, _, none⟩) NB207_218.out _).trans (hHeld.2.1)), ((cell_far (p := ⟨gb218, _, none⟩) NB207_218.out _).trans (hHeld.2.2.1)), ((cell_far (p := ⟨gb218, _, none⟩) NB215_218.out _).trans (hHeld.2.2.2.1)), ((cell_far (p := ⟨gb218, _, none⟩) (by first | exact Nat.ne_of_lt (Nat.lt_of_lt_of_le (by have := World.block_lt_of_cell? _ _ hw217_0; first | rwa [add_block] at this | exact this) GW218.out) | (rw [add_block]; exact Nat.ne_of_lt (Nat.lt_of_lt_of_le (by have := World.block_lt_of_cell? _ _ hw217_0; first | rwa [add_block] at this | exact this) GW218.out)) | (show (Addr.add _ _).block ≠ _; rw [add_block]; exact Nat.ne_of_lt (Nat.lt_of_lt_of_le (by have := World.block_lt_of_cell? _ _ hw217_0; first | rwa [add_block] at this | exact this) GW218.out)) | (dsimp only; exact Nat.ne_of_lt (Nat.lt_of_lt_of_le (by have := World.block_lt_of_cell? _ _ hw217_0; first | rwa [add_block] at this | exact this) GW218.out))) _).trans (hHeld.2.2.2.2))⟩ (fun hHeld => ?_)
                  clear hK K
                  refine done_ (done_of HT_.out (by kernel_rfl)) ?_
                  have hnb88 := NB206_207.out
                  have hnc88 := NB207_206.out
                  have hnb89 := NB206_208.out
                  have hnc89 := NB208_206.out
                  have hnb90 := NB206_215.out
                  have hnc90 := NB215_206.out
                  have hnb91 := NB206_218.out
                  have hnc91 := NB218_206.out
                  obtain ⟨hcz92_0, hfz92_0⟩ := bx1 BK206.out
                  try go_wp2_with (first | ((with_reducible refine gate_callee (f := 39) rfl ?_); refine goesL_ (some 40) rfl rfl Try.func39 (by kernel_rfl) rfl #[.slice A0 l0.length c0, .int .i64 (rd x7_2 (ji36))] rfl (by (try simp only [List.map_toArray, List.map_cons, List.map_nil]); first | done | (simp only [hji36]; rfl) | rfl | (simp only [List.length_drop, List.length_take]; rfl)) ?_; (with_reducible refine (impl_ChildrenOf.calls k2 _ _ l0 (rd x7_2 (ji36)) t219 _ ?side1 ?side2 A41.out).mono ?_); (case side1 => exact Kd.C_below HR0.out bb); (case side2 => exact HC0.out); rintro e w93 ⟨v220, rfl, ho0, hb⟩; refine ⟨_, rfl, ?_⟩; have t_ := fc8 (Kd.R_elder' (ra (Kd.R_mono (Kd.R_far (p := ⟨gb218, 0, none⟩) (Kd.R_types HO_7.out BK218.out (by decide)) fk (.bool true)) (fun _ h_ => h_.1))) (Kd.R_base ho0) hb) (Kd.R_lower (Kd.R_newB (Kd.R_newB (Kd.R_new' ho0 (Kd.R_lt (ra (Kd.R_mono (Kd.R_far (p := ⟨gb218, 0, none⟩) (Kd.R_types HO_7.out BK218.out (by decide)) fk (.bool true)) (fun _ h_ => h_.1))))) (g := gb208) (o := .cells #[.int .i64 a2] 3 (0, 0)) (by (with_reducible repeat (first | refine blk_drewN ?_ _ | refine blk_drew ?_ | refine blk_alloc ?_ _)); refine blk_far ?_ NB208_218.out _; exact bk)) (g := gb215) (o := .cells #[.int .i64 t214] 3 (0, 0)) (by (with_reducible repeat (first | refine blk_drewN ?_ _ | refine blk_drew ?_ | refine blk_alloc ?_ _)); refine blk_far ?_ NB215_218.out _; exact bk)) (below_size bb)) (blk_below (g := gb206) (o := .cells #[.slice A0 l0.length c0] 29 (0, 0)) (by (with_reducible repeat (first | refine blk_drewN ?_ _ | refine blk_drew ?_ | refine blk_alloc ?_ _)); refine blk_far ?_ NB206_218.out _; exact bk) hb) (blk_below (g := gb207) (o := .cells #[.slice A1_0 l1_0.length c1_0, .slice (some ad217) l1_1.length c1_1, .slice A1_2 l1_2.length c1_2] 31 (0, 0)) (by (with_reducible repeat (first | refine blk_drewN ?_ _ | refine blk_drew ?_ | refine blk_alloc ?_ _)); refine blk_far ?_ NB207_218.out _; exact bk) hb) (blk_below (g := gb208) (o := .cells #[.int .i64 a2] 3 (0, 0)) (by (with_reducible repeat (first | refine blk_drewN ?_ _ | refine blk_drew ?_ | refine blk_alloc ?_ _)); refine blk_far ?_ NB208_218.out _; exact bk) hb) (blk_below (g := gb215) (o := .cells #[.int .i64 t214] 3 (0, 0)) (by (with_reducible repeat (first | refine blk_drewN ?_ _ | refine blk_drew ?_ | refine blk_alloc ?_ _)); refine blk_far ?_ NB215_218.out _; exact bk) hb) (blk_below (g := gb218) (o := .cells #[.bool true] 4 (0, 0)) (by (with_reducible repeat (first | refine blk_drewN ?_ _ | refine blk_drew ?_ | refine blk_alloc ?_ _)); refine blk_put (cs := #[.bool false]) ?_ 0 _ rfl; exact bk) hb) (below_step bb hb); clear HO_7 BK206 BK207 BK208 BK215 BK218 HB; obtain ⟨HO_7, HO221, BK206, BK207, BK208, BK215, BK218, HB⟩ := t_; (try clear hb); (try clear hk); (try clear ho0); obtain ⟨Ao94, co94, eo94⟩ := Kd.R_slice HO221.out; subst eo94) | ((with_reducible refine gate_callee (f := 78) rfl ?_); refine goesL_ (some 43) rfl rfl Try.func78 (by kernel_rfl) rfl #[.slice Ao94 t219.length co94, .func (.func 79) #[] #[.pointer (some ⟨gb218, 0, none⟩), .pointer (some ⟨gb206, 0, none⟩), .pointer (some ⟨gb208, 0, none⟩), .pointer (some ⟨gb207, 0, none⟩), .pointer (some ⟨gb215, 0, none⟩)]] rfl ms ?_; (with_reducible refine (slices_IndexFunc_int_int_impl_DownToId_1.calls _ _ t219 gb218 true gb206 A0 c0 l0 gb208 a2 gb207 A1_0 c1_0 l1_0 (some ad217) c1_1 l1_1 A1_2 c1_2 l1_2 gb215 t214 t222 _ ?side1 ?side2 ?side3 ?side4 ?side5 ?side6 ?side7 ?side8 ?side9 ?side10 ?side11 ?side12 ?side13 ?side14 ?side15 ?side16 ?side17 ?side18 ?side19 ?side20 ?side21 ?side22 ?side23 ?side24 ?side25 A42.out).mono ?_); (case side1 => repeat (first | exact (Kd.R_reads' HO221.out).2.2 | (with_reducible refine Kd.C_alloc ?_ _) | (with_reducible refine Kd.C_drewN ?_ _) | (with_reducible refine Kd.C_drew ?_))); (case side2 => exact (Kd.R_reads' HO221.out).2.1); (case side3 => exact kc); (case side4 => exact HC0.out); (case side5 => exact kc); (case side6 => exact HC1_0.out); (case side7 => exact kc); (case side8 => exact HC1_1.out); (case side9 => exact kc); (case side10 => exact HC1_2.out); (case side11 => exact bk); (case side12 => exact bk); (case side13 => exact bk); (case side14 => exact bk); (case side15 => exact bk); (case side16 => exact NB218_206.out); (case side17 => exact NB218_208.out); (case side18 => exact NB218_207.out); (case side19 => exact NB218_215.out); (case side20 => exact NB206_208.out); (case side21 => exact NB206_207.out); (case side22 => exact NB206_215.out); (case side23 => exact NB208_207.out); (case side24 => exact NB208_215.out); (case side25 => exact NB207_215.out); rintro e w95 ⟨rfl, hb⟩; refine ⟨_, rfl, ?_⟩; have t_ := fc8 (Kd.R_below (ra HO_7.out) hb) (Kd.R_below (ra HO221.out) hb) (bw BK206 hb) (bw BK207 hb) (bw BK208 hb) (bw BK215 hb) (bw BK218 hb) (below_step bb hb); clear HO_7 HO221 BK206 BK207 BK208 BK215 BK218 HB; obtain ⟨HO_7, HO221, BK206, BK207, BK208, BK215, BK218, HB⟩ := t_; (try clear hb); (try clear hk); have p223 : 0 ≤ (t222 : Int) := of_decide_eq_true as_; have q223 : t222 < (t219.length : Int) := of_decide_eq_true as_; obtain ⟨ad223, e223, hx223_0⟩ := Kd.at_int (Kd.R_reads' HO221.out).2.2 t222 p223 q223; cases e223; replace p223 := eq_true p223; replace q223 := eq_true q223) | ((with_reducible refine gate_builtin (b := .append) (xs := #[.tmp 46, .tmp 51]) rfl ?_); at_builtin; refine Kd.R_append (Kd.int .i64) (w0 := w) w.heap.size rfl (.tmp 46) (.tmp 51) 23 3 (.int .i64 0) 8 rfl Try.underlying23 info3 rfl (by decide) (by omega) (.slice (some ad216) x7_2.length co84) x7_2 (rd t219 t222) [.int .i64 (rd t219 t222)] (fun k_ => some k_ ≠ (.slice (some ad223) t219.length co94 : Value).ownBlock ∧ k_ ≠ gb208 ∧ k_ ≠ gb215) (fun _ => False) rfl rfl ?aP (fun _ hk => hk.elim) ?aF ?aO ?aB ?aS ?aL ?_; (case aP => exact rfl); (case aB => exact bb); (case aF => exact (fun k_ hk => ⟨Kd.fresh' (Kd.R_lt (ra HO221.out)) k_ hk, Kd.freshB (g := gb208) (o := .cells #[.int .i64 a2] 3 (0, 0)) bk k_ hk, Kd.freshB (g := gb215) (o := .cells #[.int .i64 t214] 3 (0, 0)) bk k_ hk⟩)); (case aO => exact (ra (Kd.R_mono HO_7.out (fun _ hk => (And.intro (hk.2) ((And.intro (hk.1.1) (hk.1.2)))))))); (case aS => exact (below_size bb)); (case aL => have := LMc58.out; omega); intro v225 w96 ho hb hg hat; rw [← Ny224.out] at ho; have t_ := fc8 (blk_grown (g := gb206) (o := .cells #[.slice A0 l0.length c0] 29 (0, 0)) bk hg (Kd.R_ne HO_7.out BK206.out (by decide))) (blk_grown (g := gb207) (o := .cells #[.slice A1_0 l1_0.length c1_0, .slice (some ad217) l1_1.length c1_1, .slice A1_2 l1_2.length c1_2] 31 (0, 0)) bk hg (Kd.R_ne HO_7.out BK207.out (by decide))) (blk_grown (g := gb208) (o := .cells #[.int .i64 a2] 3 (0, 0)) bk hg (Kd.R_away HO_7.out (fun _ hk => by first | exact hk.1.1 | exact hk))) (blk_grown (g := gb215) (o := .cells #[.int .i64 t214] 3 (0, 0)) bk hg (Kd.R_away HO_7.out (fun _ hk => by first | exact hk.1.2 | exact hk))) (blk_grown (g := gb218) (o := .cells #[.bool true] 4 (0, 0)) bk hg (Kd.R_ne HO_7.out BK218.out (by decide))) (Kd.R_after (ok := (fun k_ => k_ ≠ gb208 ∧ k_ ≠ gb215)) (ra (Kd.R_mono HO221.out (fun _ hk => (And.intro ((And.intro (hk.1.2) (hk.2))) (hk.1.1.2))))) hg hat) (hb) (ho); clear BK206 BK207 BK208 BK215 BK218 HO221 HB HO_7; obtain ⟨BK206, BK207, BK208, BK215, BK218, HO221, HB, HO226⟩ := t_; clear ho hb hg hat; have hnb97 := NB218_207.out; have hnc97 := NB207_218.out; have hnb98 := NB218_208.out; have hnc98 := NB208_218.out; have hnb99 := NB218_215.out; have hnc99 := NB215_218.out; have hcz100_0 : w96.cell? ⟨gb218, 0, none⟩ = some (.bool true) := (blk_cell BK218.out 0).trans rfl; have hfz100_0 := blk_frozen BK218.out 0))
                  have t_ := fc8 (Kd.R_drew HO221.out) (Kd.R_drew HO226.out) (blk_drew BK206.out) (blk_drew BK207.out) (blk_drew BK208.out) (blk_drew BK215.out) (blk_drew BK218.out) (below_drew1 HB.out)
                  clear HO221 HO226 BK206 BK207 BK208 BK215 BK218 HB
                  obtain ⟨HO221, HO226, BK206, BK207, BK208, BK215, BK218, HB⟩ := t_
                  have p227 : 0 ≤ (t222 : Int) := of_decide_eq_true as_
                  have q227 : t222 < (t219.length : Int) := of_decide_eq_true as_
                  obtain ⟨ad227, e227, hx227_0⟩ := Kd.at_int (Kd.R_reads' HO221.out).2.2 t222 p227 q227
                  obtain rfl : ad223 = ad227 := (by injection e227)
                  replace p227 := eq_true p227
                  replace q227 := eq_true q227
                  have p228 : 0 ≤ ((rd t219 t222) : Int) := of_decide_eq_true as_
                  have q228 : (rd t219 t222) < (l0.length : Int) := of_decide_eq_true as_
                  obtain ⟨ad228, e228, hx228_0, hx228_1, hx228_2⟩ := at_T50 HR0.out (rd t219 t222) p228 q228
                  have hw228_2 := hx228_2
                  have hw228_1 := hx228_1
                  have hw228_0 := hx228_0
                  cases e228
                  replace hx228_0 := pw_cell_below HB.out hx228_0
                  replace hx228_1 := pw_cell_below HB.out hx228_1
                  replace hx228_2 := pw_cell_below HB.out hx228_2
                  replace p228 := eq_true p228
                  replace q228 := eq_true q228
                  refine start_ (n := 11) (S := fun w' => w'.cell? ⟨gb206, 0, none⟩ = some (.slice (some ad228) l0.length c0) ∧ w'.cell? ⟨gb208, 0, none⟩ = some (.int .i64 a2) ∧ w'.cell? (ad223.add (t222).toNat) = some (.int .i64 (rd t219 t222)) ∧ w'.cell? (ad228.add (((rd t219 t222)).toNat * 3)) = some (.int .i64 ((rd_T50 l0 (rd t219 t222)).f0)) ∧ w'.cell? ⟨(ad228.add (((rd t219 t222)).toNat * 3)).block, (ad228.add (((rd t219 t222)).toNat * 3)).off + 1, none⟩ = some (.int .i64 ((rd_T50 l0 (rd t219 t222)).f1)) ∧ w'.cell? ⟨(ad228.add (((rd t219 t222)).toNat * 3)).block, (ad228.add (((rd t219 t222)).toNat * 3)).off + 2, none⟩ = some (.int .i64 ((rd_T50 l0 (rd t219 t222)).f2))) (ds := []) (bz 11 0) (by kernel_rfl) rfl (by kernel_rfl) ⟨(blk_cell BK206.out 0).trans rfl, (blk_cell BK208.out 0).trans rfl, hx227_0, ((HB.out.cell (World.block_lt_of_cell? w _ hw228_0)).trans hw228_0), ((HB.out.cell (World.block_lt_of_cell? w _ hw228_1)).trans hw228_1), ((HB.out.cell (World.block_lt_of_cell? w _ hw228_2)).trans hw228_2)⟩ (fun hHeld => ?_); refine with_tabW impl_DownToId.tab12 impl_DownToId.bits12 (fun HT_ HW_ => ?_)
                  generalize w96.drew = w101 at HO221 HO226 BK206 BK207 BK208 BK215 BK218 HB hx227_0 hx228_0 hx228_1 hx228_2 hHeld ⊢
                  refine pv 1 55 (bz 11 2) HT_ (h := ?_)
                  refine pv 2 56 (bz 11 6) HT_ (h := ?_)
                  refine pv 3 57 (bz 11 14) HT_ (h := ?_)
                  refine tv6 0 54 (bz 11 15) HT_ HW_ hHeld (h := ?_)
                  refine tv6 4 58 (bz 11 31) HT_ HW_ hHeld (h := ?_)
                  refine pv 5 59 (bz 11 63) HT_ (h := ?_)
                  refine tv6 6 60 (bz 11 127) HT_ HW_ hHeld (h := ?_)
                  refine tv6 7 61 (bz 11 255) HT_ HW_ hHeld (h := ?_)
                  refine one_ (i := 8) (N := some 62) (bz 11 511) rfl rfl (one_of HT_.out (by kernel_rfl)) (by decide) (fun K hK => ?_)
                  refine goes_ Try.func83 (by kernel_rfl) rfl #[.int .i64 a2] (by rfl) rfl rfl ms ?_
                  with_reducible refine (impl_FunctionOf.calls a2 t229 _ A62.out).mono ?_
                  rintro e w' ⟨rfl, ⟨nd, rfl⟩⟩
                  refine ⟨_, rfl, ?_⟩
                  refine hK.out _ _ ⟨(blk_cell BK206.out 0).trans rfl, (blk_cell BK208.out 0).trans rfl, hHeld.2.2.1, ((HB.out.cell (World.block_lt_of_cell? w _ hw228_0)).trans hw228_0), ((HB.out.cell (World.block_lt_of_cell? w _ hw228_1)).trans hw228_1), ((HB.out.cell (World.block_lt_of_cell? w _ hw228_2)).trans hw228_2)⟩ (fun hHeld => ?_)
                  clear hK K
                  refine norm_ (a' := ?_) ?_ ?_
                  rotate_left
                  ·show Act.put _ (some 62) _ = _
                   simp only [Act.put, List.setIfInBounds_toArray, List.set_cons_zero, List.set_cons_succ, i64_w, i32_w]
                   rfl
                  refine one_ (i := 9) (N := some 63) (bz 11 1023) rfl rfl (one_of HT_.out (by kernel_rfl)) (by decide) (fun K hK => ?_)
                  refine goes_ Try.func82 (by kernel_rfl) rfl #[.agg #[.int .i64 ((rd_T50 l0 (rd t219 t222)).f0), .int .i64 ((rd_T50 l0 (rd t219 t222)).f1), .int .i64 ((rd_T50 l0 (rd t219 t222)).f2)], .int .i64 t229] (by rfl) rfl rfl ms ?_
                  with_reducible refine (impl_hasFunction.calls ((rd_T50 l0 (rd t219 t222)).f0) ((rd_T50 l0 (rd t219 t222)).f1) ((rd_T50 l0 (rd t219 t222)).f2) t229 false _ A63.out).mono ?_
                  rintro e w102 ⟨rfl, hb⟩
                  have HS2_ := (hb.cell (World.block_lt_of_cell? _ _ (hHeld.2.2.1))).trans (hHeld.2.2.1)
                  refine ⟨_, rfl, ?_⟩
                  have t_ := fc8 (Kd.R_below (ra HO221.out) hb) (Kd.R_below (ra HO226.out) hb) (bw BK206 hb) (bw BK207 hb) (bw BK208 hb) (bw BK215 hb) (bw BK218 hb) (below_step bb hb)
                  clear HO221 HO226 BK206 BK207 BK208 BK215 BK218 HB
                  obtain ⟨HO221, HO226, BK206, BK207, BK208, BK215, BK218, HB⟩ := t_
                  (try clear hb)
                  (try clear hb2)
                  (try clear hk)
                  (try clear hi)
                  refine hK.out _ _ ⟨(blk_cell BK206.out 0).trans rfl, (blk_cell BK208.out 0).trans rfl, HS2_, ((HB.out.cell (World.block_lt_of_cell? w _ hw228_0)).trans hw228_0), ((HB.out.cell (World.block_lt_of_cell? w _ hw228_1)).trans hw228_1), ((HB.out.cell (World.block_lt_of_cell? w _ hw228_2)).trans hw228_2)⟩ (fun hHeld => ?_)
                  clear hK K
                  refine norm_ (a' := ?_) ?_ ?_
                  rotate_left
                  ·show Act.put _ (some 63) _ = _
                   simp only [Act.put, List.setIfInBounds_toArray, List.set_cons_zero, List.set_cons_succ, i64_w, i32_w]
                   rfl
                  refine pv 10 64 (bz 11 2047) HT_ (h := ?_)
                  refine done_ (done_of HT_.out (by kernel_rfl)) ?_
                  try go_wp2
                  go_ret
                  exact ⟨_, by first | rfl | (simp [errW_none, errW_some] <;> rfl) | (simp only [← hji36]; first | rfl | (simp [errW_none, errW_some] <;> rfl)) | (simp [*, errW_none, errW_some] <;> rfl), by first | exact Kd.R_nil _ _ _ _ _ | exact Kd.N_nil _ _ _ _ _ | exact Kd.V_nil _ _ _ _ _ | exact Kd.Q_nil _ _ _ _ _ | exact Kd.S_nil _ _ _ _ _, bb⟩
                ·rw [if_neg c61] at H
                 exact absurd H (by simp)
               ·rw [if_neg c60] at H
                exact absurd H (by simp)
              ·rw [if_neg c59] at H
               have c59b0 : ((rd l1_1 (rd x7_2 (ji36))) == t214) = false := beq_eq_false_iff_ne.mpr c59
               have A42 := Aside0.mk (by have h_ := A42.out; rw [c59b0] at h_; exact h_)
               have c59b1 : ((rd l1_1 (rd x7_2 (ji36))) != t214) = true := bne_iff_ne.mpr c59
               have H' := Aside0.mk H
               clear H
               obtain ⟨Ao103, co103, eo103⟩ := Kd.R_slice HO_7.out
               subst eo103
               have p216 : 0 ≤ ((ji36) : Int) := of_decide_eq_true as_
               have q216 : (ji36) < (x7_2.length : Int) := of_decide_eq_true as_
               obtain ⟨ad216, e216, hx216_0⟩ := Kd.at_int (Kd.R_reads' HO_7.out).2.2 (ji36) p216 q216
               cases e216
               replace p216 := eq_true p216
               replace q216 := eq_true q216
               try go_wp2
               have t_ := fc6 (Kd.R_drew HO_7.out) (blk_drew BK206.out) (blk_drew BK207.out) (blk_drew BK208.out) (blk_drew BK215.out) (below_drew1 HB.out)
               clear HO_7 BK206 BK207 BK208 BK215 HB
               obtain ⟨HO_7, BK206, BK207, BK208, BK215, HB⟩ := t_
               have p217 : 0 ≤ ((rd x7_2 (ji36)) : Int) := of_decide_eq_true as_
               have q217 : (rd x7_2 (ji36)) < (l1_1.length : Int) := of_decide_eq_true as_
               obtain ⟨ad217, e217, hx217_0⟩ := Kd.at_int HR1_1.out (rd x7_2 (ji36)) p217 q217
               have hw217_0 := hx217_0
               cases e217
               replace hx217_0 := pw_cell_below HB.out hx217_0
               replace p217 := eq_true p217
               replace q217 := eq_true q217
               refine start_ (n := 9) (S := fun w' => w'.cell? ⟨gb207, 0, none⟩ = some (.slice A1_0 l1_0.length c1_0) ∧ w'.cell? ⟨gb207, 1, none⟩ = some (.slice (some ad217) l1_1.length c1_1) ∧ w'.cell? ⟨gb207, 2, none⟩ = some (.slice A1_2 l1_2.length c1_2) ∧ w'.cell? ⟨gb215, 0, none⟩ = some (.int .i64 t214) ∧ w'.cell? (ad217.add ((rd x7_2 (ji36))).toNat) = some (.int .i64 (rd l1_1 (rd x7_2 (ji36))))) (ds := []) (bz 9 0) (by kernel_rfl) rfl (by kernel_rfl) ⟨(blk_cell BK207.out 0).trans rfl, (blk_cell BK207.out 1).trans rfl, (blk_cell BK207.out 2).trans rfl, (blk_cell BK215.out 0).trans rfl, ((HB.out.cell (World.block_lt_of_cell? w _ hw217_0)).trans hw217_0)⟩ (fun hHeld => ?_); refine with_tabW impl_DownToId.tab5 impl_DownToId.bits5 (fun HT_ HW_ => ?_)
               generalize wr.drew = w104 at HO_7 BK206 BK207 BK208 BK215 HB hx217_0 hHeld ⊢
               refine pv 0 31 (bz 9 1) HT_ (h := ?_)
               refine pv 2 33 (bz 9 5) HT_ (h := ?_)
               refine tv5 1 32 (bz 9 7) HT_ HW_ hHeld (h := ?_)
               refine pv 3 34 (bz 9 15) HT_ (h := ?_)
               refine tv5 4 35 (bz 9 31) HT_ HW_ hHeld (h := ?_)
               refine tv5 5 36 (bz 9 63) HT_ HW_ hHeld (h := ?_)
               refine pv 6 37 (bz 9 127) HT_ (h := ?_)
               refine one_ (i := 7) (N := some 10) (bz 9 255) rfl rfl (one_of HT_.out (by kernel_rfl)) (by decide) (fun K hK => ?_)
               refine box_step ?hg (N := 10) ?hd (cs := #[.bool false]) (t := 4) ?hr ?_; (case hd => rfl); (case hg => rfl); (case hr => first | (go_simp; done) | (go_simp; rfl))
               intro gb218 hg w105 hbox hb
               have t_ := fc17 (Kd.R_below (ra HO_7.out) hb) (bw BK206 hb) (bw BK207 hb) (bw BK208 hb) (bw BK215 hb) (below_step bb hb) (hbox) (bg hg : w.heap.size ≤ gb218) (bg hg : w.heap.size ≤ gb218) ((nl BK206 hg : gb206 ≠ gb218)) ((ng BK206 hg : gb218 ≠ gb206)) ((nl BK207 hg : gb207 ≠ gb218)) ((ng BK207 hg : gb218 ≠ gb207)) ((nl BK208 hg : gb208 ≠ gb218)) ((ng BK208 hg : gb218 ≠ gb208)) ((nl BK215 hg : gb215 ≠ gb218)) ((ng BK215 hg : gb218 ≠ gb215))
               clear HO_7 BK206 BK207 BK208 BK215 HB
               obtain ⟨HO_7, BK206, BK207, BK208, BK215, HB, BK218, GW218, GE218, NB206_218, NB218_206, NB207_218, NB218_207, NB208_218, NB218_208, NB215_218, NB218_215⟩ := t_
               clear hb hbox hg
               refine hK.out _ _ ⟨(blk_cell BK207.out 0).trans rfl, (blk_cell BK207.out 1).trans rfl, (blk_cell BK207.out 2).trans rfl, (blk_cell BK215.out 0).trans rfl, ((HB.out.cell (World.block_lt_of_cell? w _ hw217_0)).trans hw217_0)⟩ (fun hHeld => ?_)
               clear hK K
               refine norm_ (a' := ?_) ?_ ?_
               rotate_left
               ·show Act.put _ (some 10) _ = _
                simp only [Act.put, List.setIfInBounds_toArray, List.set_cons_zero, List.set_cons_succ, i64_w, i32_w]
                rfl
               refine one_ (i := 8) (N := none) (bz 9 511) rfl rfl (one_of HT_.out (by kernel_rfl)) (by decide) (fun K hK => ?_)
               have hs106 : w105.cell? ⟨gb218, 0, none⟩ = some (.bool false) := (blk_cell BK218.out 0).trans rfl
               have hfs106 := blk_frozen BK218.out 0
               have hns106_0 := NB206_218.out
               have hns106_1 := NB207_218.out
               have hns106_2 := NB208_218.out
               have hns106_3 := NB215_218.out
               have hms106_0 := NB218_206.out
               have hms106_1 := NB218_207.out
               have hms106_2 := NB218_208.out
               have hms106_3 := NB218_215.out
               refine skip_ (w1 := ?_) (by rfl) rfl ?_ ?_
               rotate_left
               ·go_simp
                rfl
               refine hK.out _ _ ⟨((cell_far (p := ⟨gb218, _, none⟩) NB207_218.out _).trans (hHeld.1)), ((cell_far (p := ⟨gb218, _, none⟩) NB207_218.out _).trans (hHeld.2.1)), ((cell_far (p := ⟨gb218, _, none⟩) NB207_218.out _).trans (hHeld.2.2.1)), ((cell_far (p := ⟨gb218, _, none⟩) NB215_218.out _).trans (hHeld.2.2.2.1)), ((cell_far (p := ⟨gb218, _, none⟩) (by first | exact Nat.ne_of_lt (Nat.lt_of_lt_of_le (by have := World.block_lt_of_cell? _ _ hw217_0; first | rwa [add_block] at this | exact this) GW218.out) | (rw [add_block]; exact Nat.ne_of_lt (Nat.lt_of_lt_of_le (by have := World.block_lt_of_cell? _ _ hw217_0; first | rwa [add_block] at this | exact this) GW218.out)) | (show (Addr.add _ _).block ≠ _; rw [add_block]; exact Nat.ne_of_lt (Nat.lt_of_lt_of_le (by have := World.block_lt_of_cell? _ _ hw217_0; first | rwa [add_block] at this | exact this) GW218.out)) | (dsimp only; exact Nat.ne_of_lt (Nat.lt_of_lt_of_le (by have := World.block_lt_of_cell? _ _ hw217_0; first | rwa [add_block] at this | exact this) GW218.out))) _).trans (hHeld.2.2.2.2))⟩ (fun hHeld => ?_)
               clear hK K
               refine done_ (done_of HT_.out (by kernel_rfl)) ?_
               have hnb107 := NB206_207.out
               have hnc107 := NB207_206.out
               have hnb108 := NB206_208.out
               have hnc108 := NB208_206.out
               have hnb109 := NB206_215.out
               have hnc109 := NB215_206.out
               have hnb110 := NB206_218.out
               have hnc110 := NB218_206.out
               obtain ⟨hcz111_0, hfz111_0⟩ := bx1 BK206.out
               try go_wp2_with (first | ((with_reducible refine gate_callee (f := 39) rfl ?_); refine goesL_ (some 40) rfl rfl Try.func39 (by kernel_rfl) rfl #[.slice A0 l0.length c0, .int .i64 (rd x7_2 (ji36))] rfl (by (try simp only [List.map_toArray, List.map_cons, List.map_nil]); first | done | (simp only [hji36]; rfl) | rfl | (simp only [List.length_drop, List.length_take]; rfl)) ?_; (with_reducible refine (impl_ChildrenOf.calls k2 _ _ l0 (rd x7_2 (ji36)) t219 _ ?side1 ?side2 A41.out).mono ?_); (case side1 => exact Kd.C_below HR0.out bb); (case side2 => exact HC0.out); rintro e w112 ⟨v220, rfl, ho0, hb⟩; refine ⟨_, rfl, ?_⟩; have t_ := fc8 (Kd.R_elder' (ra (Kd.R_mono (Kd.R_far (p := ⟨gb218, 0, none⟩) (Kd.R_types HO_7.out BK218.out (by decide)) fk (.bool false)) (fun _ h_ => h_.1))) (Kd.R_base ho0) hb) (Kd.R_lower (Kd.R_newB (Kd.R_newB (Kd.R_new' ho0 (Kd.R_lt (ra (Kd.R_mono (Kd.R_far (p := ⟨gb218, 0, none⟩) (Kd.R_types HO_7.out BK218.out (by decide)) fk (.bool false)) (fun _ h_ => h_.1))))) (g := gb208) (o := .cells #[.int .i64 a2] 3 (0, 0)) (by (with_reducible repeat (first | refine blk_drewN ?_ _ | refine blk_drew ?_ | refine blk_alloc ?_ _)); refine blk_far ?_ NB208_218.out _; exact bk)) (g := gb215) (o := .cells #[.int .i64 t214] 3 (0, 0)) (by (with_reducible repeat (first | refine blk_drewN ?_ _ | refine blk_drew ?_ | refine blk_alloc ?_ _)); refine blk_far ?_ NB215_218.out _; exact bk)) (below_size bb)) (blk_below (g := gb206) (o := .cells #[.slice A0 l0.length c0] 29 (0, 0)) (by (with_reducible repeat (first | refine blk_drewN ?_ _ | refine blk_drew ?_ | refine blk_alloc ?_ _)); refine blk_far ?_ NB206_218.out _; exact bk) hb) (blk_below (g := gb207) (o := .cells #[.slice A1_0 l1_0.length c1_0, .slice (some ad217) l1_1.length c1_1, .slice A1_2 l1_2.length c1_2] 31 (0, 0)) (by (with_reducible repeat (first | refine blk_drewN ?_ _ | refine blk_drew ?_ | refine blk_alloc ?_ _)); refine blk_far ?_ NB207_218.out _; exact bk) hb) (blk_below (g := gb208) (o := .cells #[.int .i64 a2] 3 (0, 0)) (by (with_reducible repeat (first | refine blk_drewN ?_ _ | refine blk_drew ?_ | refine blk_alloc ?_ _)); refine blk_far ?_ NB208_218.out _; exact bk) hb) (blk_below (g := gb215) (o := .cells #[.int .i64 t214] 3 (0, 0)) (by (with_reducible repeat (first | refine blk_drewN ?_ _ | refine blk_drew ?_ | refine blk_alloc ?_ _)); refine blk_far ?_ NB215_218.out _; exact bk) hb) (blk_below (g := gb218) (o := .cells #[.bool false] 4 (0, 0)) (by (with_reducible repeat (first | refine blk_drewN ?_ _ | refine blk_drew ?_ | refine blk_alloc ?_ _)); refine blk_put (cs := #[.bool false]) ?_ 0 _ rfl; exact bk) hb) (below_step bb hb); clear HO_7 BK206 BK207 BK208 BK215 BK218 HB; obtain ⟨HO_7, HO221, BK206, BK207, BK208, BK215, BK218, HB⟩ := t_; (try clear hb); (try clear hk); (try clear ho0); obtain ⟨Ao113, co113, eo113⟩ := Kd.R_slice HO221.out; subst eo113) | ((with_reducible refine gate_callee (f := 78) rfl ?_); refine goesL_ (some 43) rfl rfl Try.func78 (by kernel_rfl) rfl #[.slice Ao113 t219.length co113, .func (.func 79) #[] #[.pointer (some ⟨gb218, 0, none⟩), .pointer (some ⟨gb206, 0, none⟩), .pointer (some ⟨gb208, 0, none⟩), .pointer (some ⟨gb207, 0, none⟩), .pointer (some ⟨gb215, 0, none⟩)]] rfl ms ?_; (with_reducible refine (slices_IndexFunc_int_int_impl_DownToId_1.calls _ _ t219 gb218 false gb206 A0 c0 l0 gb208 a2 gb207 A1_0 c1_0 l1_0 (some ad217) c1_1 l1_1 A1_2 c1_2 l1_2 gb215 t214 t222 _ ?side1 ?side2 ?side3 ?side4 ?side5 ?side6 ?side7 ?side8 ?side9 ?side10 ?side11 ?side12 ?side13 ?side14 ?side15 ?side16 ?side17 ?side18 ?side19 ?side20 ?side21 ?side22 ?side23 ?side24 ?side25 A42.out).mono ?_); (case side1 => repeat (first | exact (Kd.R_reads' HO221.out).2.2 | (with_reducible refine Kd.C_alloc ?_ _) | (with_reducible refine Kd.C_drewN ?_ _) | (with_reducible refine Kd.C_drew ?_))); (case side2 => exact (Kd.R_reads' HO221.out).2.1); (case side3 => exact kc); (case side4 => exact HC0.out); (case side5 => exact kc); (case side6 => exact HC1_0.out); (case side7 => exact kc); (case side8 => exact HC1_1.out); (case side9 => exact kc); (case side10 => exact HC1_2.out); (case side11 => exact bk); (case side12 => exact bk); (case side13 => exact bk); (case side14 => exact bk); (case side15 => exact bk); (case side16 => exact NB218_206.out); (case side17 => exact NB218_208.out); (case side18 => exact NB218_207.out); (case side19 => exact NB218_215.out); (case side20 => exact NB206_208.out); (case side21 => exact NB206_207.out); (case side22 => exact NB206_215.out); (case side23 => exact NB208_207.out); (case side24 => exact NB208_215.out); (case side25 => exact NB207_215.out); rintro e w114 ⟨rfl, hb⟩; refine ⟨_, rfl, ?_⟩; have t_ := fc8 (Kd.R_below (ra HO_7.out) hb) (Kd.R_below (ra HO221.out) hb) (bw BK206 hb) (bw BK207 hb) (bw BK208 hb) (bw BK215 hb) (bw BK218 hb) (below_step bb hb); clear HO_7 HO221 BK206 BK207 BK208 BK215 BK218 HB; obtain ⟨HO_7, HO221, BK206, BK207, BK208, BK215, BK218, HB⟩ := t_; (try clear hb); (try clear hk); have p223 : 0 ≤ (t222 : Int) := of_decide_eq_true as_; have q223 : t222 < (t219.length : Int) := of_decide_eq_true as_; obtain ⟨ad223, e223, hx223_0⟩ := Kd.at_int (Kd.R_reads' HO221.out).2.2 t222 p223 q223; cases e223; replace p223 := eq_true p223; replace q223 := eq_true q223) | ((with_reducible refine gate_builtin (b := .append) (xs := #[.tmp 46, .tmp 51]) rfl ?_); at_builtin; refine Kd.R_append (Kd.int .i64) (w0 := w) w.heap.size rfl (.tmp 46) (.tmp 51) 23 3 (.int .i64 0) 8 rfl Try.underlying23 info3 rfl (by decide) (by omega) (.slice (some ad216) x7_2.length co103) x7_2 (rd t219 t222) [.int .i64 (rd t219 t222)] (fun k_ => some k_ ≠ (.slice (some ad223) t219.length co113 : Value).ownBlock ∧ k_ ≠ gb208 ∧ k_ ≠ gb215) (fun _ => False) rfl rfl ?aP (fun _ hk => hk.elim) ?aF ?aO ?aB ?aS ?aL ?_; (case aP => exact rfl); (case aB => exact bb); (case aF => exact (fun k_ hk => ⟨Kd.fresh' (Kd.R_lt (ra HO221.out)) k_ hk, Kd.freshB (g := gb208) (o := .cells #[.int .i64 a2] 3 (0, 0)) bk k_ hk, Kd.freshB (g := gb215) (o := .cells #[.int .i64 t214] 3 (0, 0)) bk k_ hk⟩)); (case aO => exact (ra (Kd.R_mono HO_7.out (fun _ hk => (And.intro (hk.2) ((And.intro (hk.1.1) (hk.1.2)))))))); (case aS => exact (below_size bb)); (case aL => have := LMc58.out; omega); intro v225 w115 ho hb hg hat; rw [← Ny224.out] at ho; have t_ := fc8 (blk_grown (g := gb206) (o := .cells #[.slice A0 l0.length c0] 29 (0, 0)) bk hg (Kd.R_ne HO_7.out BK206.out (by decide))) (blk_grown (g := gb207) (o := .cells #[.slice A1_0 l1_0.length c1_0, .slice (some ad217) l1_1.length c1_1, .slice A1_2 l1_2.length c1_2] 31 (0, 0)) bk hg (Kd.R_ne HO_7.out BK207.out (by decide))) (blk_grown (g := gb208) (o := .cells #[.int .i64 a2] 3 (0, 0)) bk hg (Kd.R_away HO_7.out (fun _ hk => by first | exact hk.1.1 | exact hk))) (blk_grown (g := gb215) (o := .cells #[.int .i64 t214] 3 (0, 0)) bk hg (Kd.R_away HO_7.out (fun _ hk => by first | exact hk.1.2 | exact hk))) (blk_grown (g := gb218) (o := .cells #[.bool false] 4 (0, 0)) bk hg (Kd.R_ne HO_7.out BK218.out (by decide))) (Kd.R_after (ok := (fun k_ => k_ ≠ gb208 ∧ k_ ≠ gb215)) (ra (Kd.R_mono HO221.out (fun _ hk => (And.intro ((And.intro (hk.1.2) (hk.2))) (hk.1.1.2))))) hg hat) (hb) (ho); clear BK206 BK207 BK208 BK215 BK218 HO221 HB HO_7; obtain ⟨BK206, BK207, BK208, BK215, BK218, HO221, HB, HO226⟩ := t_; clear ho hb hg hat; have hnb116 := NB218_207.out; have hnc116 := NB207_218.out; have hnb117 := NB218_208.out; have hnc117 := NB208_218.out; have hnb118 := NB218_215.out; have hnc118 := NB215_218.out; have hcz119_0 : w115.cell? ⟨gb218, 0, none⟩ = some (.bool false) := (blk_cell BK218.out 0).trans rfl; have hfz119_0 := blk_frozen BK218.out 0))
               go_roundg k2
               case measure => have := HJ3.out; have := HK2.out; omega
               case rel => exact ⟨(y224), H', ⟨by have := HJ3.out; have := HK2.out; omega⟩, ⟨by (with_reducible repeat (first | apply Kd.R_alloc | apply Kd.R_drewN | apply Kd.R_drew)); exact Kd.R_mono HO226.out (fun _ hk => (And.intro (hk.2.1) (hk.2.2)))⟩, ⟨by exact bk⟩, ⟨by exact bk⟩, ⟨by exact bk⟩, ⟨by exact bk⟩, ⟨bb⟩⟩
             ·rw [if_neg c58] at H
              exact absurd H (by simp)
            ·rw [if_neg c57] at H
             exact absurd H (by simp)
           ·rw [if_neg c56] at H
            exact absurd H (by simp)
         ·rw [if_neg c40] at H
          exact absurd H (by simp)
        ·rw [if_neg c39] at H
         exact absurd H (by simp)
       ·rw [if_neg c38] at H
        exact absurd H (by simp)
      ·rw [if_neg c37] at H
       exact absurd H (by simp)

end Go.Proofs.Ytbbppknnkghkjaa.PFnIdRoutes
