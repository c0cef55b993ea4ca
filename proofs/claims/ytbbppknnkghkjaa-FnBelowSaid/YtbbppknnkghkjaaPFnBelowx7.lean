/- Printed by a program of this session out of the translation: each Go function as a Lean function, with the proof that Go comes to just its answer (no condition beyond what each theorem says). (squeezed) -/
import Derived.Test.YtbbppknnkghkjaaPFnBelowx0
import Derived.Test.YtbbppknnkghkjaaPFnBelowx5
import Derived.Test.YtbbppknnkghkjaaPFnBelowx6
namespace Go.Proofs.Ytbbppknnkghkjaa.PFnBelow
open Go.RowKit Go.Proofs.YtbbppknnkghkjaaW.PrintWords Go.Proofs.YtbbppknnkghkjaaW.PrintLast Go.Proofs.YtbbppknnkghkjaaW.PrintMore Go.Proofs.Ytbbppknnkghkjaa.Kit
attribute [local go_sem] max2_int min2_int max_two min_two max_three min_three max_four min_four   -- for this text's walks alone
set_option linter.unusedVariables false
set_option linter.unusedSimpArgs false

/-! ### impl_ChildrenOf_1: function 92 -/
def impl_ChildrenOf_1.f (a0 : Int) (a1 : Int) (l2_0 : List (S50)) : Option (Int) := if 0 ≤ a0 then (if a0 < (l2_0.length : Int) then (if 0 ≤ a1 then (if a1 < (l2_0.length : Int) then ((cmp_Compare_int.f ((rd_T50 l2_0 a0).f1) ((rd_T50 l2_0 a1).f1)).bind fun t218 => (some t218)) else (none)) else (none)) else (none)) else (none)
set_option maxHeartbeats 8000000 in
set_option maxRecDepth 100000 in
theorem impl_ChildrenOf_1.calls (a0 : Int) (a1 : Int) (gc2 : Nat) (A2_0 : Option Addr) (c2_0 : Nat) (l2_0 : List (S50)) (r : Int) (w : World) (hr2_0 : Kd.C k50 w A2_0 l2_0.length l2_0) (hc2_0 : l2_0.length ≤ c2_0) (hbx2 : w.heap[gc2]? = some (.cells #[.slice A2_0 l2_0.length c2_0] 29 (0, 0))) (h : impl_ChildrenOf_1.f a0 a1 l2_0 = some r) :
  Calls Try.prog 92 #[.int .i64 a0, .int .i64 a1, .pointer (some ⟨gc2, 0, none⟩)] w fun e w' => e = .returned (.int .i64 r) ∧ Drawn0 w w' := by
 have HR2_0 := Aside0.mk hr2_0
 have HC2_0 := Aside0.mk hc2_0
 clear hr2_0 hc2_0
 have BK2 := Aside0.mk hbx2
 clear hbx2
 have H : (if 0 ≤ a0 then (if a0 < (l2_0.length : Int) then (if 0 ≤ a1 then (if a1 < (l2_0.length : Int) then ((cmp_Compare_int.f ((rd_T50 l2_0 a0).f1) ((rd_T50 l2_0 a1).f1)).bind fun t218 => (some t218)) else (none)) else (none)) else (none)) else (none)) = some r := h
 clear h
 by_cases c4 : 0 ≤ a0
 ·rw [if_pos c4] at H
  have c4b0 : decide (0 ≤ a0) = true := decide_eq_true c4
  clear c4
  by_cases c5 : a0 < (l2_0.length : Int)
  ·rw [if_pos c5] at H
   have c5b0 : decide (a0 < (l2_0.length : Int)) = true := decide_eq_true c5
   clear c5
   by_cases c6 : 0 ≤ a1
   ·rw [if_pos c6] at H
    have c6b0 : decide (0 ≤ a1) = true := decide_eq_true c6
    clear c6
    by_cases c7 : a1 < (l2_0.length : Int)
    ·rw [if_pos c7] at H
     have c7b0 : decide (a1 < (l2_0.length : Int)) = true := decide_eq_true c7
     clear c7
     replace H := Option.bind_eq_some_iff.mp H
     obtain ⟨t218, A80, H⟩ := H
     replace H : (some t218) = some r := H
     have A8 := Aside0.mk A80
     clear A80
     obtain rfl := Option.some.inj H
     obtain ⟨hcz9_0, hfz9_0⟩ := bx1 BK2.out
     have p216 : 0 ≤ (a0 : Int) := of_decide_eq_true (by first | (with_reducible assumption) | assumption)
     have q216 : a0 < (l2_0.length : Int) := of_decide_eq_true (by first | (with_reducible assumption) | assumption)
     obtain ⟨ad216, e216, hx216_0, hx216_1, hx216_2⟩ := at_T50 HR2_0.out a0 p216 q216
     cases e216
     replace p216 := eq_true p216
     replace q216 := eq_true q216
     have p217 : 0 ≤ (a1 : Int) := of_decide_eq_true (by first | (with_reducible assumption) | assumption)
     have q217 : a1 < (l2_0.length : Int) := of_decide_eq_true (by first | (with_reducible assumption) | assumption)
     obtain ⟨ad217, e217, hx217_0, hx217_1, hx217_2⟩ := at_T50 HR2_0.out a1 p217 q217
     obtain rfl : ad216 = ad217 := (by injection e217)
     replace p217 := eq_true p217
     replace q217 := eq_true q217
     go_enter Try.func92, Try.ntmps92
     go_wp2_with (first | (go_at_call 93; (with_reducible refine (cmp_Compare_int.calls ((rd_T50 l2_0 a0).f1) ((rd_T50 l2_0 a1).f1) t218 _ A8.out).mono ?_); rintro e w' ⟨rfl, ⟨nd, rfl⟩⟩; (try first | exact ⟨rfl, _, World.drewN_drewN _ _ _⟩ | exact ⟨rfl, _, Eq.trans (World.drewN_drewN _ _ _) (congrArg (World.drewN _) (Nat.add_assoc _ _ _))⟩)))
     repeat (go_quiet (first | (go_at_call 93; (with_reducible refine (cmp_Compare_int.calls ((rd_T50 l2_0 a0).f1) ((rd_T50 l2_0 a1).f1) t218 _ A8.out).mono ?_); rintro e w' ⟨rfl, ⟨nd, rfl⟩⟩; (try first | exact ⟨rfl, _, World.drewN_drewN _ _ _⟩ | exact ⟨rfl, _, Eq.trans (World.drewN_drewN _ _ _) (congrArg (World.drewN _) (Nat.add_assoc _ _ _))⟩))); try go_wp2_with (first | (go_at_call 93; (with_reducible refine (cmp_Compare_int.calls ((rd_T50 l2_0 a0).f1) ((rd_T50 l2_0 a1).f1) t218 _ A8.out).mono ?_); rintro e w' ⟨rfl, ⟨nd, rfl⟩⟩; (try first | exact ⟨rfl, _, World.drewN_drewN _ _ _⟩ | exact ⟨rfl, _, Eq.trans (World.drewN_drewN _ _ _) (congrArg (World.drewN _) (Nat.add_assoc _ _ _))⟩))))
     go_ret
     exact ⟨by first | rfl | (simp; done) | (simp [*]; done), by repeat (first | exact Drawn0.refl _ | apply Drawn0.step)⟩
    ·rw [if_neg c7] at H
     exact absurd H (by simp)
   ·rw [if_neg c6] at H
    exact absurd H (by simp)
  ·rw [if_neg c5] at H
   exact absurd H (by simp)
 ·rw [if_neg c4] at H
  exact absurd H (by simp)

/-! ### slices_SortFunc_int_int_impl_ChildrenOf_1: function 91, handed function 92 -/
def slices_SortFunc_int_int_impl_ChildrenOf_1.key (lt : List S50) (x : Int) : Int := (rd_T50 lt x).f1
def slices_SortFunc_int_int_impl_ChildrenOf_1.f (l0 : List Int) (lt : List S50) : Option (List Int) := if (decide (l0.length ≤ 12) && (l0.all (fun x => decide (0 ≤ x ∧ x < (lt.length : Int) ∧ 0 ≤ slices_SortFunc_int_int_impl_ChildrenOf_1.key lt x ∧ slices_SortFunc_int_int_impl_ChildrenOf_1.key lt x ≤ 3)) && decide ((l0.map (slices_SortFunc_int_int_impl_ChildrenOf_1.key lt)).Nodup))) = true then some (l0.filter (fun x => decide (slices_SortFunc_int_int_impl_ChildrenOf_1.key lt x = 0)) ++ (l0.filter (fun x => decide (slices_SortFunc_int_int_impl_ChildrenOf_1.key lt x = 1)) ++ (l0.filter (fun x => decide (slices_SortFunc_int_int_impl_ChildrenOf_1.key lt x = 2)) ++ l0.filter (fun x => decide (slices_SortFunc_int_int_impl_ChildrenOf_1.key lt x = 3))))) else none
theorem slices_SortFunc_int_int_impl_ChildrenOf_1.calls (P0_ : Nat → Prop) (u9000_ : Value) (l0 : List Int) (gt : Nat) (At : Option Addr) (ct : Nat) (lt : List S50) (r : List Int) (w0 w : World) (hB : Below w0.heap.size w0 w) (ho0 : Kd.R (Kd.int .i64) 3 w w0.heap.size P0_ u9000_ l0)
  (hrt : ∀ W_, Kept w W_ (fun k_ => P0_ k_) → Kd.C k50 W_ At lt.length lt) (hct : lt.length ≤ ct) (hbt : w.heap[gt]? = some (.cells #[.slice At lt.length ct] 29 (0, 0))) (hnb : ¬ P0_ gt) (h : slices_SortFunc_int_int_impl_ChildrenOf_1.f l0 lt = some r) :
  Calls Try.prog 91 #[u9000_, .func (.func 92) #[] #[.pointer (some ⟨gt, 0, none⟩)]] w fun e w' => e = .returned (.tuple #[]) ∧ Kd.R (Kd.int .i64) 3 w' w0.heap.size (fun k_ => (P0_ k_ ∨ w.heap.size ≤ k_)) u9000_ r ∧ Below w0.heap.size w0 w' ∧ Kept w w' (fun k_ => P0_ k_) := by
 unfold slices_SortFunc_int_int_impl_ChildrenOf_1.f at h
 split at h
 next hs =>
  injection h with h
  subst h
  simp only [Bool.and_eq_true, decide_eq_true_eq, List.all_eq_true] at hs
  obtain ⟨h12, hin, hnd⟩ := hs
  have hcf : ∀ x y, (0 ≤ x ∧ x < (lt.length : Int)) → (0 ≤ y ∧ y < (lt.length : Int)) → impl_ChildrenOf_1.f x y lt = some (if slices_SortFunc_int_int_impl_ChildrenOf_1.key lt x < slices_SortFunc_int_int_impl_ChildrenOf_1.key lt y then -1 else if slices_SortFunc_int_int_impl_ChildrenOf_1.key lt x > slices_SortFunc_int_int_impl_ChildrenOf_1.key lt y then 1 else 0) := by
   intro x y hx hy
   unfold impl_ChildrenOf_1.f cmp_Compare_int.f cmp_isNaN_int.f slices_SortFunc_int_int_impl_ChildrenOf_1.key
   rw [if_pos hx.1, if_pos hx.2, if_pos hy.1, if_pos hy.2]
   generalize (rd_T50 lt x).f1 = a
   generalize (rd_T50 lt y).f1 = b
   simp only [bne_self_eq_false, Option.bind_some, Bool.false_eq_true, if_false]
   by_cases h1 : a < b
   ·simp [h1]
   ·by_cases h2 : a > b
    ·simp [h1, h2]
    ·simp [h1, h2]
  have hneg : ∀ x y, (0 ≤ x ∧ x < (lt.length : Int)) → (0 ≤ y ∧ y < (lt.length : Int)) → ((impl_ChildrenOf_1.f x y lt).getD 0 < 0 ↔ slices_SortFunc_int_int_impl_ChildrenOf_1.key lt x < slices_SortFunc_int_int_impl_ChildrenOf_1.key lt y) := by
   intro x y hx hy
   rw [hcf x y hx hy]
   simp only [Option.getD_some]
   split
   ·omega
   ·split <;> omega
  have hc := Fns.sort_int (fun x => 0 ≤ x ∧ x < (lt.length : Int)) (fun x y => (impl_ChildrenOf_1.f x y lt).getD 0) ⟨fun x => by rw [decide_eq_false_iff_not, hneg _ _ x.2 x.2]; omega, fun x y z h1 h2 => by rw [decide_eq_true_iff, hneg _ _ x.2 y.2] at h1; rw [decide_eq_true_iff, hneg _ _ y.2 z.2] at h2; rw [decide_eq_true_iff, hneg _ _ x.2 z.2]; omega, fun x y z h1 h2 => by rw [decide_eq_false_iff_not, hneg _ _ x.2 y.2] at h1; rw [decide_eq_false_iff_not, hneg _ _ y.2 z.2] at h2; rw [decide_eq_false_iff_not, hneg _ _ x.2 z.2]; omega⟩ 92 #[.pointer (some ⟨gt, 0, none⟩)] P0_ u9000_ l0 w0 w hB ho0 h12 (fun x hx => ⟨(hin x hx).1, (hin x hx).2.1⟩) (enters_of Try.func92 (by kernel_rfl) rfl)
   (fun W hW x y hx hy => by
    have hf : impl_ChildrenOf_1.f x y lt = some ((impl_ChildrenOf_1.f x y lt).getD 0) := by rw [hcf x y hx hy]; rfl
    refine (impl_ChildrenOf_1.calls x y gt At ct lt _ W (hrt W hW) hct (blk_kept hbt hW hnb) hf).mono ?_
    rintro e w' ⟨rfl, ⟨q, rfl⟩⟩
    exact ⟨rfl, q, rfl⟩)
  refine hc.mono ?_
  rintro e w' ⟨rfl, l', hp, hsd, hR, hBl, hK⟩
  have hmem : ∀ x ∈ l', 0 ≤ x ∧ x < (lt.length : Int) := fun x hx => by have := hin x (hp.subset hx); exact ⟨this.1, this.2.1⟩
  have hsd' : l'.Pairwise (fun x y => ¬ slices_SortFunc_int_int_impl_ChildrenOf_1.key lt y < slices_SortFunc_int_int_impl_ChildrenOf_1.key lt x) := List.Pairwise.imp_of_mem (fun {x y} hx hy hh => by rw [hneg y x (hmem y hy) (hmem x hx)] at hh; exact hh) hsd
  rw [Fns.buckets_eq (slices_SortFunc_int_int_impl_ChildrenOf_1.key lt) l0 l' (fun x hx => ⟨(hin x hx).2.2.1, (hin x hx).2.2.2⟩) hnd hp hsd'] at hR
  exact ⟨rfl, Kd.R_mono hR (fun k hk => .inl hk), hBl, hK⟩
 next => cases h

/-! ### impl_ChildrenOf: function 39 -/
def impl_ChildrenOf.l0 : Nat → Int → List Int → List (S50) → Int → Int → List (S50) → Option (List Int)
 | 0, _, _, _, _, _, _ => none
 | k + 1, x1, x5, x14, x15, x16, x220000 => if x16 < x15 then (if 0 ≤ x16 then (if x16 < (x14.length : Int) then (if ((rd_T50 x14 x16).f0) = x1 then (if x5.length < 17592186044416 then (impl_ChildrenOf.l0 k x1 (x5 ++ [x16]) x14 x15 (wrap64 (x16 + 1)) x220000) else (none)) else (impl_ChildrenOf.l0 k x1 x5 x14 x15 (wrap64 (x16 + 1)) x220000)) else (none)) else (none)) else ((slices_SortFunc_int_int_impl_ChildrenOf_1.f x5 x220000).bind fun t229 => (some t229))
def impl_ChildrenOf.f (k : Nat) (l0 : List (S50)) (a1 : Int) : Option (List Int) := (some (([] : List Int) : List Int)).bind fun y220 => ((impl_isNode.f k l0 a1).bind fun t223 => (if t223 = true then (impl_ChildrenOf.l0 k a1 y220 l0 (l0.length : Int) 0 l0) else (some y220)))
set_option maxHeartbeats 8000000 in
set_option maxRecDepth 100000 in
theorem impl_ChildrenOf.calls (k : Nat) (A0 : Option Addr) (c0 : Nat) (l0 : List (S50)) (a1 : Int) (r : List Int) (w : World) (hr0 : Kd.C k50 w A0 l0.length l0) (hc0 : l0.length ≤ c0) (h : impl_ChildrenOf.f k l0 a1 = some r) :
  Calls Try.prog 39 #[.slice A0 l0.length c0, .int .i64 a1] w fun e w' => ∃ v0_ : Value, e = .returned (v0_) ∧ Kd.R (Kd.int .i64) 3 w' w.heap.size (fun _ => True) v0_ r ∧ Below w.heap.size w w' := by
 have hu50 := Try.underlying50
 have HR0 := Aside0.mk hr0
 have HC0 := Aside0.mk hc0
 clear hr0 hc0
 have HB := Aside0.mk (Below.refl w.heap.size w)
 have H : ((some (([] : List Int) : List Int)).bind fun y220 => ((impl_isNode.f k l0 a1).bind fun t223 => (if t223 = true then (impl_ChildrenOf.l0 k a1 y220 l0 (l0.length : Int) 0 l0) else (some y220)))) = some r := h
 clear h
 obtain ⟨y220, hy220⟩ : ∃ y_ : List Int, y_ = (([] : List Int)) := ⟨_, rfl⟩
 replace H : ((impl_isNode.f k l0 a1).bind fun t223 => (if t223 = true then (impl_ChildrenOf.l0 k a1 y220 l0 (l0.length : Int) 0 l0) else (some y220))) = some r := by first | (rw [hy220]; with_reducible exact H) | (have H2_ := (Option.bind_some _ _).symm.trans H; rw [hy220]; with_reducible exact H2_) | (have H2_ := (Option.bind_some _ _).symm.trans H; with_reducible exact H2_) | with_reducible exact H | (rw [hy220]; exact H) | exact H
 have Ny220 := Aside0.mk hy220
 clear hy220
 replace H := Option.bind_eq_some_iff.mp H
 obtain ⟨t223, A30, H⟩ := H
 replace H : (if t223 = true then (impl_ChildrenOf.l0 k a1 y220 l0 (l0.length : Int) 0 l0) else (some y220)) = some r := H
 have A3 := Aside0.mk A30
 clear A30
 by_cases c4 : t223 = true
 ·subst c4
  have H1 : (impl_ChildrenOf.l0 k a1 y220 l0 (l0.length : Int) 0 l0) = some r := by rw [if_pos rfl] at H; exact H
  clear H
  have H := H1
  clear H1
  have H' := Aside0.mk H
  clear H
  go_enter Try.func39, Try.ntmps39
  go_wp2_with (first | ((with_reducible refine gate_dst (N := 2) rfl ?_); refine box_event ?hg (N := 2) ?hd (cs := #[.slice A0 l0.length c0]) (t := 29) ?hr ?_; (case hd => rfl); (case hg => rfl); (case hr => first | (go_simp; done) | (go_simp; rfl)); intro gb219 hg w5 hbox hb; have n0_ := Aside0.mk (below_step bb hb); have n1_ := Aside0.mk (hbox); have n2_ := Aside0.mk ((by rw [hg]; exact (below_size bb) : w.heap.size ≤ gb219)); have n3_ := Aside0.mk ((by rw [hg]; exact (below_size bb) : w.heap.size ≤ gb219)); clear HB; have HB := n0_; have BK219 := n1_; have GW219 := n2_; have GE219 := n3_; clear n0_ n1_ n2_ n3_; clear hb hbox hg) | ((with_reducible refine gate_dst (N := 8) rfl ?_); refine Kd.R_lit (Kd.int .i64) _ 3 ?hg (N := 8) ?hd (xs := ([] : List Int)) (inner := []) (ok := fun _ => True) (okp := fun _ => True) ?hr ?hp (fun _ hk => hk) trivial (Below.refl _ _) (Nat.le_refl _) (by simp) ?_; (case hd => rfl); (case hg => rfl); (case hr => first | (go_simp; done) | (go_simp; rfl)); (case hp => exact (Reps.none _ _)); intro v221 w6 ho7 hb hg_ hnew_; clear hg_ hnew_; (first | rw [← Ny220.out] at ho7 | (simp only [Int.reduceToNat] at ho7; rw [← Ny220.out] at ho7)); have n0_ := Aside0.mk (Kd.R_lower ho7 (below_size bb)); have n1_ := Aside0.mk (blk_below (g := gb219) (o := .cells #[.slice A0 l0.length c0] 29 (0, 0)) bk hb); have n2_ := Aside0.mk (below_step bb hb); clear BK219; clear HB; have HO222 := n0_; have BK219 := n1_; have HB := n2_; clear n0_ n1_ n2_; clear hb ho7; obtain ⟨hcz8_0, hfz8_0⟩ := bx1 BK219.out) | ((with_reducible refine gate_callee (f := 90) rfl ?_); refine goesL_ (some 11) rfl rfl Try.func90 (by kernel_rfl) rfl #[.slice A0 l0.length c0, .int .i64 a1] rfl (by (try simp only [List.map_toArray, List.map_cons, List.map_nil]); first | done | rfl | (simp only [List.length_drop, List.length_take]; rfl)) ?_; (with_reducible refine (impl_isNode.calls k _ _ l0 a1 true _ ?side1 ?side2 A3.out).mono ?_); (case side1 => exact kc); (case side2 => exact HC0.out); rintro e w9 ⟨rfl, hb⟩; refine ⟨_, rfl, ?_⟩; have n0_ := Aside0.mk (Kd.R_below (by (with_reducible repeat (first | apply Kd.R_alloc | apply Kd.R_drewN | apply Kd.R_drew)); exact HO222.out) hb); have n1_ := Aside0.mk (blk_below (g := gb219) (o := .cells #[.slice A0 l0.length c0] 29 (0, 0)) bk hb); have n2_ := Aside0.mk (below_step bb hb); clear HO222; clear BK219; clear HB; have HO222 := n0_; have BK219 := n1_; have HB := n2_; clear n0_ n1_ n2_; (try clear hb); obtain ⟨hcz10_0, hfz10_0⟩ := bx1 BK219.out))
  go_loopg [5, 16] k (fun kq v5 v16 w' => ∃ (x5_1 : List Int) (x16_1 : Int), v16 = .int .i64 x16_1 ∧ Aside0 (impl_ChildrenOf.l0 kq a1 x5_1 l0 (l0.length : Int) x16_1 l0 = some r) ∧ Aside0 (kq ≤ k) ∧ Aside0 (Kd.R (Kd.int .i64) 3 w' w.heap.size (fun _ => True) v5 x5_1) ∧ Aside0 (w'.heap[gb219]? = some (.cells #[(.slice A0 l0.length c0)] 29 (0, 0))) ∧ Aside0 (Below w.heap.size w w'))
  case atStart => exact ⟨(y220), (0), (by first | rfl | (simp; done) | (simp [*]; done)), H', ⟨Nat.le_refl _⟩, ⟨by (with_reducible repeat (first | apply Kd.R_alloc | apply Kd.R_drewN | apply Kd.R_drew)); exact HO222.out⟩, ⟨by exact bk⟩, ⟨bb⟩⟩
  case round =>
   clear H'
   try clear p2
   try clear c3
   try clear c4
   try clear c9
   try clear hcz10_0
   try clear hcz8_0
   try clear hfz10_0
   try clear hfz8_0
   obtain ⟨x5_1, x16_1, rfl, HA, HK1, HO_5, BK219, HB⟩ := hrel
   cases gk with
   | zero => exact absurd HA.out (by simp [impl_ChildrenOf.l0])
   | succ k1 =>
    have H := HA.out
    clear HA
    simp only [impl_ChildrenOf.l0] at H
    by_cases c11 : x16_1 < (l0.length : Int)
    ·rw [if_pos c11] at H
     have c11b0 : decide (x16_1 < (l0.length : Int)) = true := decide_eq_true c11
     clear c11
     by_cases c12 : 0 ≤ x16_1
     ·rw [if_pos c12] at H
      have c12b0 : decide (0 ≤ x16_1) = true := decide_eq_true c12
      clear c12
      by_cases c13 : x16_1 < (l0.length : Int)
      ·rw [if_pos c13] at H
       have c13b0 : decide (x16_1 < (l0.length : Int)) = true := decide_eq_true c13
       clear c13
       by_cases c14 : ((rd_T50 l0 x16_1).f0) = a1
       ·rw [if_pos c14] at H
        have c14b0 : (((rd_T50 l0 x16_1).f0) == a1) = true := beq_iff_eq.mpr c14
        have c14b1 : (((rd_T50 l0 x16_1).f0) != a1) = false := bne_eq_false_iff_eq.mpr c14
        clear c14
        by_cases c15 : x5_1.length < 17592186044416
        ·rw [if_pos c15] at H
         have LMc15 := Aside0.mk c15
         clear c15
         obtain ⟨y226, hy226⟩ : ∃ y_ : List Int, y_ = (x5_1 ++ [x16_1]) := ⟨_, rfl⟩
         replace H : (impl_ChildrenOf.l0 k1 a1 y226 l0 (l0.length : Int) (wrap64 (x16_1 + 1)) l0) = some r := by first | (rw [hy226]; with_reducible exact H) | (have H2_ := (Option.bind_some _ _).symm.trans H; rw [hy226]; with_reducible exact H2_) | (have H2_ := (Option.bind_some _ _).symm.trans H; with_reducible exact H2_) | with_reducible exact H | (rw [hy226]; exact H) | exact H
         have Ny226 := Aside0.mk hy226
         clear hy226
         have H' := Aside0.mk H
         clear H
         have p224 : 0 ≤ (x16_1 : Int) := of_decide_eq_true (by first | (with_reducible assumption) | assumption)
         have q224 : x16_1 < (l0.length : Int) := of_decide_eq_true (by first | (with_reducible assumption) | assumption)
         obtain ⟨ad224, e224, hx224_0, hx224_1, hx224_2⟩ := at_T50 HR0.out x16_1 p224 q224
         cases e224
         replace hx224_0 := pw_cell_below HB.out hx224_0
         replace hx224_1 := pw_cell_below HB.out hx224_1
         replace hx224_2 := pw_cell_below HB.out hx224_2
         replace p224 := eq_true p224
         replace q224 := eq_true q224
         go_wp2_with (first | ((with_reducible refine gate_dst (N := 7) rfl ?_); refine box_event ?hg (N := 7) ?hd (cs := #[.int .i64 0, .int .i64 0, .int .i64 0]) (t := 50) ?hr ?_; (case hd => rfl); (case hg => rfl); (case hr => first | (go_simp; done) | (go_simp; rfl)); intro gb225 hg w16 hbox hb; have n0_ := Aside0.mk (Kd.R_below (by (with_reducible repeat (first | apply Kd.R_alloc | apply Kd.R_drewN | apply Kd.R_drew)); exact HO_5.out) hb); have n1_ := Aside0.mk (blk_below (g := gb219) (o := .cells #[.slice (some ad224) l0.length c0] 29 (0, 0)) bk hb); have n2_ := Aside0.mk (below_step bb hb); have n3_ := Aside0.mk (hbox); have n4_ := Aside0.mk ((by rw [hg]; exact (below_size bb) : w.heap.size ≤ gb225)); have n5_ := Aside0.mk ((by rw [hg]; exact (below_size bb) : w.heap.size ≤ gb225)); have n6_ := Aside0.mk ((by rw [hg]; exact Nat.ne_of_lt (blk_lt (g := gb219) (o := .cells #[.slice (some ad224) l0.length c0] 29 (0, 0)) bk) : gb219 ≠ gb225)); have n7_ := Aside0.mk ((by rw [hg]; exact Nat.ne_of_gt (blk_lt (g := gb219) (o := .cells #[.slice (some ad224) l0.length c0] 29 (0, 0)) bk) : gb225 ≠ gb219)); clear HO_5; clear BK219; clear HB; have HO_5 := n0_; have BK219 := n1_; have HB := n2_; have BK225 := n3_; have GW225 := n4_; have GE225 := n5_; have NB219_225 := n6_; have NB225_219 := n7_; clear n0_ n1_ n2_ n3_ n4_ n5_ n6_ n7_; clear hb hbox hg; have hnb17 := NB225_219.out; have hnc17 := NB219_225.out; obtain ⟨hcz18_0, hcz18_1, hcz18_2, hfz18_0, hfz18_1, hfz18_2⟩ := bx3 BK225.out) | ((with_reducible refine gate_builtin (b := .append) (xs := #[.tmp 25, .tmp 27]) rfl ?_); at_builtin; refine Kd.R_append (Kd.int .i64) (w0 := w) w.heap.size rfl (.tmp 25) (.tmp 27) 23 3 (.int .i64 0) 8 rfl Try.underlying23 info3 rfl (by decide) (by omega) u5 x5_1 x16_1 [.int .i64 x16_1] (fun _ => True) (fun _ => False) rfl (by first | (go_simp; done) | (go_simp; rfl)) ?aP (fun _ hk => hk.elim) ?aF ?aO ?aB ?aS ?aL ?_; (case aP => exact rfl); (case aB => exact bb); (case aF => exact (fun _ _ => trivial)); (case aO => exact (by (with_reducible repeat (first | apply Kd.R_alloc | apply Kd.R_drewN | apply Kd.R_drew)); exact Kd.R_mono (Kd.R_far (p := ⟨gb225, 2, none⟩) (Kd.R_far (p := ⟨gb225, 1, none⟩) (Kd.R_far (p := ⟨gb225, 0, none⟩) (Kd.R_types HO_5.out BK225.out (by decide)) (fun _ hk => by first | exact hk.2 | exact hk) (.int .i64 ((rd_T50 l0 x16_1).f0))) (fun _ hk => by first | exact hk.2 | exact hk) (.int .i64 ((rd_T50 l0 x16_1).f1))) (fun _ hk => by first | exact hk.2 | exact hk) (.int .i64 ((rd_T50 l0 x16_1).f2))) (fun _ hk => trivial))); (case aS => exact (below_size bb)); (case aL => have := LMc15.out; omega); intro v227 w19 ho hb hg hat; rw [← Ny226.out] at ho; have n0_ := Aside0.mk (blk_grown (g := gb219) (o := .cells #[.slice (some ad224) l0.length c0] 29 (0, 0)) (by (with_reducible repeat (first | refine blk_drewN ?_ _ | refine blk_drew ?_ | refine blk_alloc ?_ _)); refine blk_far ?_ NB219_225.out _; (with_reducible repeat (first | refine blk_drewN ?_ _ | refine blk_drew ?_ | refine blk_alloc ?_ _)); refine blk_far ?_ NB219_225.out _; (with_reducible repeat (first | refine blk_drewN ?_ _ | refine blk_drew ?_ | refine blk_alloc ?_ _)); refine blk_far ?_ NB219_225.out _; exact bk) hg (Kd.R_ne HO_5.out BK219.out (by decide))); have n1_ := Aside0.mk (blk_grown (g := gb225) (o := .cells #[.int .i64 ((rd_T50 l0 x16_1).f0), .int .i64 ((rd_T50 l0 x16_1).f1), .int .i64 ((rd_T50 l0 x16_1).f2)] 50 (0, 0)) (by (with_reducible repeat (first | refine blk_drewN ?_ _ | refine blk_drew ?_ | refine blk_alloc ?_ _)); refine blk_put (cs := #[.int .i64 ((rd_T50 l0 x16_1).f0), .int .i64 ((rd_T50 l0 x16_1).f1), .int .i64 0]) ?_ 2 _ rfl; (with_reducible repeat (first | refine blk_drewN ?_ _ | refine blk_drew ?_ | refine blk_alloc ?_ _)); refine blk_put (cs := #[.int .i64 ((rd_T50 l0 x16_1).f0), .int .i64 0, .int .i64 0]) ?_ 1 _ rfl; (with_reducible repeat (first | refine blk_drewN ?_ _ | refine blk_drew ?_ | refine blk_alloc ?_ _)); refine blk_put (cs := #[.int .i64 0, .int .i64 0, .int .i64 0]) ?_ 0 _ rfl; exact bk) hg (Kd.R_ne HO_5.out BK225.out (by decide))); have n2_ := Aside0.mk (hb); have n3_ := Aside0.mk (ho); clear BK219; clear BK225; clear HB; clear HO_5; have BK219 := n0_; have BK225 := n1_; have HB := n2_; have HO228 := n3_; clear n0_ n1_ n2_ n3_; clear ho hb hg hat))
         go_roundg k1
         case measure => have := HK1.out; omega
         case rel => exact ⟨(y226), (wrap64 (x16_1 + 1)), (by first | rfl | (simp; done) | (simp [*]; done)), H', ⟨by have := HK1.out; omega⟩, ⟨by (with_reducible repeat (first | apply Kd.R_alloc | apply Kd.R_drewN | apply Kd.R_drew)); exact HO228.out⟩, ⟨by exact bk⟩, ⟨bb⟩⟩
        ·rw [if_neg c15] at H
         exact absurd H (by simp)
       ·rw [if_neg c14] at H
        have c14b0 : (((rd_T50 l0 x16_1).f0) == a1) = false := beq_eq_false_iff_ne.mpr c14
        have c14b1 : (((rd_T50 l0 x16_1).f0) != a1) = true := bne_iff_ne.mpr c14
        have H' := Aside0.mk H
        clear H
        have p224 : 0 ≤ (x16_1 : Int) := of_decide_eq_true (by first | (with_reducible assumption) | assumption)
        have q224 : x16_1 < (l0.length : Int) := of_decide_eq_true (by first | (with_reducible assumption) | assumption)
        obtain ⟨ad224, e224, hx224_0, hx224_1, hx224_2⟩ := at_T50 HR0.out x16_1 p224 q224
        cases e224
        replace hx224_0 := pw_cell_below HB.out hx224_0
        replace hx224_1 := pw_cell_below HB.out hx224_1
        replace hx224_2 := pw_cell_below HB.out hx224_2
        replace p224 := eq_true p224
        replace q224 := eq_true q224
        go_wp2_with (first | ((with_reducible refine gate_dst (N := 7) rfl ?_); refine box_event ?hg (N := 7) ?hd (cs := #[.int .i64 0, .int .i64 0, .int .i64 0]) (t := 50) ?hr ?_; (case hd => rfl); (case hg => rfl); (case hr => first | (go_simp; done) | (go_simp; rfl)); intro gb225 hg w20 hbox hb; have n0_ := Aside0.mk (Kd.R_below (by (with_reducible repeat (first | apply Kd.R_alloc | apply Kd.R_drewN | apply Kd.R_drew)); exact HO_5.out) hb); have n1_ := Aside0.mk (blk_below (g := gb219) (o := .cells #[.slice (some ad224) l0.length c0] 29 (0, 0)) bk hb); have n2_ := Aside0.mk (below_step bb hb); have n3_ := Aside0.mk (hbox); have n4_ := Aside0.mk ((by rw [hg]; exact (below_size bb) : w.heap.size ≤ gb225)); have n5_ := Aside0.mk ((by rw [hg]; exact (below_size bb) : w.heap.size ≤ gb225)); have n6_ := Aside0.mk ((by rw [hg]; exact Nat.ne_of_lt (blk_lt (g := gb219) (o := .cells #[.slice (some ad224) l0.length c0] 29 (0, 0)) bk) : gb219 ≠ gb225)); have n7_ := Aside0.mk ((by rw [hg]; exact Nat.ne_of_gt (blk_lt (g := gb219) (o := .cells #[.slice (some ad224) l0.length c0] 29 (0, 0)) bk) : gb225 ≠ gb219)); clear HO_5; clear BK219; clear HB; have HO_5 := n0_; have BK219 := n1_; have HB := n2_; have BK225 := n3_; have GW225 := n4_; have GE225 := n5_; have NB219_225 := n6_; have NB225_219 := n7_; clear n0_ n1_ n2_ n3_ n4_ n5_ n6_ n7_; clear hb hbox hg; have hnb21 := NB225_219.out; have hnc21 := NB219_225.out; obtain ⟨hcz22_0, hcz22_1, hcz22_2, hfz22_0, hfz22_1, hfz22_2⟩ := bx3 BK225.out))
        go_roundg k1
        case measure => have := HK1.out; omega
        case rel => exact ⟨(x5_1), (wrap64 (x16_1 + 1)), (by first | rfl | (simp; done) | (simp [*]; done)), H', ⟨by have := HK1.out; omega⟩, ⟨by (with_reducible repeat (first | apply Kd.R_alloc | apply Kd.R_drewN | apply Kd.R_drew)); exact Kd.R_mono (Kd.R_far (p := ⟨gb225, 2, none⟩) (Kd.R_far (p := ⟨gb225, 1, none⟩) (Kd.R_far (p := ⟨gb225, 0, none⟩) (Kd.R_types HO_5.out BK225.out (by decide)) (fun _ hk => by first | exact hk.2 | exact hk) (.int .i64 ((rd_T50 l0 x16_1).f0))) (fun _ hk => by first | exact hk.2 | exact hk) (.int .i64 ((rd_T50 l0 x16_1).f1))) (fun _ hk => by first | exact hk.2 | exact hk) (.int .i64 ((rd_T50 l0 x16_1).f2))) (fun _ hk => trivial)⟩, ⟨by (with_reducible repeat (first | refine blk_drewN ?_ _ | refine blk_drew ?_ | refine blk_alloc ?_ _)); refine blk_far ?_ NB219_225.out _; (with_reducible repeat (first | refine blk_drewN ?_ _ | refine blk_drew ?_ | refine blk_alloc ?_ _)); refine blk_far ?_ NB219_225.out _; (with_reducible repeat (first | refine blk_drewN ?_ _ | refine blk_drew ?_ | refine blk_alloc ?_ _)); refine blk_far ?_ NB219_225.out _; exact bk⟩, ⟨bb⟩⟩
      ·rw [if_neg c13] at H
       exact absurd H (by simp)
     ·rw [if_neg c12] at H
      exact absurd H (by simp)
    ·rw [if_neg c11] at H
     have c11b0 : decide (x16_1 < (l0.length : Int)) = false := decide_eq_false c11
     clear c11
     replace H := Option.bind_eq_some_iff.mp H
     obtain ⟨t229, A230, H⟩ := H
     replace H : (some t229) = some r := H
     have A23 := Aside0.mk A230
     clear A230
     obtain rfl := Option.some.inj H
     obtain ⟨Ao24, co24, eo24⟩ := Kd.R_slice HO_5.out
     subst eo24
     go_wp2_with (first | ((with_reducible refine gate_callee (f := 91) rfl ?_); refine goesL_ (some 32) rfl rfl Try.func91 (by kernel_rfl) rfl #[.slice Ao24 x5_1.length co24, .func (.func 92) #[] #[.pointer (some ⟨gb219, 0, none⟩)]] rfl (by (try simp only [List.map_toArray, List.map_cons, List.map_nil]); first | done | rfl | (simp only [List.length_drop, List.length_take]; rfl)) ?_; (with_reducible refine (slices_SortFunc_int_int_impl_ChildrenOf_1.calls (fun k_ => some k_ = (.slice Ao24 x5_1.length co24 : Value).ownBlock) (.slice Ao24 x5_1.length co24) x5_1 gb219 A0 c0 l0 t229 w _ ?side1 ?side2 ?side3 ?side4 ?side5 ?side6 A23.out).mono ?_); (case side1 => exact bb); (case side2 => exact Kd.R_tight rfl HO_5.out); (case side3 => exact Kd.C_kept_came k50_heap HR0.out bb (fun k_ hs_ => (fun e_ => Kd.R_base HO_5.out k_ e_.symm) hs_)); (case side4 => exact HC0.out); (case side5 => exact bk); (case side6 => exact fun hs_ => (fun e_ => (Kd.R_ne HO_5.out BK219.out (by decide)) e_) hs_); rintro e w25 ⟨rfl, hy0, hb, hkp⟩; refine ⟨_, rfl, ?_⟩; have n0_ := Aside0.mk (Kd.R_reok rfl hy0 (fun k_ e_ => HO_5.out.1 k_ e_)); have n1_ := Aside0.mk (blk_kept bk hkp (fun hs_ => (fun e_ => (Kd.R_ne HO_5.out BK219.out (by decide)) e_) hs_)); have n2_ := Aside0.mk (hb); clear HO_5; clear BK219; clear HB; have HO_5 := n0_; have BK219 := n1_; have HB := n2_; clear n0_ n1_ n2_; (try clear hb); (try clear hkp); (try clear hy0)))
     go_ret
     exact ⟨_, by first | rfl | (simp [errW_none, errW_some] <;> rfl) | (simp [*, errW_none, errW_some] <;> rfl), by (with_reducible repeat (first | apply Kd.R_alloc | apply Kd.R_drewN | apply Kd.R_drew)); exact HO_5.out, bb⟩
 ·replace c4 := Bool.eq_false_iff.mpr c4
  subst c4
  have H1 : (some y220) = some r := by rw [if_neg (show ¬ (false = true) by decide)] at H; exact H
  clear H
  have H := H1
  clear H1
  obtain rfl := Option.some.inj H
  go_enter Try.func39, Try.ntmps39
  go_wp2_with (first | ((with_reducible refine gate_dst (N := 2) rfl ?_); refine box_event ?hg (N := 2) ?hd (cs := #[.slice A0 l0.length c0]) (t := 29) ?hr ?_; (case hd => rfl); (case hg => rfl); (case hr => first | (go_simp; done) | (go_simp; rfl)); intro gb219 hg w26 hbox hb; have n0_ := Aside0.mk (below_step bb hb); have n1_ := Aside0.mk (hbox); have n2_ := Aside0.mk ((by rw [hg]; exact (below_size bb) : w.heap.size ≤ gb219)); have n3_ := Aside0.mk ((by rw [hg]; exact (below_size bb) : w.heap.size ≤ gb219)); clear HB; have HB := n0_; have BK219 := n1_; have GW219 := n2_; have GE219 := n3_; clear n0_ n1_ n2_ n3_; clear hb hbox hg) | ((with_reducible refine gate_dst (N := 8) rfl ?_); refine Kd.R_lit (Kd.int .i64) _ 3 ?hg (N := 8) ?hd (xs := ([] : List Int)) (inner := []) (ok := fun _ => True) (okp := fun _ => True) ?hr ?hp (fun _ hk => hk) trivial (Below.refl _ _) (Nat.le_refl _) (by simp) ?_; (case hd => rfl); (case hg => rfl); (case hr => first | (go_simp; done) | (go_simp; rfl)); (case hp => exact (Reps.none _ _)); intro v221 w27 ho28 hb hg_ hnew_; clear hg_ hnew_; (first | rw [← Ny220.out] at ho28 | (simp only [Int.reduceToNat] at ho28; rw [← Ny220.out] at ho28)); have n0_ := Aside0.mk (Kd.R_lower ho28 (below_size bb)); have n1_ := Aside0.mk (blk_below (g := gb219) (o := .cells #[.slice A0 l0.length c0] 29 (0, 0)) bk hb); have n2_ := Aside0.mk (below_step bb hb); clear BK219; clear HB; have HO222 := n0_; have BK219 := n1_; have HB := n2_; clear n0_ n1_ n2_; clear hb ho28; obtain ⟨hcz29_0, hfz29_0⟩ := bx1 BK219.out) | ((with_reducible refine gate_callee (f := 90) rfl ?_); refine goesL_ (some 11) rfl rfl Try.func90 (by kernel_rfl) rfl #[.slice A0 l0.length c0, .int .i64 a1] rfl (by (try simp only [List.map_toArray, List.map_cons, List.map_nil]); first | done | rfl | (simp only [List.length_drop, List.length_take]; rfl)) ?_; (with_reducible refine (impl_isNode.calls k _ _ l0 a1 false _ ?side1 ?side2 A3.out).mono ?_); (case side1 => exact kc); (case side2 => exact HC0.out); rintro e w30 ⟨rfl, hb⟩; refine ⟨_, rfl, ?_⟩; have n0_ := Aside0.mk (Kd.R_below (by (with_reducible repeat (first | apply Kd.R_alloc | apply Kd.R_drewN | apply Kd.R_drew)); exact HO222.out) hb); have n1_ := Aside0.mk (blk_below (g := gb219) (o := .cells #[.slice A0 l0.length c0] 29 (0, 0)) bk hb); have n2_ := Aside0.mk (below_step bb hb); clear HO222; clear BK219; clear HB; have HO222 := n0_; have BK219 := n1_; have HB := n2_; clear n0_ n1_ n2_; (try clear hb)))
  go_ret
  exact ⟨_, by first | rfl | (simp [errW_none, errW_some] <;> rfl) | (simp [*, errW_none, errW_some] <;> rfl), by (with_reducible repeat (first | apply Kd.R_alloc | apply Kd.R_drewN | apply Kd.R_drew)); exact HO222.out, bb⟩

end Go.Proofs.Ytbbppknnkghkjaa.PFnBelow
