/- Printed by a program of this session out of the translation: each Go function as a Lean function, with the proof that Go comes to just its answer (no condition beyond what each theorem says). (squeezed) -/
import Derived.Test.YtbbppknnkghkjaaPFnNumbersx0
import Derived.Test.YtbbppknnkghkjaaPFnNumbersx1
import Derived.Test.YtbbppknnkghkjaaPFnNumbersx2
import Derived.Test.YtbbppknnkghkjaaPFnNumbersx4
namespace Go.Proofs.Ytbbppknnkghkjaa.PFnNumbers
open Go.RowKit Go.Proofs.YtbbppknnkghkjaaW.PrintWords Go.Proofs.YtbbppknnkghkjaaW.PrintLast Go.Proofs.YtbbppknnkghkjaaW.PrintMore Go.Proofs.Ytbbppknnkghkjaa.Kit
attribute [local go_sem] max2_int min2_int max_two min_two max_three min_three max_four min_four   -- for this text's walks alone
set_option linter.unusedVariables false
set_option linter.unusedSimpArgs false

attribute [local go_sem high] eqA50
/-! ### spec_l01New: function 89 -/
def spec_l01New.l0 : Nat → List Int → Int → Int → Option (List Int × Int × Int)
 | 0, _, _, _ => none
 | k + 1, x0, x3, x4 => if x4 < (x0.length : Int) then (if x4 < 4000 then (if 0 ≤ x4 then (spec_l01New.l0 k x0 (Go.bits .and .i64 (wrap64 ((wrap64 ((wrap64 (x3 * 131)) + (wrap64 (rd x0 x4)))) + 7)) 1073741823) (wrap64 (x4 + 1))) else (none)) else (some (x0, 0, x3))) else (some (x0, 0, x3))
def spec_l01New.f (k : Nat) (l0 : List Int) : Option (List Int × Int × Int) := spec_l01New.l0 k l0 (wrap64 (98663 + (l0.length : Int))) 0
set_option maxHeartbeats 8000000 in
set_option maxRecDepth 100000 in
theorem spec_l01New.calls (k : Nat) (A0 : Option Addr) (c0 : Nat) (l0 : List Int) (r1 : List Int) (r2 : Int) (r3 : Int) (w0 w : World) (hB : Below w0.heap.size w0 w) (hr0 : Kd.C (Kd.int .u8) w0 A0 l0.length l0) (hc0 : l0.length ≤ c0) (h : spec_l01New.f k l0 = some (r1, r2, r3)) :
  Calls Try.prog 89 #[.slice A0 l0.length c0] w fun e w' => ∃ g_ : Nat, e = .returned (.pointer (some ⟨g_, 0, none⟩)) ∧ IsS109 w0 w' g_ r1 r2 r3 ∧ Below w0.heap.size w0 w' ∧ Below w.heap.size w w' := by
 have hu109 := Try.underlying109
 have HR0 := Aside0.mk hr0
 have HC0 := Aside0.mk hc0
 clear hr0 hc0
 have HBW := Aside0.mk (Below.refl w.heap.size w)
 have HW0 := Aside0.mk hB.size
 have HB := Aside0.mk hB
 clear hB
 have H : (spec_l01New.l0 k l0 (wrap64 (98663 + (l0.length : Int))) 0) = some (r1, r2, r3) := h
 clear h
 have H' := Aside0.mk H
 clear H
 go_enter Try.func89, Try.ntmps89
 go_wp2
 go_loopg [3, 4] k (fun kq v3 v4 w' => ∃ (x3_1 : Int) (x4_1 : Int), v3 = .int .i64 x3_1 ∧ v4 = .int .i64 x4_1 ∧ Aside0 (spec_l01New.l0 kq l0 x3_1 x4_1 = some (r1, r2, r3)) ∧ Aside0 (kq ≤ k) ∧ Aside0 (Below w.heap.size w w') ∧ Aside0 (Below w0.heap.size w0 w'))
 case atStart => exact ⟨(wrap64 (98663 + (l0.length : Int))), (0), (by first | rfl | (simp; done) | (simp [*]; done)), (by first | rfl | (simp; done) | (simp [*]; done)), H', ⟨Nat.le_refl _⟩, ⟨by repeat (first | (with_reducible first | exact HBW.out | apply below_alloc | apply pw_below_drewN | apply below_drew1) | exact HBW.out)⟩, ⟨bb⟩⟩
 case round =>
  clear H'
  obtain ⟨x3_1, x4_1, rfl, rfl, HA, HK1, HBW, HB⟩ := hrel
  cases gk with
  | zero => exact absurd HA.out (by simp [spec_l01New.l0])
  | succ k1 =>
   have H := HA.out
   clear HA
   simp only [spec_l01New.l0] at H
   by_cases c2 : x4_1 < (l0.length : Int)
   ·rw [if_pos c2] at H
    have c2b0 : decide (x4_1 < (l0.length : Int)) = true := decide_eq_true c2
    clear c2
    by_cases c3 : x4_1 < 4000
    ·rw [if_pos c3] at H
     have c3b0 : decide (x4_1 < 4000) = true := decide_eq_true c3
     clear c3
     by_cases c4 : 0 ≤ x4_1
     ·rw [if_pos c4] at H
      have c4b0 : decide (0 ≤ x4_1) = true := decide_eq_true c4
      clear c4
      have H' := Aside0.mk H
      clear H
      have p163 : 0 ≤ (x4_1 : Int) := of_decide_eq_true (by first | (with_reducible assumption) | assumption)
      have q163 : x4_1 < (l0.length : Int) := of_decide_eq_true (by first | (with_reducible assumption) | assumption)
      obtain ⟨ad163, e163, hx163_0⟩ := Kd.at_int HR0.out x4_1 p163 q163
      cases e163
      replace hx163_0 := pw_cell_below HB.out hx163_0
      replace p163 := eq_true p163
      replace q163 := eq_true q163
      go_wp2
      go_roundg k1
      case measure => have := HK1.out; omega
      case rel => exact ⟨(Go.bits .and .i64 (wrap64 ((wrap64 ((wrap64 (x3_1 * 131)) + (wrap64 (rd l0 x4_1)))) + 7)) 1073741823), (wrap64 (x4_1 + 1)), (by first | rfl | (simp; done) | (simp [*]; done)), (by first | rfl | (simp; done) | (simp [*]; done)), H', ⟨by have := HK1.out; omega⟩, ⟨by repeat (first | (with_reducible first | exact HBW.out | apply below_alloc | apply pw_below_drewN | apply below_drew1) | exact HBW.out)⟩, ⟨bb⟩⟩
     ·rw [if_neg c4] at H
      exact absurd H (by simp)
    ·rw [if_neg c3] at H
     have c3b0 : decide (x4_1 < 4000) = false := decide_eq_false c3
     clear c3
     simp only [Option.some.injEq, Prod.mk.injEq] at H
     obtain ⟨rfl, rfl, rfl⟩ := H
     go_wp2_with (first | ((with_reducible refine gate_dst (N := 31) rfl ?_); refine box_event ?hg (N := 31) ?hd (cs := #[.slice A0 l0.length c0, .int .i64 0, .int .i64 x3_1]) (t := 109) ?hr ?_; (case hd => rfl); (case hg => rfl); (case hr => first | (go_simp; done) | (go_simp; rfl)); intro gb164 hg w5 hbox hb; have n0_ := Aside0.mk (below_step HBW.out hb); have n1_ := Aside0.mk (below_step bb hb); have n2_ := Aside0.mk (hbox); have n3_ := Aside0.mk ((by rw [hg]; exact (below_size (by repeat (first | (with_reducible first | exact HBW.out | apply below_alloc | apply pw_below_drewN | apply below_drew1) | exact HBW.out))) : w.heap.size ≤ gb164)); have n4_ := Aside0.mk ((Nat.le_trans HW0.out (by rw [hg]; exact (below_size (by repeat (first | (with_reducible first | exact HBW.out | apply below_alloc | apply pw_below_drewN | apply below_drew1) | exact HBW.out))) : w.heap.size ≤ gb164) : w0.heap.size ≤ gb164)); clear HBW; clear HB; have HBW := n0_; have HB := n1_; have BK164 := n2_; have GW164 := n3_; have GE164 := n4_; clear n0_ n1_ n2_ n3_ n4_; clear hb hbox hg))
     go_ret
     exact ⟨_, rfl, (show IsS109 w0 _ gb164 l0 0 x3_1 from ⟨_, _, by exact bk, GE164.out, HR0.out⟩), bb, by repeat (first | (with_reducible first | exact HBW.out | apply below_alloc | apply pw_below_drewN | apply below_drew1 | refine below_set ?_ GW164.out) | exact HBW.out)⟩
   ·rw [if_neg c2] at H
    have c2b0 : decide (x4_1 < (l0.length : Int)) = false := decide_eq_false c2
    clear c2
    simp only [Option.some.injEq, Prod.mk.injEq] at H
    obtain ⟨rfl, rfl, rfl⟩ := H
    go_wp2_with (first | ((with_reducible refine gate_dst (N := 31) rfl ?_); refine box_event ?hg (N := 31) ?hd (cs := #[.slice A0 l0.length c0, .int .i64 0, .int .i64 x3_1]) (t := 109) ?hr ?_; (case hd => rfl); (case hg => rfl); (case hr => first | (go_simp; done) | (go_simp; rfl)); intro gb165 hg w6 hbox hb; have n0_ := Aside0.mk (below_step HBW.out hb); have n1_ := Aside0.mk (below_step bb hb); have n2_ := Aside0.mk (hbox); have n3_ := Aside0.mk ((by rw [hg]; exact (below_size (by repeat (first | (with_reducible first | exact HBW.out | apply below_alloc | apply pw_below_drewN | apply below_drew1) | exact HBW.out))) : w.heap.size ≤ gb165)); have n4_ := Aside0.mk ((Nat.le_trans HW0.out (by rw [hg]; exact (below_size (by repeat (first | (with_reducible first | exact HBW.out | apply below_alloc | apply pw_below_drewN | apply below_drew1) | exact HBW.out))) : w.heap.size ≤ gb165) : w0.heap.size ≤ gb165)); clear HBW; clear HB; have HBW := n0_; have HB := n1_; have BK165 := n2_; have GW165 := n3_; have GE165 := n4_; clear n0_ n1_ n2_ n3_ n4_; clear hb hbox hg))
    go_ret
    exact ⟨_, rfl, (show IsS109 w0 _ gb165 l0 0 x3_1 from ⟨_, _, by exact bk, GE165.out, HR0.out⟩), bb, by repeat (first | (with_reducible first | exact HBW.out | apply below_alloc | apply pw_below_drewN | apply below_drew1 | refine below_set ?_ GW165.out) | exact HBW.out)⟩

/-! ### spec_DrawTree: function 36 -/
def spec_DrawTree.f (k : Nat) (l0 : List Int) : Option ((List (S50))) := (spec_l01New.f k l0).bind fun bt166 => ((spec_l19Tree.f k bt166.1 bt166.2.1 bt166.2.2).bind fun bt170 => (some bt170.1))
set_option maxHeartbeats 8000000 in
set_option maxRecDepth 100000 in
theorem spec_DrawTree.calls (k : Nat) (A0 : Option Addr) (c0 : Nat) (l0 : List Int) (r : List (S50)) (w : World) (hr0 : Kd.C (Kd.int .u8) w A0 l0.length l0) (hc0 : l0.length ≤ c0) (h : spec_DrawTree.f k l0 = some r) :
  Calls Try.prog 36 #[.slice A0 l0.length c0] w fun e w' => ∃ v0_ : Value, e = .returned (v0_) ∧ Kd.R k50 50 w' w.heap.size (fun _ => True) v0_ r ∧ Below w.heap.size w w' := by
 have HR0 := Aside0.mk hr0
 have HC0 := Aside0.mk hc0
 clear hr0 hc0
 have HB := Aside0.mk (Below.refl w.heap.size w)
 have H : ((spec_l01New.f k l0).bind fun bt166 => ((spec_l19Tree.f k bt166.1 bt166.2.1 bt166.2.2).bind fun bt170 => (some bt170.1))) = some r := h
 clear h
 replace H := Option.bind_eq_some_iff.mp H
 obtain ⟨⟨t166, t167, t168⟩, A20, H⟩ := H
 replace H : ((spec_l19Tree.f k t166 t167 t168).bind fun bt170 => (some bt170.1)) = some r := H
 have A2 := Aside0.mk A20
 clear A20
 replace H := Option.bind_eq_some_iff.mp H
 obtain ⟨⟨t170, t173, t174⟩, A30, H⟩ := H
 replace H : (some t170) = some r := H
 have A3 := Aside0.mk A30
 clear A30
 obtain rfl := Option.some.inj H
 go_enter Try.func36, Try.ntmps36
 go_wp2_with (first | ((with_reducible refine gate_callee (f := 89) rfl ?_); refine goesL_ (some 4) rfl rfl Try.func89 (by kernel_rfl) rfl #[.slice A0 l0.length c0] rfl (by (try simp only [List.map_toArray, List.map_cons, List.map_nil]); first | done | rfl | (simp only [List.length_drop, List.length_take]; rfl)) ?_; (with_reducible refine (spec_l01New.calls k _ _ l0 t166 t167 t168 w _ ?side1 ?side2 ?side3 A2.out).mono ?_); (case side1 => exact bb); (case side2 => exact HR0.out); (case side3 => exact HC0.out); rintro e w4 ⟨g169, rfl, hi, hb, hb2⟩; refine ⟨_, rfl, ?_⟩; have n0_ := Aside0.mk (hb); have n1_ := Aside0.mk (hi); clear HB; have HB := n0_; have HI169 := n1_; clear n0_ n1_; (try clear hb); (try clear hb2); (try clear hk); (try clear hi)) | ((with_reducible refine gate_callee (f := 88) rfl ?_); refine goesL_ (some 5) rfl rfl Try.func88 (by kernel_rfl) rfl #[.pointer (some ⟨g169, 0, none⟩)] rfl (by (try simp only [List.map_toArray, List.map_cons, List.map_nil]); first | done | rfl | (simp only [List.length_drop, List.length_take]; rfl)) ?_; (with_reducible refine (spec_l19Tree.calls k g169 t166 t167 t168 t170 t173 t174 w _ ?side1 ?side2 A3.out).mono ?_); (case side1 => repeat (first | (with_reducible first | exact HI169.out | apply IsS109.alloc | apply IsS109.drewN | apply IsS109.drew | apply IsS109.set_1 | apply IsS109.set_2) | exact HI169.out)); (case side2 => repeat (first | (with_reducible first | exact HB.out | apply below_alloc | apply pw_below_drewN | apply below_drew1 | refine below_set ?_ (IsS109.ge HI169.out)) | exact HB.out)); rintro e w5 ⟨v171, rfl, ho0, hi, hb, hk⟩; refine ⟨_, rfl, ?_⟩; have n0_ := Aside0.mk (Kd.R_lower ho0 (below_size (by repeat (first | (with_reducible first | exact HB.out | apply below_alloc | apply pw_below_drewN | apply below_drew1 | refine below_set ?_ (IsS109.ge HI169.out)) | exact HB.out)))); have n1_ := Aside0.mk (hb); have n2_ := Aside0.mk (hi); clear HB; clear HI169; have HO172 := n0_; have HB := n1_; have HI169 := n2_; clear n0_ n1_ n2_; (try clear hb); (try clear hb2); (try clear hk); (try clear hi); (try clear ho0)))
 go_ret
 exact ⟨_, by first | rfl | (simp [errW_none, errW_some] <;> rfl) | (simp [*, errW_none, errW_some] <;> rfl), by (with_reducible repeat (first | apply Kd.R_alloc | apply Kd.R_drewN | apply Kd.R_drew)); exact HO172.out, by repeat (first | (with_reducible first | exact HB.out | apply below_alloc | apply pw_below_drewN | apply below_drew1 | refine below_set ?_ (IsS109.ge HI169.out)) | exact HB.out)⟩

/-! ### impl_within: function 94 -/
def impl_within.f (a0 : Int) (a1 : Int) (a2 : Int) : Option (Bool) := if a0 ≥ a1 then (some (decide (a0 ≤ a2))) else (some false)
set_option maxHeartbeats 8000000 in
set_option maxRecDepth 100000 in
theorem impl_within.calls (a0 : Int) (a1 : Int) (a2 : Int) (r : Bool) (w : World) (h : impl_within.f a0 a1 a2 = some r) :
  Calls Try.prog 94 #[.int .i64 a0, .int .i64 a1, .int .i64 a2] w fun e w' => e = .returned (.bool r) ∧ Drawn0 w w' := by
 have H : (if a0 ≥ a1 then (some (decide (a0 ≤ a2))) else (some false)) = some r := h
 clear h
 by_cases c4 : a0 ≥ a1
 ·rw [if_pos c4] at H
  have c4b0 : decide (a1 ≤ a0) = true := decide_eq_true c4
  clear c4
  obtain rfl := Option.some.inj H
  go_enter Try.func94, Try.ntmps94
  go_wp2
  go_ret
  exact ⟨by first | rfl | (simp; done) | (simp [*]; done), by repeat (first | exact Drawn0.refl _ | apply Drawn0.step)⟩
 ·rw [if_neg c4] at H
  have c4b0 : decide (a1 ≤ a0) = false := decide_eq_false c4
  clear c4
  obtain rfl := Option.some.inj H
  go_enter Try.func94, Try.ntmps94
  go_wp2
  go_ret
  exact ⟨by first | rfl | (simp; done) | (simp [*]; done), by repeat (first | exact Drawn0.refl _ | apply Drawn0.step)⟩

/-! ### impl_Node_impl_TreeOk_1: function 95, handed function 96 -/
def impl_Node_impl_TreeOk_1.f (l0 : List S50) (a0 a1 a2 : Int) : Option (Bool) := some (l0.any fun x => decide (x.f0 = a0) && decide (x.f1 = a1))
theorem impl_Node_impl_TreeOk_1.calls (A0 : Option Addr) (c0 : Nat) (l0 : List S50) (gb : Nat) (a0 a1 a2 : Int) (r : Bool) (w : World) (hr0 : Kd.C k50 w A0 l0.length l0) (hc0 : l0.length ≤ c0)
  (hb : w.heap[gb]? = some (.cells #[.int .i64 a0, .int .i64 a1, .int .i64 a2] 50 (0, 0))) (h : impl_Node_impl_TreeOk_1.f l0 a0 a1 a2 = some r) :
  Calls Try.prog 95 #[.slice A0 l0.length c0, .func (.func 96) #[] #[.pointer (some ⟨gb, 0, none⟩)]] w fun e w' => e = .returned (.bool r) ∧ Below w.heap.size w w' := by
 injection h with h
 subst h
 have hn : Fns.Nodes w A0 (l0.map fun x => (x.f0, x.f1, x.f2)) := by
  refine ⟨by rw [List.length_map]; exact hr0.2.1, fun hp => ?_⟩
  rw [List.length_map] at hp
  obtain ⟨ad, e, _⟩ := at_T50 hr0 0 (by omega) (by omega)
  refine ⟨ad, e, fun j hj => ?_⟩
  rw [List.length_map] at hj
  obtain ⟨ad', e', h0, h1, h2⟩ := at_T50 hr0 (j : Int) (by omega) (by omega)
  rw [e] at e'
  injection e' with e'
  subst e'
  have hx : rd_T50 l0 (j : Int) = l0[j] := by unfold rd_T50; simp [List.getD_eq_getElem?_getD, hj]
  rw [hx] at h0 h1 h2
  simp only [List.getElem_map]
  simp only [Int.toNat_natCast] at h0 h1 h2
  exact ⟨h0, h1, h2⟩
 have hh := Fns.contains_node gb a0 a1 a2 A0 c0 _ w hn (by rw [List.length_map]; exact hc0) hb
 rw [List.length_map, List.any_map] at hh
 exact hh

/-! ### impl_TreeOk: function 40 -/
mutual
def impl_TreeOk.j0 : Nat → List (S50) → Bool → Option (Bool)
 | 0, _, _ => none
 | k + 1, x0, x16 => if x16 = true then (some false) else (if 1 ≤ (x0.length : Int) then ((some (x0.drop 1 : List (S50))).bind fun y177 => (impl_TreeOk.l0 k x0 y177 (y177.length : Int) 0)) else (none))
def impl_TreeOk.l0 : Nat → List (S50) → List (S50) → Int → Int → Option (Bool)
 | 0, _, _, _, _ => none
 | k + 1, x0, x18, x19, x20 => if x20 < x19 then (if 0 ≤ x20 then (if x20 < (x18.length : Int) then (if 0 ≤ (wrap64 (x20 + 1)) then (if (wrap64 (x20 + 1)) ≤ (x0.length : Int) then ((some (x0.take ((wrap64 (x20 + 1)) : Int).toNat : List (S50))).bind fun y183 => ((impl_within.f ((rd_T50 x18 x20).f0) 0 x20).bind fun t187 => (if t187 = true then (if 0 ≤ ((rd_T50 x18 x20).f0) then (if ((rd_T50 x18 x20).f0) < (y183.length : Int) then (if ((rd_T50 y183 ((rd_T50 x18 x20).f0)).f2) = 0 then ((impl_within.f ((rd_T50 x18 x20).f1) 0 3).bind fun t189 => (if t189 = true then ((impl_within.f ((rd_T50 x18 x20).f2) 0 4).bind fun t190 => (impl_TreeOk.j2 k x0 y183 x18 x19 x20 (!t190) ((rd_T50 x18 x20).f0) ((rd_T50 x18 x20).f1) ((rd_T50 x18 x20).f2))) else (impl_TreeOk.j2 k x0 y183 x18 x19 x20 true ((rd_T50 x18 x20).f0) ((rd_T50 x18 x20).f1) ((rd_T50 x18 x20).f2)))) else (impl_TreeOk.j2 k x0 y183 x18 x19 x20 true ((rd_T50 x18 x20).f0) ((rd_T50 x18 x20).f1) ((rd_T50 x18 x20).f2))) else (none)) else (none)) else (impl_TreeOk.j2 k x0 y183 x18 x19 x20 true ((rd_T50 x18 x20).f0) ((rd_T50 x18 x20).f1) ((rd_T50 x18 x20).f2))))) else (none)) else (none)) else (none)) else (none)) else (some true)
def impl_TreeOk.j2 : Nat → List (S50) → List (S50) → List (S50) → Int → Int → Bool → Int → Int → Int → Option (Bool)
 | 0, _, _, _, _, _, _, _, _, _ => none
 | k + 1, x0, x5, x18, x19, x20, x54, x183000, x183001, x183002 => if x54 = true then (some false) else ((impl_Node_impl_TreeOk_1.f x5 x183000 x183001 x183002).bind fun t191 => (if t191 = true then (some false) else (impl_TreeOk.l0 k x0 x18 x19 (wrap64 (x20 + 1)))))
end
def impl_TreeOk.f (k : Nat) (l0 : List (S50)) : Option (Bool) := (impl_within.f (l0.length : Int) 1 12).bind fun t175 => (if t175 = true then (if 0 < (l0.length : Int) then (impl_TreeOk.j0 k l0 (!(((rd_T50 l0 0).f0) == (-1)) || (!(((rd_T50 l0 0).f1) == 0) || (!(((rd_T50 l0 0).f2) == 0))))) else (none)) else (impl_TreeOk.j0 k l0 true))
set_option maxHeartbeats 8000000 in
set_option maxRecDepth 100000 in
theorem impl_TreeOk.calls (k : Nat) (A0 : Option Addr) (c0 : Nat) (l0 : List (S50)) (r : Bool) (w : World) (hr0 : Kd.C k50 w A0 l0.length l0) (hc0 : l0.length ≤ c0) (h : impl_TreeOk.f k l0 = some r) :
  Calls Try.prog 40 #[.slice A0 l0.length c0] w fun e w' => e = .returned (.bool r) ∧ Below w.heap.size w w' := by
 have hu50 := Try.underlying50
 have HR0 := Aside0.mk hr0
 have HC0 := Aside0.mk hc0
 clear hr0 hc0
 have HB := Aside0.mk (Below.refl w.heap.size w)
 have H : ((impl_within.f (l0.length : Int) 1 12).bind fun t175 => (if t175 = true then (if 0 < (l0.length : Int) then (impl_TreeOk.j0 k l0 (!(((rd_T50 l0 0).f0) == (-1)) || (!(((rd_T50 l0 0).f1) == 0) || (!(((rd_T50 l0 0).f2) == 0))))) else (none)) else (impl_TreeOk.j0 k l0 true))) = some r := h
 clear h
 have HC2 := Aside0.mk H
 clear H
 go_enter Try.func40, Try.ntmps40
 go_upto_region 1 with (fail)
 go_cut [16] (fun v16 wc => ∃ (kq : Nat) (x16_1 : Bool), v16 = .bool x16_1 ∧ Aside0 (impl_TreeOk.j0 kq l0 x16_1 = some r) ∧ Aside0 (kq ≤ k) ∧ Aside0 (Below w.heap.size w wc))
 case first =>
  have H := HC2.out
  clear HC2
  replace H := Option.bind_eq_some_iff.mp H
  obtain ⟨t175, A30, H⟩ := H
  replace H : (if t175 = true then (if 0 < (l0.length : Int) then (impl_TreeOk.j0 k l0 (!(((rd_T50 l0 0).f0) == (-1)) || (!(((rd_T50 l0 0).f1) == 0) || (!(((rd_T50 l0 0).f2) == 0))))) else (none)) else (impl_TreeOk.j0 k l0 true)) = some r := H
  have A3 := Aside0.mk A30
  clear A30
  by_cases c4 : t175 = true
  ·subst c4
   have H1 : (if 0 < (l0.length : Int) then (impl_TreeOk.j0 k l0 (!(((rd_T50 l0 0).f0) == (-1)) || (!(((rd_T50 l0 0).f1) == 0) || (!(((rd_T50 l0 0).f2) == 0))))) else (none)) = some r := by rw [if_pos rfl] at H; exact H
   clear H
   have H := H1
   clear H1
   by_cases c5 : 0 < (l0.length : Int)
   ·rw [if_pos c5] at H
    have c5b0 : decide (0 < (l0.length : Int)) = true := decide_eq_true c5
    have c5b1 : decide (0 < l0.length) = true := decide_eq_true (by omega)
    clear c5
    (first | rw [c5b0] | (simp only [i64_w, i32_w]; rw [c5b0]) | skip)
    have H' := Aside0.mk H
    clear H
    go_wp2_with (first | ((with_reducible refine gate_callee (f := 94) rfl ?_); refine goesL_ (some 8) rfl rfl Try.func94 (by kernel_rfl) rfl #[.int .i64 (l0.length : Int), .int .i64 1, .int .i64 12] rfl (by (try simp only [List.map_toArray, List.map_cons, List.map_nil]); first | done | rfl | (simp only [List.length_drop, List.length_take]; rfl)) ?_; (with_reducible refine (impl_within.calls (l0.length : Int) 1 12 true _ A3.out).mono ?_); rintro e w' ⟨rfl, ⟨nd, rfl⟩⟩; refine ⟨_, rfl, ?_⟩; have p176 : 0 ≤ (0 : Int) := (by omega); have q176 : 0 < (l0.length : Int) := of_decide_eq_true (by first | (with_reducible assumption) | assumption); obtain ⟨ad176, e176, hx176_0, hx176_1, hx176_2⟩ := at_T50 HR0.out 0 p176 q176; cases e176; have qi176 : (0 < l0.length) = True := eq_true (by omega); (try rw [show ((0 : Int)).toNat = 0 from rfl] at hx176_0); (try rw [show 0 * 3 = 0 from rfl] at hx176_0); (try rw [Addr.add_zero'] at hx176_0); (try rw [show ((0 : Int)).toNat = 0 from rfl] at hx176_1); (try rw [show 0 * 3 = 0 from rfl] at hx176_1); (try rw [Addr.add_zero'] at hx176_1); (try rw [show ((0 : Int)).toNat = 0 from rfl] at hx176_2); (try rw [show 0 * 3 = 0 from rfl] at hx176_2); (try rw [Addr.add_zero'] at hx176_2); replace hx176_0 := pw_cell_below HB.out hx176_0; replace hx176_1 := pw_cell_below HB.out hx176_1; replace hx176_2 := pw_cell_below HB.out hx176_2; replace p176 := eq_true p176; replace q176 := eq_true q176))
    go_meet
    case rel => exact ⟨_, ((!(((rd_T50 l0 0).f0) == (-1)) || (!(((rd_T50 l0 0).f1) == 0) || (!(((rd_T50 l0 0).f2) == 0))))), (by first | rfl | (simp; done) | (simp [*]; done)), H', ⟨by first | omega | exact Nat.le_refl _⟩, ⟨bb⟩⟩
   ·rw [if_neg c5] at H
    exact absurd H (by simp)
  ·replace c4 := Bool.eq_false_iff.mpr c4
   subst c4
   have H1 : (impl_TreeOk.j0 k l0 true) = some r := by rw [if_neg (show ¬ (false = true) by decide)] at H; exact H
   clear H
   have H := H1
   clear H1
   have H' := Aside0.mk H
   clear H
   go_wp2_with (first | ((with_reducible refine gate_callee (f := 94) rfl ?_); refine goesL_ (some 8) rfl rfl Try.func94 (by kernel_rfl) rfl #[.int .i64 (l0.length : Int), .int .i64 1, .int .i64 12] rfl (by (try simp only [List.map_toArray, List.map_cons, List.map_nil]); first | done | rfl | (simp only [List.length_drop, List.length_take]; rfl)) ?_; (with_reducible refine (impl_within.calls (l0.length : Int) 1 12 false _ A3.out).mono ?_); rintro e w' ⟨rfl, ⟨nd, rfl⟩⟩; refine ⟨_, rfl, ?_⟩))
   go_meet
   case rel => exact ⟨_, (true), (by first | rfl | (simp; done) | (simp [*]; done)), H', ⟨by first | omega | exact Nat.le_refl _⟩, ⟨bb⟩⟩
 case rest =>
  clear HC2
  try clear p1
  try clear q1
  try clear hx1
  try clear qi1
  try clear p2
  try clear c4
  try clear c5
  try clear c5b0
  try clear c5b1
  try clear hx176_0
  try clear hx176_1
  try clear hx176_2
  try clear p176
  try clear q176
  obtain ⟨kq, x16_1, rfl, HA, HJ1, HB⟩ := hcut
  cases kq with
  | zero => exact absurd HA.out (by simp [impl_TreeOk.j0])
  | succ kj1 =>
   have H := HA.out
   clear HA
   simp only [impl_TreeOk.j0] at H
   by_cases c6 : x16_1 = true
   ·subst c6
    have H1 : (some false) = some r := by rw [if_pos rfl] at H; exact H
    clear H
    have H := H1
    clear H1
    obtain rfl := Option.some.inj H
    go_wp2
    go_ret
    exact ⟨by first | rfl | (simp [errW_none, errW_some] <;> rfl) | (simp [*, errW_none, errW_some] <;> rfl), bb⟩
   ·replace c6 := Bool.eq_false_iff.mpr c6
    subst c6
    have H1 : (if 1 ≤ (l0.length : Int) then ((some (l0.drop 1 : List (S50))).bind fun y177 => (impl_TreeOk.l0 kj1 l0 y177 (y177.length : Int) 0)) else (none)) = some r := by rw [if_neg (show ¬ (false = true) by decide)] at H; exact H
    clear H
    have H := H1
    clear H1
    by_cases c7 : 1 ≤ (l0.length : Int)
    ·rw [if_pos c7] at H
     have c7b0 := eq_true c7
     have c7b1 : decide (1 ≤ (l0.length : Int)) = true := decide_eq_true c7
     clear c7
     obtain ⟨y177, hy177⟩ : ∃ y_ : List (S50), y_ = (l0.drop 1) := ⟨_, rfl⟩
     replace H : (impl_TreeOk.l0 kj1 l0 y177 (y177.length : Int) 0) = some r := by first | (rw [hy177]; with_reducible exact H) | (have H2_ := (Option.bind_some _ _).symm.trans H; rw [hy177]; with_reducible exact H2_) | (have H2_ := (Option.bind_some _ _).symm.trans H; with_reducible exact H2_) | with_reducible exact H | (rw [hy177]; exact H) | exact H
     have Ny177 := Aside0.mk hy177
     clear hy177
     have H' := Aside0.mk H
     clear H
     have q8 : (1 : Int) ≤ ((l0.length : Int) : Int) := of_decide_eq_true (by first | (with_reducible assumption) | assumption)
     obtain ⟨i08, hi08, _, hsz8, _⟩ := info_parts info50
     have hroom8 : l0.length ≤ c0 := HC0.out
     have hC8 : Kd.C k50 _ A0 l0.length l0 := HR0.out
     have hcut8 := cut_from (P := Try.prog) 29 50 .i64 Try.underlying29 hi08 3 hsz8 A0 l0.length c0 1 (by omega) q8
     have hr8 := Kd.C_drop (m := (1 : Int).toNat) (c := c0) hC8 (by omega) hroom8
     obtain ⟨A8, hA8⟩ : ∃ A1, A1 = (if c0 = (1 : Int).toNat then A0 else (A0 : Option Addr).map (·.add ((1 : Int).toNat * 3))) := ⟨_, rfl⟩
     obtain ⟨c8, hc8⟩ : ∃ c1, c1 = c0 - (1 : Int).toNat := ⟨_, rfl⟩
     have hy8 : y177.length = l0.length - (1 : Int).toNat := (by rw [Ny177.out, List.length_drop] <;> omega)
     rw [show (l0).drop (1 : Int).toNat = y177 from Ny177.out.symm] at hr8
     replace hr8 : Kd.C k50 _ A8 y177.length y177 := (by rw [hA8]; exact hr8)
     rw [← hy8, ← hA8, ← hc8] at hcut8
     have HR180 := Aside0.mk hr8
     have HC180 := Aside0.mk (show y177.length ≤ c8 from by rw [hy8, hc8]; exact Nat.sub_le_sub_right hroom8 _)
     clear hr8 hC8 hroom8 hi08 hsz8 hc8
     have KY8 := Aside0.mk hy8
     have KA8 := Aside0.mk hA8
     clear hy8 hA8
     replace q8 := eq_true q8
     go_wp2
     go_loopg [20] kj1 (fun kq v20 w' => ∃ (x20_2 : Int), v20 = .int .i64 x20_2 ∧ Aside0 (impl_TreeOk.l0 kq l0 y177 (y177.length : Int) x20_2 = some r) ∧ Aside0 (kq ≤ kj1) ∧ Aside0 (Below w.heap.size w w'))
     case atStart => exact ⟨(0), (by first | rfl | (simp; done) | (simp [*]; done)), H', ⟨Nat.le_refl _⟩, ⟨bb⟩⟩
     case round =>
      clear H'
      try clear c1
      try clear p1
      try clear q1
      try clear hx1
      try clear qi1
      try clear p2
      try clear c4
      try clear c5
      try clear c5b0
      try clear c5b1
      try clear c6
      try clear c7
      try clear c7b0
      try clear c7b1
      try clear c8
      try clear q8
      try clear hx176_0
      try clear hx176_1
      try clear hx176_2
      try clear p1
      try clear p176
      try clear p2
      try clear q1
      try clear q176
      try clear q8
      obtain ⟨x20_2, rfl, HA, HK2, HB⟩ := hrel
      cases gk with
      | zero => exact absurd HA.out (by simp [impl_TreeOk.l0])
      | succ k2 =>
       have H := HA.out
       clear HA
       simp only [impl_TreeOk.l0] at H
       by_cases c9 : x20_2 < (y177.length : Int)
       ·rw [if_pos c9] at H
        have c9b0 : decide (x20_2 < (y177.length : Int)) = true := decide_eq_true c9
        clear c9
        by_cases c10 : 0 ≤ x20_2
        ·rw [if_pos c10] at H
         have c10b0 : decide (0 ≤ x20_2) = true := decide_eq_true c10
         clear c10
         by_cases c11 : x20_2 < (y177.length : Int)
         ·rw [if_pos c11] at H
          have c11b0 : decide (x20_2 < (y177.length : Int)) = true := decide_eq_true c11
          clear c11
          obtain ⟨ji12, hji12⟩ : ∃ j_ : Int, (wrap64 (x20_2 + 1)) = j_ := ⟨_, rfl⟩
          replace H : (if 0 ≤ (ji12) then (if (ji12) ≤ (l0.length : Int) then ((some (l0.take ((ji12) : Int).toNat : List (S50))).bind fun y183 => ((impl_within.f ((rd_T50 y177 x20_2).f0) 0 x20_2).bind fun t187 => (if t187 = true then (if 0 ≤ ((rd_T50 y177 x20_2).f0) then (if ((rd_T50 y177 x20_2).f0) < (y183.length : Int) then (if ((rd_T50 y183 ((rd_T50 y177 x20_2).f0)).f2) = 0 then ((impl_within.f ((rd_T50 y177 x20_2).f1) 0 3).bind fun t189 => (if t189 = true then ((impl_within.f ((rd_T50 y177 x20_2).f2) 0 4).bind fun t190 => (impl_TreeOk.j2 k2 l0 y183 y177 (y177.length : Int) x20_2 (!t190) ((rd_T50 y177 x20_2).f0) ((rd_T50 y177 x20_2).f1) ((rd_T50 y177 x20_2).f2))) else (impl_TreeOk.j2 k2 l0 y183 y177 (y177.length : Int) x20_2 true ((rd_T50 y177 x20_2).f0) ((rd_T50 y177 x20_2).f1) ((rd_T50 y177 x20_2).f2)))) else (impl_TreeOk.j2 k2 l0 y183 y177 (y177.length : Int) x20_2 true ((rd_T50 y177 x20_2).f0) ((rd_T50 y177 x20_2).f1) ((rd_T50 y177 x20_2).f2))) else (none)) else (none)) else (impl_TreeOk.j2 k2 l0 y183 y177 (y177.length : Int) x20_2 true ((rd_T50 y177 x20_2).f0) ((rd_T50 y177 x20_2).f1) ((rd_T50 y177 x20_2).f2))))) else (none)) else (none)) = some r := by first | (rw [hji12] at H; exact H) | (simp only [hji12] at H ⊢; exact H)
          have hji12w : (IntKind.i64.wrap (x20_2 + 1)) = ji12 := (i64_w _).trans hji12
          by_cases c13 : 0 ≤ (ji12)
          ·rw [if_pos c13] at H
           have c13b0 := eq_true c13
           have c13b1 : decide (0 ≤ (ji12)) = true := decide_eq_true c13
           clear c13
           by_cases c14 : (ji12) ≤ (l0.length : Int)
           ·rw [if_pos c14] at H
            have c14b0 := eq_true c14
            have c14b1 : decide ((ji12) ≤ (l0.length : Int)) = true := decide_eq_true c14
            clear c14
            obtain ⟨y183, hy183⟩ : ∃ y_ : List (S50), y_ = (l0.take ((ji12) : Int).toNat) := ⟨_, rfl⟩
            replace H : ((impl_within.f ((rd_T50 y177 x20_2).f0) 0 x20_2).bind fun t187 => (if t187 = true then (if 0 ≤ ((rd_T50 y177 x20_2).f0) then (if ((rd_T50 y177 x20_2).f0) < (y183.length : Int) then (if ((rd_T50 y183 ((rd_T50 y177 x20_2).f0)).f2) = 0 then ((impl_within.f ((rd_T50 y177 x20_2).f1) 0 3).bind fun t189 => (if t189 = true then ((impl_within.f ((rd_T50 y177 x20_2).f2) 0 4).bind fun t190 => (impl_TreeOk.j2 k2 l0 y183 y177 (y177.length : Int) x20_2 (!t190) ((rd_T50 y177 x20_2).f0) ((rd_T50 y177 x20_2).f1) ((rd_T50 y177 x20_2).f2))) else (impl_TreeOk.j2 k2 l0 y183 y177 (y177.length : Int) x20_2 true ((rd_T50 y177 x20_2).f0) ((rd_T50 y177 x20_2).f1) ((rd_T50 y177 x20_2).f2)))) else (impl_TreeOk.j2 k2 l0 y183 y177 (y177.length : Int) x20_2 true ((rd_T50 y177 x20_2).f0) ((rd_T50 y177 x20_2).f1) ((rd_T50 y177 x20_2).f2))) else (none)) else (none)) else (impl_TreeOk.j2 k2 l0 y183 y177 (y177.length : Int) x20_2 true ((rd_T50 y177 x20_2).f0) ((rd_T50 y177 x20_2).f1) ((rd_T50 y177 x20_2).f2)))) = some r := by first | (rw [hy183]; with_reducible exact H) | (have H2_ := (Option.bind_some _ _).symm.trans H; rw [hy183]; with_reducible exact H2_) | (have H2_ := (Option.bind_some _ _).symm.trans H; with_reducible exact H2_) | with_reducible exact H | (rw [hy183]; exact H) | exact H
            have Ny183 := Aside0.mk hy183
            clear hy183
            have HC15 := Aside0.mk H
            clear H
            have p181 : 0 ≤ (x20_2 : Int) := of_decide_eq_true (by first | (with_reducible assumption) | assumption)
            have q181 : x20_2 < (y177.length : Int) := of_decide_eq_true (by first | (with_reducible assumption) | assumption)
            obtain ⟨ad181, e181, hx181_0, hx181_1, hx181_2⟩ := at_T50 HR180.out x20_2 p181 q181
            cases e181
            replace hx181_0 := pw_cell_below HB.out hx181_0
            replace hx181_1 := pw_cell_below HB.out hx181_1
            replace hx181_2 := pw_cell_below HB.out hx181_2
            replace p181 := eq_true p181
            replace q181 := eq_true q181
            go_upto_region 7 with (first | ((with_reducible refine gate_dst (N := 4) rfl ?_); refine box_event ?hg (N := 4) ?hd (cs := #[.int .i64 0, .int .i64 0, .int .i64 0]) (t := 50) ?hr ?_; (case hd => rfl); (case hg => rfl); (case hr => first | (go_simp; done) | (go_simp; rfl)); intro gb182 hg w16 hbox hb; have n0_ := Aside0.mk (below_step bb hb); have n1_ := Aside0.mk (hbox); have n2_ := Aside0.mk ((by rw [hg]; exact (below_size bb) : w.heap.size ≤ gb182)); have n3_ := Aside0.mk ((by rw [hg]; exact (below_size bb) : w.heap.size ≤ gb182)); clear HB; have HB := n0_; have BK182 := n1_; have GW182 := n2_; have GE182 := n3_; clear n0_ n1_ n2_ n3_; clear hb hbox hg; obtain ⟨hcz17_0, hcz17_1, hcz17_2, hfz17_0, hfz17_1, hfz17_2⟩ := bx3 BK182.out) | ((with_reducible refine gate_store (t := 50) (p := 4) rfl ?_); refine store_event (t := 50) (p := 4) (v := ?vo_w18) (w1 := (((w16.setCell ⟨gb182, 0, none⟩ (.int .i64 ((rd_T50 y177 x20_2).f0))).setCell ⟨gb182, 1, none⟩ (.int .i64 ((rd_T50 y177 x20_2).f1))).setCell ⟨gb182, 2, none⟩ (.int .i64 ((rd_T50 y177 x20_2).f2)))) ?hg ?ho ?hn ?hr ?_; (case ho => rfl); (case hg => rfl); (case hn => rfl); (case hr => first | (go_simp; done) | (go_simp; rfl)); intro w18 hw; have n0_ : Aside0 (w18.heap[gb182]? = some (.cells #[.int .i64 ((rd_T50 y177 x20_2).f0), .int .i64 ((rd_T50 y177 x20_2).f1), .int .i64 ((rd_T50 y177 x20_2).f2)] 50 (0, 0))) := ⟨(by rw [hw]; exact (by (with_reducible repeat (first | refine blk_drewN ?_ _ | refine blk_drew ?_ | refine blk_alloc ?_ _)); refine blk_put (cs := #[.int .i64 ((rd_T50 y177 x20_2).f0), .int .i64 ((rd_T50 y177 x20_2).f1), .int .i64 0]) ?_ 2 _ rfl; (with_reducible repeat (first | refine blk_drewN ?_ _ | refine blk_drew ?_ | refine blk_alloc ?_ _)); refine blk_put (cs := #[.int .i64 ((rd_T50 y177 x20_2).f0), .int .i64 0, .int .i64 0]) ?_ 1 _ rfl; (with_reducible repeat (first | refine blk_drewN ?_ _ | refine blk_drew ?_ | refine blk_alloc ?_ _)); refine blk_put (cs := #[.int .i64 0, .int .i64 0, .int .i64 0]) ?_ 0 _ rfl; exact bk))⟩; have n1_ : Aside0 (Below w.heap.size w w18) := ⟨(by rw [hw]; exact bb)⟩; clear hw; clear BK182; clear HB; have BK182 := n0_; have HB := n1_; clear n0_ n1_; have q19 : ((ji12) : Int) ≤ ((l0.length : Int) : Int) := of_decide_eq_true (by first | (with_reducible assumption) | assumption); obtain ⟨i019, hi019, _, hsz19, _⟩ := info_parts info50; have hroom19 : l0.length ≤ c0 := HC0.out; have hC19 : Kd.C k50 _ A0 l0.length l0 := HR0.out; have hcut19 := cut_to (P := Try.prog) 29 50 .i64 Try.underlying29 hi019 A0 l0.length c0 (ji12) (of_decide_eq_true (by first | (with_reducible assumption) | assumption)) q19 hroom19; have hr19 := Kd.C_take (m := ((ji12) : Int).toNat) hC19 (by omega); have hy19 : y183.length = ((ji12) : Int).toNat := (by rw [Ny183.out, List.length_take]; omega); rw [← Ny183.out] at hr19; rw [← hy19] at hcut19; have HR186 := Aside0.mk hr19; have HC186 := Aside0.mk (show y183.length ≤ c0 from by omega); clear hr19 hC19 hroom19 hi019 hsz19; have KY19 := Aside0.mk hy19; clear hy19; replace q19 := eq_true q19))
            (try simp only [Act.put, List.setIfInBounds_toArray, List.set_cons_zero, List.set_cons_succ])
            go_cut [54] (fun v54 wc => ∃ (kq : Nat) (x54_14 : Bool), v54 = .bool x54_14 ∧ Aside0 (impl_TreeOk.j2 kq l0 y183 y177 (y177.length : Int) x20_2 x54_14 ((rd_T50 y177 x20_2).f0) ((rd_T50 y177 x20_2).f1) ((rd_T50 y177 x20_2).f2) = some r) ∧ Aside0 (kq ≤ k2) ∧ Aside0 (wc.heap[gb182]? = some (.cells #[.int .i64 ((rd_T50 y177 x20_2).f0), .int .i64 ((rd_T50 y177 x20_2).f1), .int .i64 ((rd_T50 y177 x20_2).f2)] 50 (0, 0))) ∧ Aside0 (Below w.heap.size w wc))
            case first =>
             have H := HC15.out
             clear HC15
             replace H := Option.bind_eq_some_iff.mp H
             obtain ⟨t187, A200, H⟩ := H
             replace H : (if t187 = true then (if 0 ≤ ((rd_T50 y177 x20_2).f0) then (if ((rd_T50 y177 x20_2).f0) < (y183.length : Int) then (if ((rd_T50 y183 ((rd_T50 y177 x20_2).f0)).f2) = 0 then ((impl_within.f ((rd_T50 y177 x20_2).f1) 0 3).bind fun t189 => (if t189 = true then ((impl_within.f ((rd_T50 y177 x20_2).f2) 0 4).bind fun t190 => (impl_TreeOk.j2 k2 l0 y183 y177 (y177.length : Int) x20_2 (!t190) ((rd_T50 y177 x20_2).f0) ((rd_T50 y177 x20_2).f1) ((rd_T50 y177 x20_2).f2))) else (impl_TreeOk.j2 k2 l0 y183 y177 (y177.length : Int) x20_2 true ((rd_T50 y177 x20_2).f0) ((rd_T50 y177 x20_2).f1) ((rd_T50 y177 x20_2).f2)))) else (impl_TreeOk.j2 k2 l0 y183 y177 (y177.length : Int) x20_2 true ((rd_T50 y177 x20_2).f0) ((rd_T50 y177 x20_2).f1) ((rd_T50 y177 x20_2).f2))) else (none)) else (none)) else (impl_TreeOk.j2 k2 l0 y183 y177 (y177.length : Int) x20_2 true ((rd_T50 y177 x20_2).f0) ((rd_T50 y177 x20_2).f1) ((rd_T50 y177 x20_2).f2))) = some r := H
             have A20 := Aside0.mk A200
             clear A200
             by_cases c21 : t187 = true
             ·subst c21
              have H1 : (if 0 ≤ ((rd_T50 y177 x20_2).f0) then (if ((rd_T50 y177 x20_2).f0) < (y183.length : Int) then (if ((rd_T50 y183 ((rd_T50 y177 x20_2).f0)).f2) = 0 then ((impl_within.f ((rd_T50 y177 x20_2).f1) 0 3).bind fun t189 => (if t189 = true then ((impl_within.f ((rd_T50 y177 x20_2).f2) 0 4).bind fun t190 => (impl_TreeOk.j2 k2 l0 y183 y177 (y177.length : Int) x20_2 (!t190) ((rd_T50 y177 x20_2).f0) ((rd_T50 y177 x20_2).f1) ((rd_T50 y177 x20_2).f2))) else (impl_TreeOk.j2 k2 l0 y183 y177 (y177.length : Int) x20_2 true ((rd_T50 y177 x20_2).f0) ((rd_T50 y177 x20_2).f1) ((rd_T50 y177 x20_2).f2)))) else (impl_TreeOk.j2 k2 l0 y183 y177 (y177.length : Int) x20_2 true ((rd_T50 y177 x20_2).f0) ((rd_T50 y177 x20_2).f1) ((rd_T50 y177 x20_2).f2))) else (none)) else (none)) = some r := by rw [if_pos rfl] at H; exact H
              clear H
              have H := H1
              clear H1
              by_cases c22 : 0 ≤ ((rd_T50 y177 x20_2).f0)
              ·rw [if_pos c22] at H
               have c22b0 : decide (0 ≤ ((rd_T50 y177 x20_2).f0)) = true := decide_eq_true c22
               clear c22
               (first | rw [c22b0] | (simp only [i64_w, i32_w]; rw [c22b0]) | skip)
               by_cases c23 : ((rd_T50 y177 x20_2).f0) < (y183.length : Int)
               ·rw [if_pos c23] at H
                have c23b0 : decide (((rd_T50 y177 x20_2).f0) < (y183.length : Int)) = true := decide_eq_true c23
                clear c23
                by_cases c24 : ((rd_T50 y183 ((rd_T50 y177 x20_2).f0)).f2) = 0
                ·rw [if_pos c24] at H
                 have c24b0 : (((rd_T50 y183 ((rd_T50 y177 x20_2).f0)).f2) == 0) = true := beq_iff_eq.mpr c24
                 have c24b1 : (((rd_T50 y183 ((rd_T50 y177 x20_2).f0)).f2) != 0) = false := bne_eq_false_iff_eq.mpr c24
                 clear c24
                 replace H := Option.bind_eq_some_iff.mp H
                 obtain ⟨t189, A250, H⟩ := H
                 replace H : (if t189 = true then ((impl_within.f ((rd_T50 y177 x20_2).f2) 0 4).bind fun t190 => (impl_TreeOk.j2 k2 l0 y183 y177 (y177.length : Int) x20_2 (!t190) ((rd_T50 y177 x20_2).f0) ((rd_T50 y177 x20_2).f1) ((rd_T50 y177 x20_2).f2))) else (impl_TreeOk.j2 k2 l0 y183 y177 (y177.length : Int) x20_2 true ((rd_T50 y177 x20_2).f0) ((rd_T50 y177 x20_2).f1) ((rd_T50 y177 x20_2).f2))) = some r := H
                 have A25 := Aside0.mk A250
                 clear A250
                 by_cases c26 : t189 = true
                 ·subst c26
                  have H1 : ((impl_within.f ((rd_T50 y177 x20_2).f2) 0 4).bind fun t190 => (impl_TreeOk.j2 k2 l0 y183 y177 (y177.length : Int) x20_2 (!t190) ((rd_T50 y177 x20_2).f0) ((rd_T50 y177 x20_2).f1) ((rd_T50 y177 x20_2).f2))) = some r := by rw [if_pos rfl] at H; exact H
                  clear H
                  have H := H1
                  clear H1
                  replace H := Option.bind_eq_some_iff.mp H
                  obtain ⟨t190, A270, H⟩ := H
                  replace H : (impl_TreeOk.j2 k2 l0 y183 y177 (y177.length : Int) x20_2 (!t190) ((rd_T50 y177 x20_2).f0) ((rd_T50 y177 x20_2).f1) ((rd_T50 y177 x20_2).f2)) = some r := H
                  have A27 := Aside0.mk A270
                  clear A270
                  have H' := Aside0.mk H
                  clear H
                  obtain ⟨hcz28_0, hcz28_1, hcz28_2, hfz28_0, hfz28_1, hfz28_2⟩ := bx3 BK182.out
                  go_wp2_with (first | ((with_reducible refine gate_callee (f := 94) rfl ?_); refine goesL_ (some 32) rfl rfl Try.func94 (by kernel_rfl) rfl #[.int .i64 ((rd_T50 y177 x20_2).f0), .int .i64 0, .int .i64 x20_2] rfl (by (try simp only [List.map_toArray, List.map_cons, List.map_nil]); first | done | rfl | (simp only [List.length_drop, List.length_take]; rfl)) ?_; (with_reducible refine (impl_within.calls ((rd_T50 y177 x20_2).f0) 0 x20_2 true _ A20.out).mono ?_); rintro e w' ⟨rfl, ⟨nd, rfl⟩⟩; refine ⟨_, rfl, ?_⟩; have p188 : 0 ≤ (((rd_T50 y177 x20_2).f0) : Int) := of_decide_eq_true (by first | (with_reducible assumption) | assumption); have q188 : ((rd_T50 y177 x20_2).f0) < (y183.length : Int) := of_decide_eq_true (by first | (with_reducible assumption) | assumption); obtain ⟨ad188, e188, hx188_0, hx188_1, hx188_2⟩ := at_T50 HR186.out ((rd_T50 y177 x20_2).f0) p188 q188; cases e188; replace hx188_0 := pw_cell_below HB.out hx188_0; replace hx188_1 := pw_cell_below HB.out hx188_1; replace hx188_2 := pw_cell_below HB.out hx188_2; replace p188 := eq_true p188; replace q188 := eq_true q188) | (go_at_call 94; (with_reducible refine (impl_within.calls ((rd_T50 y177 x20_2).f1) 0 3 true _ A25.out).mono ?_); rintro e w' ⟨rfl, ⟨nd, rfl⟩⟩) | (go_at_call 94; (with_reducible refine (impl_within.calls ((rd_T50 y177 x20_2).f2) 0 4 t190 _ A27.out).mono ?_); rintro e w' ⟨rfl, ⟨nd, rfl⟩⟩))
                  go_meet
                  case rel => exact ⟨_, (!t190), (by first | rfl | (simp; done) | (simp [*]; done)), H', ⟨by have := HJ1.out; have := HK2.out; first | omega | exact Nat.le_refl _⟩, ⟨by exact bk⟩, ⟨bb⟩⟩
                 ·replace c26 := Bool.eq_false_iff.mpr c26
                  subst c26
                  have H1 : (impl_TreeOk.j2 k2 l0 y183 y177 (y177.length : Int) x20_2 true ((rd_T50 y177 x20_2).f0) ((rd_T50 y177 x20_2).f1) ((rd_T50 y177 x20_2).f2)) = some r := by rw [if_neg (show ¬ (false = true) by decide)] at H; exact H
                  clear H
                  have H := H1
                  clear H1
                  have H' := Aside0.mk H
                  clear H
                  obtain ⟨hcz29_0, hcz29_1, hcz29_2, hfz29_0, hfz29_1, hfz29_2⟩ := bx3 BK182.out
                  go_wp2_with (first | ((with_reducible refine gate_callee (f := 94) rfl ?_); refine goesL_ (some 32) rfl rfl Try.func94 (by kernel_rfl) rfl #[.int .i64 ((rd_T50 y177 x20_2).f0), .int .i64 0, .int .i64 x20_2] rfl (by (try simp only [List.map_toArray, List.map_cons, List.map_nil]); first | done | rfl | (simp only [List.length_drop, List.length_take]; rfl)) ?_; (with_reducible refine (impl_within.calls ((rd_T50 y177 x20_2).f0) 0 x20_2 true _ A20.out).mono ?_); rintro e w' ⟨rfl, ⟨nd, rfl⟩⟩; refine ⟨_, rfl, ?_⟩; have p188 : 0 ≤ (((rd_T50 y177 x20_2).f0) : Int) := of_decide_eq_true (by first | (with_reducible assumption) | assumption); have q188 : ((rd_T50 y177 x20_2).f0) < (y183.length : Int) := of_decide_eq_true (by first | (with_reducible assumption) | assumption); obtain ⟨ad188, e188, hx188_0, hx188_1, hx188_2⟩ := at_T50 HR186.out ((rd_T50 y177 x20_2).f0) p188 q188; cases e188; replace hx188_0 := pw_cell_below HB.out hx188_0; replace hx188_1 := pw_cell_below HB.out hx188_1; replace hx188_2 := pw_cell_below HB.out hx188_2; replace p188 := eq_true p188; replace q188 := eq_true q188) | (go_at_call 94; (with_reducible refine (impl_within.calls ((rd_T50 y177 x20_2).f1) 0 3 false _ A25.out).mono ?_); rintro e w' ⟨rfl, ⟨nd, rfl⟩⟩))
                  go_meet
                  case rel => exact ⟨_, (true), (by first | rfl | (simp; done) | (simp [*]; done)), H', ⟨by have := HJ1.out; have := HK2.out; first | omega | exact Nat.le_refl _⟩, ⟨by exact bk⟩, ⟨bb⟩⟩
                ·rw [if_neg c24] at H
                 have c24b0 : (((rd_T50 y183 ((rd_T50 y177 x20_2).f0)).f2) == 0) = false := beq_eq_false_iff_ne.mpr c24
                 have c24b1 : (((rd_T50 y183 ((rd_T50 y177 x20_2).f0)).f2) != 0) = true := bne_iff_ne.mpr c24
                 have H' := Aside0.mk H
                 clear H
                 obtain ⟨hcz30_0, hcz30_1, hcz30_2, hfz30_0, hfz30_1, hfz30_2⟩ := bx3 BK182.out
                 go_wp2_with (first | ((with_reducible refine gate_callee (f := 94) rfl ?_); refine goesL_ (some 32) rfl rfl Try.func94 (by kernel_rfl) rfl #[.int .i64 ((rd_T50 y177 x20_2).f0), .int .i64 0, .int .i64 x20_2] rfl (by (try simp only [List.map_toArray, List.map_cons, List.map_nil]); first | done | rfl | (simp only [List.length_drop, List.length_take]; rfl)) ?_; (with_reducible refine (impl_within.calls ((rd_T50 y177 x20_2).f0) 0 x20_2 true _ A20.out).mono ?_); rintro e w' ⟨rfl, ⟨nd, rfl⟩⟩; refine ⟨_, rfl, ?_⟩; have p188 : 0 ≤ (((rd_T50 y177 x20_2).f0) : Int) := of_decide_eq_true (by first | (with_reducible assumption) | assumption); have q188 : ((rd_T50 y177 x20_2).f0) < (y183.length : Int) := of_decide_eq_true (by first | (with_reducible assumption) | assumption); obtain ⟨ad188, e188, hx188_0, hx188_1, hx188_2⟩ := at_T50 HR186.out ((rd_T50 y177 x20_2).f0) p188 q188; cases e188; replace hx188_0 := pw_cell_below HB.out hx188_0; replace hx188_1 := pw_cell_below HB.out hx188_1; replace hx188_2 := pw_cell_below HB.out hx188_2; replace p188 := eq_true p188; replace q188 := eq_true q188))
                 go_meet
                 case rel => exact ⟨_, (true), (by first | rfl | (simp; done) | (simp [*]; done)), H', ⟨by have := HJ1.out; have := HK2.out; first | omega | exact Nat.le_refl _⟩, ⟨by exact bk⟩, ⟨bb⟩⟩
               ·rw [if_neg c23] at H
                exact absurd H (by simp)
              ·rw [if_neg c22] at H
               exact absurd H (by simp)
             ·replace c21 := Bool.eq_false_iff.mpr c21
              subst c21
              have H1 : (impl_TreeOk.j2 k2 l0 y183 y177 (y177.length : Int) x20_2 true ((rd_T50 y177 x20_2).f0) ((rd_T50 y177 x20_2).f1) ((rd_T50 y177 x20_2).f2)) = some r := by rw [if_neg (show ¬ (false = true) by decide)] at H; exact H
              clear H
              have H := H1
              clear H1
              have H' := Aside0.mk H
              clear H
              obtain ⟨hcz31_0, hcz31_1, hcz31_2, hfz31_0, hfz31_1, hfz31_2⟩ := bx3 BK182.out
              go_wp2_with (first | ((with_reducible refine gate_callee (f := 94) rfl ?_); refine goesL_ (some 32) rfl rfl Try.func94 (by kernel_rfl) rfl #[.int .i64 ((rd_T50 y177 x20_2).f0), .int .i64 0, .int .i64 x20_2] rfl (by (try simp only [List.map_toArray, List.map_cons, List.map_nil]); first | done | rfl | (simp only [List.length_drop, List.length_take]; rfl)) ?_; (with_reducible refine (impl_within.calls ((rd_T50 y177 x20_2).f0) 0 x20_2 false _ A20.out).mono ?_); rintro e w' ⟨rfl, ⟨nd, rfl⟩⟩; refine ⟨_, rfl, ?_⟩))
              go_meet
              case rel => exact ⟨_, (true), (by first | rfl | (simp; done) | (simp [*]; done)), H', ⟨by have := HJ1.out; have := HK2.out; first | omega | exact Nat.le_refl _⟩, ⟨by exact bk⟩, ⟨bb⟩⟩
            case rest =>
             clear HC15
             try clear c1
             try clear p1
             try clear q1
             try clear hx1
             try clear qi1
             try clear c2
             try clear p2
             try clear c4
             try clear c5
             try clear c5b0
             try clear c5b1
             try clear c6
             try clear p6
             try clear c7
             try clear c7b0
             try clear c7b1
             try clear c8
             try clear q8
             try clear c9
             try clear c9b0
             try clear c10
             try clear c10b0
             try clear c11
             try clear c11b0
             try clear c13
             try clear c13b0
             try clear c13b1
             try clear c14
             try clear c14b0
             try clear c14b1
             try clear p17
             try clear q17
             try clear hx17
             try clear qi17
             try clear p18
             try clear q18
             try clear hx18
             try clear q19
             try clear c21
             try clear c22
             try clear c22b0
             try clear c23
             try clear c23b0
             try clear c24
             try clear c24b0
             try clear c24b1
             try clear c26
             try clear hcz17_0
             try clear hcz17_1
             try clear hcz17_2
             try clear hcz28_0
             try clear hcz28_1
             try clear hcz28_2
             try clear hcz29_0
             try clear hcz29_1
             try clear hcz29_2
             try clear hcz30_0
             try clear hcz30_1
             try clear hcz30_2
             try clear hcz31_0
             try clear hcz31_1
             try clear hcz31_2
             try clear hfz17_0
             try clear hfz17_1
             try clear hfz17_2
             try clear hfz28_0
             try clear hfz28_1
             try clear hfz28_2
             try clear hfz29_0
             try clear hfz29_1
             try clear hfz29_2
             try clear hfz30_0
             try clear hfz30_1
             try clear hfz30_2
             try clear hfz31_0
             try clear hfz31_1
             try clear hfz31_2
             try clear hx176_0
             try clear hx176_1
             try clear hx176_2
             try clear hx181_0
             try clear hx181_1
             try clear hx181_2
             try clear hx188_0
             try clear hx188_1
             try clear hx188_2
             try clear p1
             try clear p176
             try clear p181
             try clear p188
             try clear p2
             try clear q1
             try clear q176
             try clear q181
             try clear q188
             try clear q19
             try clear q8
             obtain ⟨kq, x54_14, rfl, HA, HJ14, BK182, HB⟩ := hcut
             cases kq with
             | zero => exact absurd HA.out (by simp [impl_TreeOk.j2])
             | succ kj14 =>
              have H := HA.out
              clear HA
              simp only [impl_TreeOk.j2] at H
              by_cases c32 : x54_14 = true
              ·subst c32
               have H1 : (some false) = some r := by rw [if_pos rfl] at H; exact H
               clear H
               have H := H1
               clear H1
               obtain rfl := Option.some.inj H
               go_wp2
               go_ret
               exact ⟨by first | rfl | (simp [errW_none, errW_some] <;> rfl) | (simp only [← hji12]; first | rfl | (simp [errW_none, errW_some] <;> rfl)) | (simp [*, errW_none, errW_some] <;> rfl), bb⟩
              ·replace c32 := Bool.eq_false_iff.mpr c32
               subst c32
               have H1 : ((impl_Node_impl_TreeOk_1.f y183 ((rd_T50 y177 x20_2).f0) ((rd_T50 y177 x20_2).f1) ((rd_T50 y177 x20_2).f2)).bind fun t191 => (if t191 = true then (some false) else (impl_TreeOk.l0 kj14 l0 y177 (y177.length : Int) (wrap64 (x20_2 + 1))))) = some r := by rw [if_neg (show ¬ (false = true) by decide)] at H; exact H
               clear H
               have H := H1
               clear H1
               replace H := Option.bind_eq_some_iff.mp H
               obtain ⟨t191, A330, H⟩ := H
               replace H : (if t191 = true then (some false) else (impl_TreeOk.l0 kj14 l0 y177 (y177.length : Int) (wrap64 (x20_2 + 1)))) = some r := H
               have A33 := Aside0.mk A330
               clear A330
               by_cases c34 : t191 = true
               ·subst c34
                have H1 : (some false) = some r := by rw [if_pos rfl] at H; exact H
                clear H
                have H := H1
                clear H1
                obtain rfl := Option.some.inj H
                go_wp2_with (first | ((with_reducible refine gate_callee (f := 95) rfl ?_); refine goesL_ (some 57) rfl rfl Try.func95 (by kernel_rfl) rfl #[.slice A0 y183.length c0, .func (.func 96) #[] #[.pointer (some ⟨gb182, 0, none⟩)]] rfl (by (try simp only [List.map_toArray, List.map_cons, List.map_nil]); first | done | rfl | (simp only [List.length_drop, List.length_take]; rfl)) ?_; (with_reducible refine (impl_Node_impl_TreeOk_1.calls _ _ y183 gb182 ((rd_T50 y177 x20_2).f0) ((rd_T50 y177 x20_2).f1) ((rd_T50 y177 x20_2).f2) true _ ?side1 ?side2 ?side3 A33.out).mono ?_); (case side1 => exact kc); (case side2 => exact HC186.out); (case side3 => exact bk); rintro e w35 ⟨rfl, hb⟩; refine ⟨_, rfl, ?_⟩; have n0_ := Aside0.mk (blk_below (g := gb182) (o := .cells #[.int .i64 ((rd_T50 y177 x20_2).f0), .int .i64 ((rd_T50 y177 x20_2).f1), .int .i64 ((rd_T50 y177 x20_2).f2)] 50 (0, 0)) bk hb); have n1_ := Aside0.mk (below_step bb hb); clear BK182; clear HB; have BK182 := n0_; have HB := n1_; clear n0_ n1_; (try clear hb); (try clear hb2); (try clear hk); (try clear hi)))
                go_ret
                exact ⟨by first | rfl | (simp [errW_none, errW_some] <;> rfl) | (simp only [← hji12]; first | rfl | (simp [errW_none, errW_some] <;> rfl)) | (simp [*, errW_none, errW_some] <;> rfl), bb⟩
               ·replace c34 := Bool.eq_false_iff.mpr c34
                subst c34
                have H1 : (impl_TreeOk.l0 kj14 l0 y177 (y177.length : Int) (wrap64 (x20_2 + 1))) = some r := by rw [if_neg (show ¬ (false = true) by decide)] at H; exact H
                clear H
                have H := H1
                clear H1
                have H' := Aside0.mk H
                clear H
                go_wp2_with (first | ((with_reducible refine gate_callee (f := 95) rfl ?_); refine goesL_ (some 57) rfl rfl Try.func95 (by kernel_rfl) rfl #[.slice A0 y183.length c0, .func (.func 96) #[] #[.pointer (some ⟨gb182, 0, none⟩)]] rfl (by (try simp only [List.map_toArray, List.map_cons, List.map_nil]); first | done | rfl | (simp only [List.length_drop, List.length_take]; rfl)) ?_; (with_reducible refine (impl_Node_impl_TreeOk_1.calls _ _ y183 gb182 ((rd_T50 y177 x20_2).f0) ((rd_T50 y177 x20_2).f1) ((rd_T50 y177 x20_2).f2) false _ ?side1 ?side2 ?side3 A33.out).mono ?_); (case side1 => exact kc); (case side2 => exact HC186.out); (case side3 => exact bk); rintro e w36 ⟨rfl, hb⟩; refine ⟨_, rfl, ?_⟩; have n0_ := Aside0.mk (blk_below (g := gb182) (o := .cells #[.int .i64 ((rd_T50 y177 x20_2).f0), .int .i64 ((rd_T50 y177 x20_2).f1), .int .i64 ((rd_T50 y177 x20_2).f2)] 50 (0, 0)) bk hb); have n1_ := Aside0.mk (below_step bb hb); clear BK182; clear HB; have BK182 := n0_; have HB := n1_; clear n0_ n1_; (try clear hb); (try clear hb2); (try clear hk); (try clear hi)))
                go_roundg kj14
                case measure => have := HJ1.out; have := HK2.out; have := HJ14.out; omega
                case rel => exact ⟨(wrap64 (x20_2 + 1)), (by first | rfl | (simp; done) | (simp [*]; done)), H', ⟨by have := HJ1.out; have := HK2.out; have := HJ14.out; omega⟩, ⟨bb⟩⟩
           ·rw [if_neg c14] at H
            exact absurd H (by simp)
          ·rw [if_neg c13] at H
           exact absurd H (by simp)
         ·rw [if_neg c11] at H
          exact absurd H (by simp)
        ·rw [if_neg c10] at H
         exact absurd H (by simp)
       ·rw [if_neg c9] at H
        have c9b0 : decide (x20_2 < (y177.length : Int)) = false := decide_eq_false c9
        clear c9
        obtain rfl := Option.some.inj H
        go_wp2
        go_ret
        exact ⟨by first | rfl | (simp [errW_none, errW_some] <;> rfl) | (simp [*, errW_none, errW_some] <;> rfl), bb⟩
    ·rw [if_neg c7] at H
     exact absurd H (by simp)

/-! ### slices_Repeat_int_int: function 98 -/
def slices_Repeat_int_int.f (l0 : List Int) (a1 : Int) : Option (List Int) := if l0.length = 1 ∧ 0 ≤ a1 ∧ a1 ≤ 12 then some (List.replicate a1.toNat (rd l0 0)) else none
theorem slices_Repeat_int_int.calls (A0 : Option Addr) (c0 : Nat) (l0 : List Int) (a1 : Int) (r : List Int) (w : World) (hr0 : Kd.C (Kd.int .i64) w A0 l0.length l0) (hc0 : l0.length ≤ c0) (h : slices_Repeat_int_int.f l0 a1 = some r) :
  Calls Try.prog 98 #[.slice A0 l0.length c0, .int .i64 a1] w fun e w' => ∃ v0_ : Value, e = .returned (v0_) ∧ Kd.R (Kd.int .i64) 3 w' w.heap.size (fun _ => True) v0_ r ∧ Below w.heap.size w w' := by
 unfold slices_Repeat_int_int.f at h
 split at h
 next hs =>
  injection h with h
  subst h
  exact Fns.repeat_int A0 c0 l0 a1 w hr0 hc0 hs.1 hs.2.1 hs.2.2
 next => cases h

/-! ### slices_Clone_int_int: function 99 -/
def slices_Clone_int_int.f (l0 : List Int) : Option (List Int) := if l0.length ≤ 17592186044416 then some l0 else none
theorem slices_Clone_int_int.calls (A0 : Option Addr) (c0 : Nat) (l0 : List Int) (r : List Int) (w : World) (hr0 : Kd.C (Kd.int .i64) w A0 l0.length l0) (hc0 : l0.length ≤ c0) (h : slices_Clone_int_int.f l0 = some r) :
  Calls Try.prog 99 #[.slice A0 l0.length c0] w fun e w' => ∃ v0_ : Value, e = .returned (v0_) ∧ Kd.R (Kd.int .i64) 3 w' w.heap.size (fun _ => True) v0_ r ∧ Below w.heap.size w w' := by
 unfold slices_Clone_int_int.f at h
 split at h
 ·injection h with h
  subst h
  exact Fns.clone_int A0 c0 l0 w hr0 hc0 (by assumption)
 ·cases h

/-! ### impl_isNode: function 90 -/
def impl_isNode.f (k : Nat) (l0 : List (S50)) (a1 : Int) : Option (Bool) := (impl_TreeOk.f k l0).bind fun t192 => (if t192 = true then ((impl_within.f a1 0 (wrap64 ((l0.length : Int) - 1))).bind fun t193 => (some t193)) else (some false))
set_option maxHeartbeats 8000000 in
set_option maxRecDepth 100000 in
theorem impl_isNode.calls (k : Nat) (A0 : Option Addr) (c0 : Nat) (l0 : List (S50)) (a1 : Int) (r : Bool) (w : World) (hr0 : Kd.C k50 w A0 l0.length l0) (hc0 : l0.length ≤ c0) (h : impl_isNode.f k l0 a1 = some r) :
  Calls Try.prog 90 #[.slice A0 l0.length c0, .int .i64 a1] w fun e w' => e = .returned (.bool r) ∧ Below w.heap.size w w' := by
 have HR0 := Aside0.mk hr0
 have HC0 := Aside0.mk hc0
 clear hr0 hc0
 have HB := Aside0.mk (Below.refl w.heap.size w)
 have H : ((impl_TreeOk.f k l0).bind fun t192 => (if t192 = true then ((impl_within.f a1 0 (wrap64 ((l0.length : Int) - 1))).bind fun t193 => (some t193)) else (some false))) = some r := h
 clear h
 replace H := Option.bind_eq_some_iff.mp H
 obtain ⟨t192, A30, H⟩ := H
 replace H : (if t192 = true then ((impl_within.f a1 0 (wrap64 ((l0.length : Int) - 1))).bind fun t193 => (some t193)) else (some false)) = some r := H
 have A3 := Aside0.mk A30
 clear A30
 by_cases c4 : t192 = true
 ·subst c4
  have H1 : ((impl_within.f a1 0 (wrap64 ((l0.length : Int) - 1))).bind fun t193 => (some t193)) = some r := by rw [if_pos rfl] at H; exact H
  clear H
  have H := H1
  clear H1
  replace H := Option.bind_eq_some_iff.mp H
  obtain ⟨t193, A50, H⟩ := H
  replace H : (some t193) = some r := H
  have A5 := Aside0.mk A50
  clear A50
  obtain rfl := Option.some.inj H
  go_enter Try.func90, Try.ntmps90
  go_wp2_with (first | ((with_reducible refine gate_callee (f := 40) rfl ?_); refine goesL_ (some 6) rfl rfl Try.func40 (by kernel_rfl) rfl #[.slice A0 l0.length c0] rfl (by (try simp only [List.map_toArray, List.map_cons, List.map_nil]); first | done | rfl | (simp only [List.length_drop, List.length_take]; rfl)) ?_; (with_reducible refine (impl_TreeOk.calls k _ _ l0 true _ ?side1 ?side2 A3.out).mono ?_); (case side1 => repeat (first | exact HR0.out | (with_reducible refine Kd.C_alloc ?_ _) | (with_reducible refine Kd.C_drewN ?_ _) | (with_reducible refine Kd.C_drew ?_))); (case side2 => exact HC0.out); rintro e w6 ⟨rfl, hb⟩; refine ⟨_, rfl, ?_⟩; have n0_ := Aside0.mk (below_step bb hb); clear HB; have HB := n0_; clear n0_; (try clear hb); (try clear hb2); (try clear hk); (try clear hi)) | (go_at_call 94; (with_reducible refine (impl_within.calls a1 0 (wrap64 ((l0.length : Int) - 1)) t193 _ A5.out).mono ?_); rintro e w' ⟨rfl, ⟨nd, rfl⟩⟩))
  go_ret
  exact ⟨by first | rfl | (simp [errW_none, errW_some] <;> rfl) | (simp [*, errW_none, errW_some] <;> rfl), bb⟩
 ·replace c4 := Bool.eq_false_iff.mpr c4
  subst c4
  have H1 : (some false) = some r := by rw [if_neg (show ¬ (false = true) by decide)] at H; exact H
  clear H
  have H := H1
  clear H1
  obtain rfl := Option.some.inj H
  go_enter Try.func90, Try.ntmps90
  go_wp2_with (first | ((with_reducible refine gate_callee (f := 40) rfl ?_); refine goesL_ (some 6) rfl rfl Try.func40 (by kernel_rfl) rfl #[.slice A0 l0.length c0] rfl (by (try simp only [List.map_toArray, List.map_cons, List.map_nil]); first | done | rfl | (simp only [List.length_drop, List.length_take]; rfl)) ?_; (with_reducible refine (impl_TreeOk.calls k _ _ l0 false _ ?side1 ?side2 A3.out).mono ?_); (case side1 => repeat (first | exact HR0.out | (with_reducible refine Kd.C_alloc ?_ _) | (with_reducible refine Kd.C_drewN ?_ _) | (with_reducible refine Kd.C_drew ?_))); (case side2 => exact HC0.out); rintro e w7 ⟨rfl, hb⟩; refine ⟨_, rfl, ?_⟩; have n0_ := Aside0.mk (below_step bb hb); clear HB; have HB := n0_; clear n0_; (try clear hb); (try clear hb2); (try clear hk); (try clear hi)))
  go_ret
  exact ⟨by first | rfl | (simp [errW_none, errW_some] <;> rfl) | (simp [*, errW_none, errW_some] <;> rfl), bb⟩

/-! ### cmp_isNaN_int: function 127 -/
def cmp_isNaN_int.f (a0 : Int) : Option (Bool) := some (a0 != a0)
set_option maxHeartbeats 8000000 in
set_option maxRecDepth 100000 in
theorem cmp_isNaN_int.calls (a0 : Int) (r : Bool) (w : World) (h : cmp_isNaN_int.f a0 = some r) :
  Calls Try.prog 127 #[.int .i64 a0] w fun e w' => e = .returned (.bool r) ∧ Drawn0 w w' := by
 have H : (some (a0 != a0)) = some r := h
 clear h
 obtain rfl := Option.some.inj H
 go_enter Try.func127, Try.ntmps127
 go_wp2
 go_ret
 exact ⟨by first | rfl | (simp; done) | (simp [*]; done), by repeat (first | exact Drawn0.refl _ | apply Drawn0.step)⟩

end Go.Proofs.Ytbbppknnkghkjaa.PFnNumbers
