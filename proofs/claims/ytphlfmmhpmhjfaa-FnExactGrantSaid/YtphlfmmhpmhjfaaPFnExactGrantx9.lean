/- Printed by a program of this session out of the translation: each Go function as a Lean function, with the proof that Go comes to just its answer (no condition beyond what each theorem says). -/
import Derived.Test.YtphlfmmhpmhjfaaPFnExactGrantx0
import Derived.Test.YtphlfmmhpmhjfaaPFnExactGrantx1
import Derived.Test.YtphlfmmhpmhjfaaPFnExactGrantx4
import Derived.Test.YtphlfmmhpmhjfaaPFnExactGrantx7
import Derived.Test.YtphlfmmhpmhjfaaPFnExactGrantx8
namespace Go.Proofs.Ytphlfmmhpmhjfaa.PFnExactGrant
open Go.RowKit Go.Proofs.YtphlfmmhpmhjfaaW.PrintWords Go.Proofs.YtphlfmmhpmhjfaaW.PrintLast Go.Proofs.YtphlfmmhpmhjfaaW.PrintMore
attribute [local go_sem] max2_int min2_int max_two min_two max_three min_three max_four min_four   -- for this text's walks alone
set_option linter.unusedVariables false
set_option linter.unusedSimpArgs false

/-! ### laws_FnExactGrant: function 10 -/
mutual
def laws_FnExactGrant.j0 : Nat → List Bool → Int → List Bool → Int → Bool → List Int → Int → Int → List Int → Int → Int → List Int → Int → Int → List Int → Int → Int → Option (Bool)
  | 0, _, _, _, _, _, _, _, _, _, _, _, _, _, _, _, _, _ => none
  | k + 1, x1, x7, x9, x11, x51, x189000, x189001, x189002, x205000, x205001, x205002, x211000, x211001, x211002, x221000, x221001, x221002 => if x51 = true then (some false) else ((laws_toArbiter.f k x189000 x189001 x189002).bind fun bt222 => ((laws_eqArbiter.f k x211000 x211001 x211002 bt222.1 bt222.2.1 bt222.2.2).bind fun t227 => (if t227 = true then ((laws_toBoolS.f k x1).bind fun t228 => ((laws_eqBoolS.f k x9 t228).bind fun t231 => (if t231 = true then ((laws_markArbiter.f k x211000 x211001 x211002 1).bind fun bt232 => ((laws_markBoolS.f k x9 bt232.1).bind fun bt234 => (if bt234.1 < 0 then (laws_FnExactGrant.j1 k x1 x7 true x189000 x189001 x189002 x205000 x205001 x205002 x221000 x221001 x221002) else ((laws_eqArbiter.f k x221000 x221001 x221002 x205000 x205001 x205002).bind fun t236 => (if t236 = true then (laws_FnExactGrant.j1 k x1 x7 (x11 != x7) x189000 x189001 x189002 x205000 x205001 x205002 x221000 x221001 x221002) else (laws_FnExactGrant.j1 k x1 x7 true x189000 x189001 x189002 x205000 x205001 x205002 x221000 x221001 x221002)))))) else (some false)))) else (some false))))
def laws_FnExactGrant.j1 : Nat → List Bool → Int → Bool → List Int → Int → Int → List Int → Int → Int → List Int → Int → Int → Option (Bool)
  | 0, _, _, _, _, _, _, _, _, _, _, _, _ => none
  | k + 1, x1, x7, x80, x189000, x189001, x189002, x205000, x205001, x205002, x221000, x221001, x221002 => if x80 = true then (some false) else ((laws_markArbiter.f k x221000 x221001 x221002 1).bind fun bt237 => ((laws_heldArbiter.f k bt237.2 x221001 x221002 1).bind fun t239 => (if t239 < 0 then (some false) else (if t239 = bt237.1 then ((laws_toArbiter.f k x189000 x189001 x189002).bind fun bt240 => ((laws_toBoolS.f k x1).bind fun t245 => ((impl_Grant.f k bt240.1 bt240.2.1 bt240.2.2 t245).bind fun bt248 => ((laws_eqArbiter.f k bt248.1 bt248.2.1 bt248.2.2.1 x205000 x205001 x205002).bind fun t255 => (if t255 = true then (laws_FnExactGrant.j2 k bt237.1 (bt248.2.2.2 != x7) bt237.2 x221001 x221002) else (laws_FnExactGrant.j2 k bt237.1 true bt237.2 x221001 x221002)))))) else (some false)))))
def laws_FnExactGrant.j2 : Nat → Int → Bool → List Int → Int → Int → Option (Bool)
  | 0, _, _, _, _, _ => none
  | k + 1, x13, x108, x221000, x221001, x221002 => if x108 = true then (some false) else ((laws_heldArbiter.f k x221000 x221001 x221002 1).bind fun t256 => (if t256 < 0 then (some false) else (if t256 = x13 then (some true) else (some false))))
end
def laws_FnExactGrant.f (k : Nat) (l0_0 : List Int) (a0_1 : Int) (a0_2 : Int) (l1 : List Bool) : Option (Bool) := if (l1.length : Int) > 1048576 then (some true) else ((laws_szArbiter.f l0_0 a0_1 a0_2 1048576).bind fun t189 => (if t189 < 0 then (some true) else ((laws_toArbiter.f k l0_0 a0_1 a0_2).bind fun bt190 => ((laws_toBoolS.f k l1).bind fun t195 => ((spec_Grant.f k bt190.1 bt190.2.1 bt190.2.2 t195).bind fun bt198 => ((laws_toArbiter.f k l0_0 a0_1 a0_2).bind fun bt205 => ((laws_toBoolS.f k l1).bind fun t211 => ((impl_Grant.f k bt205.1 bt205.2.1 bt205.2.2 t211).bind fun bt214 => ((laws_eqArbiter.f k bt214.1 bt214.2.1 bt214.2.2.1 bt198.1 bt198.2.1 bt198.2.2.1).bind fun t221 => (if t221 = true then (laws_FnExactGrant.j0 k l1 bt198.2.2.2 t211 bt214.2.2.2 (bt214.2.2.2 != bt198.2.2.2) l0_0 a0_1 a0_2 bt198.1 bt198.2.1 bt198.2.2.1 bt205.1 bt205.2.1 bt205.2.2 bt214.1 bt214.2.1 bt214.2.2.1) else (laws_FnExactGrant.j0 k l1 bt198.2.2.2 t211 bt214.2.2.2 true l0_0 a0_1 a0_2 bt198.1 bt198.2.1 bt198.2.2.1 bt205.1 bt205.2.1 bt205.2.2 bt214.1 bt214.2.1 bt214.2.2.1)))))))))))
theorem laws_FnExactGrant.mono_l : ∀ k, (∀ y0 y1 y2 y3 y4 y5 y6 y7 y8 y9 y10 y11 y12 y13 y14 y15 y16, LeO (laws_FnExactGrant.j0 k y0 y1 y2 y3 y4 y5 y6 y7 y8 y9 y10 y11 y12 y13 y14 y15 y16) (laws_FnExactGrant.j0 (k + 1) y0 y1 y2 y3 y4 y5 y6 y7 y8 y9 y10 y11 y12 y13 y14 y15 y16)) ∧ (∀ y0 y1 y2 y3 y4 y5 y6 y7 y8 y9 y10 y11, LeO (laws_FnExactGrant.j1 k y0 y1 y2 y3 y4 y5 y6 y7 y8 y9 y10 y11) (laws_FnExactGrant.j1 (k + 1) y0 y1 y2 y3 y4 y5 y6 y7 y8 y9 y10 y11)) ∧ (∀ y0 y1 y2 y3 y4, LeO (laws_FnExactGrant.j2 k y0 y1 y2 y3 y4) (laws_FnExactGrant.j2 (k + 1) y0 y1 y2 y3 y4))
  | 0 => ⟨fun _ _ _ _ _ _ _ _ _ _ _ _ _ _ _ _ _ r h => by simp [laws_FnExactGrant.j0] at h, fun _ _ _ _ _ _ _ _ _ _ _ _ r h => by simp [laws_FnExactGrant.j1] at h, fun _ _ _ _ _ r h => by simp [laws_FnExactGrant.j2] at h⟩
  | k + 1 => by
    obtain ⟨ih0, ih1, ih2⟩ := laws_FnExactGrant.mono_l k
    refine ⟨?_, ?_, ?_⟩
    · intro y0 y1 y2 y3 y4 y5 y6 y7 y8 y9 y10 y11 y12 y13 y14 y15 y16
      unfold laws_FnExactGrant.j0
      repeat' first
      | (with_reducible exact ih0 _ _ _ _ _ _ _ _ _ _ _ _ _ _ _ _ _)
      | (with_reducible exact ih1 _ _ _ _ _ _ _ _ _ _ _ _)
      | (with_reducible exact ih2 _ _ _ _ _)
      | (with_reducible exact impl_Grant.mono _ _ _ _ _)
      | (with_reducible exact laws_eqArbiter.mono _ _ _ _ _ _ _)
      | (with_reducible exact laws_eqBoolS.mono _ _ _)
      | (with_reducible exact laws_heldArbiter.mono _ _ _ _ _)
      | (with_reducible exact laws_markArbiter.mono _ _ _ _ _)
      | (with_reducible exact laws_markBoolS.mono _ _ _)
      | (with_reducible exact laws_toArbiter.mono _ _ _ _)
      | (with_reducible exact laws_toBoolS.mono _ _)
      | (with_reducible exact spec_Grant.mono _ _ _ _ _)
      | (with_reducible exact LeO.refl _)
      | (with_reducible exact LeO.none _)
      | (with_reducible refine LeO.ite ?_ ?_)
      | (with_reducible refine LeO.bind ?_ (fun _ => ?_))
      | exact ih0 _ _ _ _ _ _ _ _ _ _ _ _ _ _ _ _ _
      | exact ih1 _ _ _ _ _ _ _ _ _ _ _ _
      | exact ih2 _ _ _ _ _
      | exact impl_Grant.mono _ _ _ _ _
      | exact laws_eqArbiter.mono _ _ _ _ _ _ _
      | exact laws_eqBoolS.mono _ _ _
      | exact laws_heldArbiter.mono _ _ _ _ _
      | exact laws_markArbiter.mono _ _ _ _ _
      | exact laws_markBoolS.mono _ _ _
      | exact laws_toArbiter.mono _ _ _ _
      | exact laws_toBoolS.mono _ _
      | exact spec_Grant.mono _ _ _ _ _
      | exact LeO.none _
      | refine LeO.ite ?_ ?_
      | refine LeO.bind ?_ (fun _ => ?_)
    · intro y0 y1 y2 y3 y4 y5 y6 y7 y8 y9 y10 y11
      unfold laws_FnExactGrant.j1
      repeat' first
      | (with_reducible exact ih0 _ _ _ _ _ _ _ _ _ _ _ _ _ _ _ _ _)
      | (with_reducible exact ih1 _ _ _ _ _ _ _ _ _ _ _ _)
      | (with_reducible exact ih2 _ _ _ _ _)
      | (with_reducible exact impl_Grant.mono _ _ _ _ _)
      | (with_reducible exact laws_eqArbiter.mono _ _ _ _ _ _ _)
      | (with_reducible exact laws_eqBoolS.mono _ _ _)
      | (with_reducible exact laws_heldArbiter.mono _ _ _ _ _)
      | (with_reducible exact laws_markArbiter.mono _ _ _ _ _)
      | (with_reducible exact laws_markBoolS.mono _ _ _)
      | (with_reducible exact laws_toArbiter.mono _ _ _ _)
      | (with_reducible exact laws_toBoolS.mono _ _)
      | (with_reducible exact spec_Grant.mono _ _ _ _ _)
      | (with_reducible exact LeO.refl _)
      | (with_reducible exact LeO.none _)
      | (with_reducible refine LeO.ite ?_ ?_)
      | (with_reducible refine LeO.bind ?_ (fun _ => ?_))
      | exact ih0 _ _ _ _ _ _ _ _ _ _ _ _ _ _ _ _ _
      | exact ih1 _ _ _ _ _ _ _ _ _ _ _ _
      | exact ih2 _ _ _ _ _
      | exact impl_Grant.mono _ _ _ _ _
      | exact laws_eqArbiter.mono _ _ _ _ _ _ _
      | exact laws_eqBoolS.mono _ _ _
      | exact laws_heldArbiter.mono _ _ _ _ _
      | exact laws_markArbiter.mono _ _ _ _ _
      | exact laws_markBoolS.mono _ _ _
      | exact laws_toArbiter.mono _ _ _ _
      | exact laws_toBoolS.mono _ _
      | exact spec_Grant.mono _ _ _ _ _
      | exact LeO.none _
      | refine LeO.ite ?_ ?_
      | refine LeO.bind ?_ (fun _ => ?_)
    · intro y0 y1 y2 y3 y4
      unfold laws_FnExactGrant.j2
      repeat' first
      | (with_reducible exact ih0 _ _ _ _ _ _ _ _ _ _ _ _ _ _ _ _ _)
      | (with_reducible exact ih1 _ _ _ _ _ _ _ _ _ _ _ _)
      | (with_reducible exact ih2 _ _ _ _ _)
      | (with_reducible exact impl_Grant.mono _ _ _ _ _)
      | (with_reducible exact laws_eqArbiter.mono _ _ _ _ _ _ _)
      | (with_reducible exact laws_eqBoolS.mono _ _ _)
      | (with_reducible exact laws_heldArbiter.mono _ _ _ _ _)
      | (with_reducible exact laws_markArbiter.mono _ _ _ _ _)
      | (with_reducible exact laws_markBoolS.mono _ _ _)
      | (with_reducible exact laws_toArbiter.mono _ _ _ _)
      | (with_reducible exact laws_toBoolS.mono _ _)
      | (with_reducible exact spec_Grant.mono _ _ _ _ _)
      | (with_reducible exact LeO.refl _)
      | (with_reducible exact LeO.none _)
      | (with_reducible refine LeO.ite ?_ ?_)
      | (with_reducible refine LeO.bind ?_ (fun _ => ?_))
      | exact ih0 _ _ _ _ _ _ _ _ _ _ _ _ _ _ _ _ _
      | exact ih1 _ _ _ _ _ _ _ _ _ _ _ _
      | exact ih2 _ _ _ _ _
      | exact impl_Grant.mono _ _ _ _ _
      | exact laws_eqArbiter.mono _ _ _ _ _ _ _
      | exact laws_eqBoolS.mono _ _ _
      | exact laws_heldArbiter.mono _ _ _ _ _
      | exact laws_markArbiter.mono _ _ _ _ _
      | exact laws_markBoolS.mono _ _ _
      | exact laws_toArbiter.mono _ _ _ _
      | exact laws_toBoolS.mono _ _
      | exact spec_Grant.mono _ _ _ _ _
      | exact LeO.none _
      | refine LeO.ite ?_ ?_
      | refine LeO.bind ?_ (fun _ => ?_)
theorem laws_FnExactGrant.mono : ∀ a0 a1 a2 a3 k, LeO (laws_FnExactGrant.f k a0 a1 a2 a3) (laws_FnExactGrant.f (k + 1) a0 a1 a2 a3) := by
  intro a0 a1 a2 a3 k
  obtain ⟨ih0, ih1, ih2⟩ := laws_FnExactGrant.mono_l k
  unfold laws_FnExactGrant.f
  repeat' first
      | (with_reducible exact ih0 _ _ _ _ _ _ _ _ _ _ _ _ _ _ _ _ _)
      | (with_reducible exact ih1 _ _ _ _ _ _ _ _ _ _ _ _)
      | (with_reducible exact ih2 _ _ _ _ _)
      | (with_reducible exact impl_Grant.mono _ _ _ _ _)
      | (with_reducible exact laws_eqArbiter.mono _ _ _ _ _ _ _)
      | (with_reducible exact laws_eqBoolS.mono _ _ _)
      | (with_reducible exact laws_heldArbiter.mono _ _ _ _ _)
      | (with_reducible exact laws_markArbiter.mono _ _ _ _ _)
      | (with_reducible exact laws_markBoolS.mono _ _ _)
      | (with_reducible exact laws_toArbiter.mono _ _ _ _)
      | (with_reducible exact laws_toBoolS.mono _ _)
      | (with_reducible exact spec_Grant.mono _ _ _ _ _)
      | (with_reducible exact LeO.refl _)
      | (with_reducible exact LeO.none _)
      | (with_reducible refine LeO.ite ?_ ?_)
      | (with_reducible refine LeO.bind ?_ (fun _ => ?_))
      | exact ih0 _ _ _ _ _ _ _ _ _ _ _ _ _ _ _ _ _
      | exact ih1 _ _ _ _ _ _ _ _ _ _ _ _
      | exact ih2 _ _ _ _ _
      | exact impl_Grant.mono _ _ _ _ _
      | exact laws_eqArbiter.mono _ _ _ _ _ _ _
      | exact laws_eqBoolS.mono _ _ _
      | exact laws_heldArbiter.mono _ _ _ _ _
      | exact laws_markArbiter.mono _ _ _ _ _
      | exact laws_markBoolS.mono _ _ _
      | exact laws_toArbiter.mono _ _ _ _
      | exact laws_toBoolS.mono _ _
      | exact spec_Grant.mono _ _ _ _ _
      | exact LeO.none _
      | refine LeO.ite ?_ ?_
      | refine LeO.bind ?_ (fun _ => ?_)
set_option maxHeartbeats 8000000 in
set_option maxRecDepth 100000 in
theorem laws_FnExactGrant.calls (k : Nat) (A0_0 : Option Addr) (c0_0 : Nat) (l0_0 : List Int) (a0_1 : Int) (a0_2 : Int) (A1 : Option Addr) (c1 : Nat) (l1 : List Bool) (r : Bool) (w : World) (hr0_0 : Kd.C (Kd.int .i64) w A0_0 l0_0.length l0_0) (hc0_0 : l0_0.length ≤ c0_0) (hr1 : Kd.C Kd.bool w A1 l1.length l1) (hc1 : l1.length ≤ c1) (h : laws_FnExactGrant.f k l0_0 a0_1 a0_2 l1 = some r) :
    Calls Try.prog 10 #[.agg #[.slice A0_0 l0_0.length c0_0, .int .i64 a0_1, .int .i64 a0_2], .slice A1 l1.length c1] w fun e w' => e = .returned (.bool r) ∧ Below w.heap.size w w' := by
  have hu30 := Try.underlying30
  have hu33 := Try.underlying33
  have HR0_0 := Aside0.mk hr0_0
  have HC0_0 := Aside0.mk hc0_0
  clear hr0_0 hc0_0
  have HR1 := Aside0.mk hr1
  have HC1 := Aside0.mk hc1
  clear hr1 hc1
  have HB := Aside0.mk (Below.refl w.heap.size w)
  have H : (if (l1.length : Int) > 1048576 then (some true) else ((laws_szArbiter.f l0_0 a0_1 a0_2 1048576).bind fun t189 => (if t189 < 0 then (some true) else ((laws_toArbiter.f k l0_0 a0_1 a0_2).bind fun bt190 => ((laws_toBoolS.f k l1).bind fun t195 => ((spec_Grant.f k bt190.1 bt190.2.1 bt190.2.2 t195).bind fun bt198 => ((laws_toArbiter.f k l0_0 a0_1 a0_2).bind fun bt205 => ((laws_toBoolS.f k l1).bind fun t211 => ((impl_Grant.f k bt205.1 bt205.2.1 bt205.2.2 t211).bind fun bt214 => ((laws_eqArbiter.f k bt214.1 bt214.2.1 bt214.2.2.1 bt198.1 bt198.2.1 bt198.2.2.1).bind fun t221 => (if t221 = true then (laws_FnExactGrant.j0 k l1 bt198.2.2.2 t211 bt214.2.2.2 (bt214.2.2.2 != bt198.2.2.2) l0_0 a0_1 a0_2 bt198.1 bt198.2.1 bt198.2.2.1 bt205.1 bt205.2.1 bt205.2.2 bt214.1 bt214.2.1 bt214.2.2.1) else (laws_FnExactGrant.j0 k l1 bt198.2.2.2 t211 bt214.2.2.2 true l0_0 a0_1 a0_2 bt198.1 bt198.2.1 bt198.2.2.1 bt205.1 bt205.2.1 bt205.2.2 bt214.1 bt214.2.1 bt214.2.2.1)))))))))))) = some r := h
  clear h
  by_cases c3 : (l1.length : Int) > 1048576
  · rw [if_pos c3] at H
    have c3b0 : decide (1048576 < (l1.length : Int)) = true := decide_eq_true c3
    have c3b1 : decide (1048576 < l1.length) = true := decide_eq_true (by omega)
    clear c3
    obtain rfl := Option.some.inj H
    go_enter Try.func10, Try.ntmps10
    go_wp2_with (first | ((with_reducible refine gate_dst (N := 2) rfl ?_); refine box_event ?hg (N := 2) ?hd (cs := #[.slice A0_0 l0_0.length c0_0, .int .i64 a0_1, .int .i64 a0_2]) (t := 30) ?hr ?_; (case hd => rfl); (case hg => rfl); (case hr => first | (go_simp; done) | (go_simp; rfl)); intro gb188 hg w4 hbox hb; have n0_ := Aside0.mk (below_step (by repeat (first | (with_reducible first | exact HB.out | apply below_alloc | apply pw_below_drewN | apply below_drew1) | exact HB.out)) hb); have n1_ := Aside0.mk (hbox); have n2_ := Aside0.mk ((by rw [hg]; exact (below_size (by repeat (first | (with_reducible first | exact HB.out | apply below_alloc | apply pw_below_drewN | apply below_drew1) | exact HB.out))) : w.heap.size ≤ gb188)); have n3_ := Aside0.mk ((by rw [hg]; exact (below_size (by repeat (first | (with_reducible first | exact HB.out | apply below_alloc | apply pw_below_drewN | apply below_drew1) | exact HB.out))) : w.heap.size ≤ gb188)); clear HB; have HB := n0_; have BK188 := n1_; have GW188 := n2_; have GE188 := n3_; clear n0_ n1_ n2_ n3_; clear hb hbox hg))
    go_ret
    exact ⟨by first | rfl | (simp [*] <;> rfl), by repeat (first | (with_reducible first | exact HB.out | apply below_alloc | apply pw_below_drewN | apply below_drew1 | refine below_set ?_ GE188.out) | exact HB.out)⟩
  · rw [if_neg c3] at H
    have c3b0 : decide (1048576 < (l1.length : Int)) = false := decide_eq_false c3
    have c3b1 : decide (1048576 < l1.length) = false := decide_eq_false (by omega)
    clear c3
    replace H := Option.bind_eq_some_iff.mp H
    obtain ⟨t189, A50, H⟩ := H
    replace H : (if t189 < 0 then (some true) else ((laws_toArbiter.f k l0_0 a0_1 a0_2).bind fun bt190 => ((laws_toBoolS.f k l1).bind fun t195 => ((spec_Grant.f k bt190.1 bt190.2.1 bt190.2.2 t195).bind fun bt198 => ((laws_toArbiter.f k l0_0 a0_1 a0_2).bind fun bt205 => ((laws_toBoolS.f k l1).bind fun t211 => ((impl_Grant.f k bt205.1 bt205.2.1 bt205.2.2 t211).bind fun bt214 => ((laws_eqArbiter.f k bt214.1 bt214.2.1 bt214.2.2.1 bt198.1 bt198.2.1 bt198.2.2.1).bind fun t221 => (if t221 = true then (laws_FnExactGrant.j0 k l1 bt198.2.2.2 t211 bt214.2.2.2 (bt214.2.2.2 != bt198.2.2.2) l0_0 a0_1 a0_2 bt198.1 bt198.2.1 bt198.2.2.1 bt205.1 bt205.2.1 bt205.2.2 bt214.1 bt214.2.1 bt214.2.2.1) else (laws_FnExactGrant.j0 k l1 bt198.2.2.2 t211 bt214.2.2.2 true l0_0 a0_1 a0_2 bt198.1 bt198.2.1 bt198.2.2.1 bt205.1 bt205.2.1 bt205.2.2 bt214.1 bt214.2.1 bt214.2.2.1)))))))))) = some r := H
    have A5 := Aside0.mk A50
    clear A50
    by_cases c6 : t189 < 0
    · rw [if_pos c6] at H
      have c6b0 : decide (t189 < 0) = true := decide_eq_true c6
      clear c6
      obtain rfl := Option.some.inj H
      go_enter Try.func10, Try.ntmps10
      go_wp2_with (first | ((with_reducible refine gate_dst (N := 2) rfl ?_); refine box_event ?hg (N := 2) ?hd (cs := #[.slice A0_0 l0_0.length c0_0, .int .i64 a0_1, .int .i64 a0_2]) (t := 30) ?hr ?_; (case hd => rfl); (case hg => rfl); (case hr => first | (go_simp; done) | (go_simp; rfl)); intro gb188 hg w7 hbox hb; have n0_ := Aside0.mk (below_step (by repeat (first | (with_reducible first | exact HB.out | apply below_alloc | apply pw_below_drewN | apply below_drew1) | exact HB.out)) hb); have n1_ := Aside0.mk (hbox); have n2_ := Aside0.mk ((by rw [hg]; exact (below_size (by repeat (first | (with_reducible first | exact HB.out | apply below_alloc | apply pw_below_drewN | apply below_drew1) | exact HB.out))) : w.heap.size ≤ gb188)); have n3_ := Aside0.mk ((by rw [hg]; exact (below_size (by repeat (first | (with_reducible first | exact HB.out | apply below_alloc | apply pw_below_drewN | apply below_drew1) | exact HB.out))) : w.heap.size ≤ gb188)); clear HB; have HB := n0_; have BK188 := n1_; have GW188 := n2_; have GE188 := n3_; clear n0_ n1_ n2_ n3_; clear hb hbox hg; have hcz8_0 : w7.cell? ⟨gb188, 0, none⟩ = some (.slice A0_0 l0_0.length c0_0) := (blk_cell BK188.out 0).trans rfl; have hcz8_1 : w7.cell? ⟨gb188, 1, none⟩ = some (.int .i64 a0_1) := (blk_cell BK188.out 1).trans rfl; have hcz8_2 : w7.cell? ⟨gb188, 2, none⟩ = some (.int .i64 a0_2) := (blk_cell BK188.out 2).trans rfl; have hfz8_0 := blk_frozen BK188.out 0; have hfz8_1 := blk_frozen BK188.out 1; have hfz8_2 := blk_frozen BK188.out 2) | ((with_reducible refine gate_callee (f := 20) rfl ?_); refine goesL_ (some 22) rfl rfl Try.func20 (by kernel_rfl) rfl #[.agg #[.slice A0_0 l0_0.length c0_0, .int .i64 a0_1, .int .i64 a0_2], .int .i64 1048576] rfl (by (try simp only [List.map_toArray, List.map_cons, List.map_nil]); first | done | rfl) ?_; (with_reducible refine (laws_szArbiter.calls _ _ l0_0 a0_1 a0_2 1048576 t189 _ ?side1 ?side2 A5.out).mono ?_); (case side1 => repeat (first | exact (Kd.C_below HR0_0.out HB.out) | (with_reducible refine Kd.C_alloc ?_ _) | (with_reducible refine Kd.C_drewN ?_ _) | (with_reducible refine Kd.C_drew ?_))); (case side2 => exact HC0_0.out); rintro e w9 ⟨rfl, hb⟩; refine ⟨_, rfl, ?_⟩; have n0_ := Aside0.mk (blk_below (g := gb188) (o := .cells #[.slice A0_0 l0_0.length c0_0, .int .i64 a0_1, .int .i64 a0_2] 30 (0, 0)) (by (with_reducible repeat (first | apply blk_drewN | apply blk_drew | apply blk_alloc)); exact BK188.out) hb); have n1_ := Aside0.mk (below_step (by repeat (first | (with_reducible first | exact HB.out | apply below_alloc | apply pw_below_drewN | apply below_drew1 | refine below_set ?_ GE188.out) | exact HB.out)) hb); clear BK188; clear HB; have BK188 := n0_; have HB := n1_; clear n0_ n1_; (try clear hb); (try clear hb2); (try clear hk); (try clear hi)))
      go_ret
      exact ⟨by first | rfl | (simp [*] <;> rfl), by repeat (first | (with_reducible first | exact HB.out | apply below_alloc | apply pw_below_drewN | apply below_drew1 | refine below_set ?_ GE188.out) | exact HB.out)⟩
    · rw [if_neg c6] at H
      have c6b0 : decide (t189 < 0) = false := decide_eq_false c6
      clear c6
      replace H := Option.bind_eq_some_iff.mp H
      obtain ⟨⟨t190, t193, t194⟩, A100, H⟩ := H
      replace H : ((laws_toBoolS.f k l1).bind fun t195 => ((spec_Grant.f k t190 t193 t194 t195).bind fun bt198 => ((laws_toArbiter.f k l0_0 a0_1 a0_2).bind fun bt205 => ((laws_toBoolS.f k l1).bind fun t211 => ((impl_Grant.f k bt205.1 bt205.2.1 bt205.2.2 t211).bind fun bt214 => ((laws_eqArbiter.f k bt214.1 bt214.2.1 bt214.2.2.1 bt198.1 bt198.2.1 bt198.2.2.1).bind fun t221 => (if t221 = true then (laws_FnExactGrant.j0 k l1 bt198.2.2.2 t211 bt214.2.2.2 (bt214.2.2.2 != bt198.2.2.2) l0_0 a0_1 a0_2 bt198.1 bt198.2.1 bt198.2.2.1 bt205.1 bt205.2.1 bt205.2.2 bt214.1 bt214.2.1 bt214.2.2.1) else (laws_FnExactGrant.j0 k l1 bt198.2.2.2 t211 bt214.2.2.2 true l0_0 a0_1 a0_2 bt198.1 bt198.2.1 bt198.2.2.1 bt205.1 bt205.2.1 bt205.2.2 bt214.1 bt214.2.1 bt214.2.2.1)))))))) = some r := H
      have A10 := Aside0.mk A100
      clear A100
      replace H := Option.bind_eq_some_iff.mp H
      obtain ⟨t195, A110, H⟩ := H
      replace H : ((spec_Grant.f k t190 t193 t194 t195).bind fun bt198 => ((laws_toArbiter.f k l0_0 a0_1 a0_2).bind fun bt205 => ((laws_toBoolS.f k l1).bind fun t211 => ((impl_Grant.f k bt205.1 bt205.2.1 bt205.2.2 t211).bind fun bt214 => ((laws_eqArbiter.f k bt214.1 bt214.2.1 bt214.2.2.1 bt198.1 bt198.2.1 bt198.2.2.1).bind fun t221 => (if t221 = true then (laws_FnExactGrant.j0 k l1 bt198.2.2.2 t211 bt214.2.2.2 (bt214.2.2.2 != bt198.2.2.2) l0_0 a0_1 a0_2 bt198.1 bt198.2.1 bt198.2.2.1 bt205.1 bt205.2.1 bt205.2.2 bt214.1 bt214.2.1 bt214.2.2.1) else (laws_FnExactGrant.j0 k l1 bt198.2.2.2 t211 bt214.2.2.2 true l0_0 a0_1 a0_2 bt198.1 bt198.2.1 bt198.2.2.1 bt205.1 bt205.2.1 bt205.2.2 bt214.1 bt214.2.1 bt214.2.2.1))))))) = some r := H
      have A11 := Aside0.mk A110
      clear A110
      replace H := Option.bind_eq_some_iff.mp H
      obtain ⟨⟨t198, t201, t202, t203⟩, A120, H⟩ := H
      replace H : ((laws_toArbiter.f k l0_0 a0_1 a0_2).bind fun bt205 => ((laws_toBoolS.f k l1).bind fun t211 => ((impl_Grant.f k bt205.1 bt205.2.1 bt205.2.2 t211).bind fun bt214 => ((laws_eqArbiter.f k bt214.1 bt214.2.1 bt214.2.2.1 t198 t201 t202).bind fun t221 => (if t221 = true then (laws_FnExactGrant.j0 k l1 t203 t211 bt214.2.2.2 (bt214.2.2.2 != t203) l0_0 a0_1 a0_2 t198 t201 t202 bt205.1 bt205.2.1 bt205.2.2 bt214.1 bt214.2.1 bt214.2.2.1) else (laws_FnExactGrant.j0 k l1 t203 t211 bt214.2.2.2 true l0_0 a0_1 a0_2 t198 t201 t202 bt205.1 bt205.2.1 bt205.2.2 bt214.1 bt214.2.1 bt214.2.2.1)))))) = some r := H
      have A12 := Aside0.mk A120
      clear A120
      replace H := Option.bind_eq_some_iff.mp H
      obtain ⟨⟨t205, t208, t209⟩, A130, H⟩ := H
      replace H : ((laws_toBoolS.f k l1).bind fun t211 => ((impl_Grant.f k t205 t208 t209 t211).bind fun bt214 => ((laws_eqArbiter.f k bt214.1 bt214.2.1 bt214.2.2.1 t198 t201 t202).bind fun t221 => (if t221 = true then (laws_FnExactGrant.j0 k l1 t203 t211 bt214.2.2.2 (bt214.2.2.2 != t203) l0_0 a0_1 a0_2 t198 t201 t202 t205 t208 t209 bt214.1 bt214.2.1 bt214.2.2.1) else (laws_FnExactGrant.j0 k l1 t203 t211 bt214.2.2.2 true l0_0 a0_1 a0_2 t198 t201 t202 t205 t208 t209 bt214.1 bt214.2.1 bt214.2.2.1))))) = some r := H
      have A13 := Aside0.mk A130
      clear A130
      replace H := Option.bind_eq_some_iff.mp H
      obtain ⟨t211, A140, H⟩ := H
      replace H : ((impl_Grant.f k t205 t208 t209 t211).bind fun bt214 => ((laws_eqArbiter.f k bt214.1 bt214.2.1 bt214.2.2.1 t198 t201 t202).bind fun t221 => (if t221 = true then (laws_FnExactGrant.j0 k l1 t203 t211 bt214.2.2.2 (bt214.2.2.2 != t203) l0_0 a0_1 a0_2 t198 t201 t202 t205 t208 t209 bt214.1 bt214.2.1 bt214.2.2.1) else (laws_FnExactGrant.j0 k l1 t203 t211 bt214.2.2.2 true l0_0 a0_1 a0_2 t198 t201 t202 t205 t208 t209 bt214.1 bt214.2.1 bt214.2.2.1)))) = some r := H
      have A14 := Aside0.mk A140
      clear A140
      replace H := Option.bind_eq_some_iff.mp H
      obtain ⟨⟨t214, t217, t218, t219⟩, A150, H⟩ := H
      replace H : ((laws_eqArbiter.f k t214 t217 t218 t198 t201 t202).bind fun t221 => (if t221 = true then (laws_FnExactGrant.j0 k l1 t203 t211 t219 (t219 != t203) l0_0 a0_1 a0_2 t198 t201 t202 t205 t208 t209 t214 t217 t218) else (laws_FnExactGrant.j0 k l1 t203 t211 t219 true l0_0 a0_1 a0_2 t198 t201 t202 t205 t208 t209 t214 t217 t218))) = some r := H
      have A15 := Aside0.mk A150
      clear A150
      have HC16 := Aside0.mk H
      clear H
      go_enter Try.func10, Try.ntmps10
      go_upto_region 11 with (first | ((with_reducible refine gate_dst (N := 2) rfl ?_); refine box_event ?hg (N := 2) ?hd (cs := #[.slice A0_0 l0_0.length c0_0, .int .i64 a0_1, .int .i64 a0_2]) (t := 30) ?hr ?_; (case hd => rfl); (case hg => rfl); (case hr => first | (go_simp; done) | (go_simp; rfl)); intro gb188 hg w17 hbox hb; have n0_ := Aside0.mk (below_step (by repeat (first | (with_reducible first | exact HB.out | apply below_alloc | apply pw_below_drewN | apply below_drew1) | exact HB.out)) hb); have n1_ := Aside0.mk (hbox); have n2_ := Aside0.mk ((by rw [hg]; exact (below_size (by repeat (first | (with_reducible first | exact HB.out | apply below_alloc | apply pw_below_drewN | apply below_drew1) | exact HB.out))) : w.heap.size ≤ gb188)); have n3_ := Aside0.mk ((by rw [hg]; exact (below_size (by repeat (first | (with_reducible first | exact HB.out | apply below_alloc | apply pw_below_drewN | apply below_drew1) | exact HB.out))) : w.heap.size ≤ gb188)); clear HB; have HB := n0_; have BK188 := n1_; have GW188 := n2_; have GE188 := n3_; clear n0_ n1_ n2_ n3_; clear hb hbox hg; have hcz18_0 : w17.cell? ⟨gb188, 0, none⟩ = some (.slice A0_0 l0_0.length c0_0) := (blk_cell BK188.out 0).trans rfl; have hcz18_1 : w17.cell? ⟨gb188, 1, none⟩ = some (.int .i64 a0_1) := (blk_cell BK188.out 1).trans rfl; have hcz18_2 : w17.cell? ⟨gb188, 2, none⟩ = some (.int .i64 a0_2) := (blk_cell BK188.out 2).trans rfl; have hfz18_0 := blk_frozen BK188.out 0; have hfz18_1 := blk_frozen BK188.out 1; have hfz18_2 := blk_frozen BK188.out 2) | ((with_reducible refine gate_callee (f := 20) rfl ?_); refine goesL_ (some 22) rfl rfl Try.func20 (by kernel_rfl) rfl #[.agg #[.slice A0_0 l0_0.length c0_0, .int .i64 a0_1, .int .i64 a0_2], .int .i64 1048576] rfl (by (try simp only [List.map_toArray, List.map_cons, List.map_nil]); first | done | rfl) ?_; (with_reducible refine (laws_szArbiter.calls _ _ l0_0 a0_1 a0_2 1048576 t189 _ ?side1 ?side2 A5.out).mono ?_); (case side1 => repeat (first | exact (Kd.C_below HR0_0.out HB.out) | (with_reducible refine Kd.C_alloc ?_ _) | (with_reducible refine Kd.C_drewN ?_ _) | (with_reducible refine Kd.C_drew ?_))); (case side2 => exact HC0_0.out); rintro e w19 ⟨rfl, hb⟩; refine ⟨_, rfl, ?_⟩; have n0_ := Aside0.mk (blk_below (g := gb188) (o := .cells #[.slice A0_0 l0_0.length c0_0, .int .i64 a0_1, .int .i64 a0_2] 30 (0, 0)) (by (with_reducible repeat (first | apply blk_drewN | apply blk_drew | apply blk_alloc)); exact BK188.out) hb); have n1_ := Aside0.mk (below_step (by repeat (first | (with_reducible first | exact HB.out | apply below_alloc | apply pw_below_drewN | apply below_drew1 | refine below_set ?_ GE188.out) | exact HB.out)) hb); clear BK188; clear HB; have BK188 := n0_; have HB := n1_; clear n0_ n1_; (try clear hb); (try clear hb2); (try clear hk); (try clear hi); have hcz20_0 : w19.cell? ⟨gb188, 0, none⟩ = some (.slice A0_0 l0_0.length c0_0) := (blk_cell BK188.out 0).trans rfl; have hcz20_1 : w19.cell? ⟨gb188, 1, none⟩ = some (.int .i64 a0_1) := (blk_cell BK188.out 1).trans rfl; have hcz20_2 : w19.cell? ⟨gb188, 2, none⟩ = some (.int .i64 a0_2) := (blk_cell BK188.out 2).trans rfl; have hfz20_0 := blk_frozen BK188.out 0; have hfz20_1 := blk_frozen BK188.out 1; have hfz20_2 := blk_frozen BK188.out 2) | ((with_reducible refine gate_callee (f := 22) rfl ?_); refine goesL_ (some 27) rfl rfl Try.func22 (by kernel_rfl) rfl #[.agg #[.slice A0_0 l0_0.length c0_0, .int .i64 a0_1, .int .i64 a0_2]] rfl (by (try simp only [List.map_toArray, List.map_cons, List.map_nil]); first | done | rfl) ?_; (with_reducible refine (laws_toArbiter.calls k _ _ l0_0 a0_1 a0_2 t190 t193 t194 _ ?side1 ?side2 A10.out).mono ?_); (case side1 => repeat (first | exact (Kd.C_below HR0_0.out HB.out) | (with_reducible refine Kd.C_alloc ?_ _) | (with_reducible refine Kd.C_drewN ?_ _) | (with_reducible refine Kd.C_drew ?_))); (case side2 => exact HC0_0.out); rintro e w21 ⟨v191, rfl, ho0, hb⟩; refine ⟨_, rfl, ?_⟩; have n0_ := Aside0.mk (Kd.R_lower ho0 (below_size (by repeat (first | (with_reducible first | exact HB.out | apply below_alloc | apply pw_below_drewN | apply below_drew1 | refine below_set ?_ GE188.out) | exact HB.out)))); have n1_ := Aside0.mk (blk_below (g := gb188) (o := .cells #[.slice A0_0 l0_0.length c0_0, .int .i64 a0_1, .int .i64 a0_2] 30 (0, 0)) (by (with_reducible repeat (first | apply blk_drewN | apply blk_drew | apply blk_alloc)); exact BK188.out) hb); have n2_ := Aside0.mk (below_step (by repeat (first | (with_reducible first | exact HB.out | apply below_alloc | apply pw_below_drewN | apply below_drew1 | refine below_set ?_ GE188.out) | exact HB.out)) hb); clear BK188; clear HB; have HO192 := n0_; have BK188 := n1_; have HB := n2_; clear n0_ n1_ n2_; (try clear hb); (try clear hb2); (try clear hk); (try clear hi); (try clear ho0)) | ((with_reducible refine gate_callee (f := 36) rfl ?_); refine goesL_ (some 29) rfl rfl Try.func36 (by kernel_rfl) rfl #[.slice A1 l1.length c1] rfl (by (try simp only [List.map_toArray, List.map_cons, List.map_nil]); first | done | rfl) ?_; (with_reducible refine (laws_toBoolS.calls k _ _ l1 t195 _ ?side1 ?side2 A11.out).mono ?_); (case side1 => repeat (first | exact (Kd.C_below HR1.out HB.out) | (with_reducible refine Kd.C_alloc ?_ _) | (with_reducible refine Kd.C_drewN ?_ _) | (with_reducible refine Kd.C_drew ?_))); (case side2 => exact HC1.out); rintro e w22 ⟨v196, rfl, ho0, hb⟩; refine ⟨_, rfl, ?_⟩; have n0_ := Aside0.mk (Kd.R_below (by (with_reducible repeat (first | apply Kd.R_alloc | apply Kd.R_drewN | apply Kd.R_drew)); exact HO192.out) hb); have n1_ := Aside0.mk (Kd.R_lower ho0 (below_size (by repeat (first | (with_reducible first | exact HB.out | apply below_alloc | apply pw_below_drewN | apply below_drew1 | refine below_set ?_ GE188.out) | exact HB.out)))); have n2_ := Aside0.mk (blk_below (g := gb188) (o := .cells #[.slice A0_0 l0_0.length c0_0, .int .i64 a0_1, .int .i64 a0_2] 30 (0, 0)) (by (with_reducible repeat (first | apply blk_drewN | apply blk_drew | apply blk_alloc)); exact BK188.out) hb); have n3_ := Aside0.mk (below_step (by repeat (first | (with_reducible first | exact HB.out | apply below_alloc | apply pw_below_drewN | apply below_drew1 | refine below_set ?_ GE188.out) | exact HB.out)) hb); clear HO192; clear BK188; clear HB; have HO192 := n0_; have HO197 := n1_; have BK188 := n2_; have HB := n3_; clear n0_ n1_ n2_ n3_; (try clear hb); (try clear hb2); (try clear hk); (try clear hi); (try clear ho0); obtain ⟨Ao23, co23, eo23⟩ := Kd.R_slice HO192.out; subst eo23; obtain ⟨Ao24, co24, eo24⟩ := Kd.R_slice HO197.out; subst eo24) | ((with_reducible refine gate_callee (f := 35) rfl ?_); refine goesL_ (some 30) rfl rfl Try.func35 (by kernel_rfl) rfl #[.agg #[.slice Ao23 t190.length co23, .int .i64 t193, .int .i64 t194], .slice Ao24 t195.length co24] rfl (by (try simp only [List.map_toArray, List.map_cons, List.map_nil]); first | done | rfl) ?_; (with_reducible refine (spec_Grant.calls k _ _ t190 t193 t194 _ _ t195 t198 t201 t202 t203 _ ?side1 ?side2 ?side3 ?side4 A12.out).mono ?_); (case side1 => repeat (first | exact (Kd.R_reads' HO192.out).2.2 | (with_reducible refine Kd.C_alloc ?_ _) | (with_reducible refine Kd.C_drewN ?_ _) | (with_reducible refine Kd.C_drew ?_))); (case side2 => exact (Kd.R_reads' HO192.out).2.1); (case side3 => repeat (first | exact (Kd.R_reads' HO197.out).2.2 | (with_reducible refine Kd.C_alloc ?_ _) | (with_reducible refine Kd.C_drewN ?_ _) | (with_reducible refine Kd.C_drew ?_))); (case side4 => exact (Kd.R_reads' HO197.out).2.1); rintro e w25 ⟨v199, rfl, ho0, hb⟩; refine ⟨_, rfl, ?_⟩; have n0_ := Aside0.mk (Kd.R_elder' (by (with_reducible repeat (first | apply Kd.R_alloc | apply Kd.R_drewN | apply Kd.R_drew)); exact HO192.out) (Kd.R_base ho0) hb); have n1_ := Aside0.mk (Kd.R_below (by (with_reducible repeat (first | apply Kd.R_alloc | apply Kd.R_drewN | apply Kd.R_drew)); exact HO197.out) hb); have n2_ := Aside0.mk (Kd.R_lower (Kd.R_new' ho0 (Kd.R_lt (by (with_reducible repeat (first | apply Kd.R_alloc | apply Kd.R_drewN | apply Kd.R_drew)); exact HO192.out))) (below_size (by repeat (first | (with_reducible first | exact HB.out | apply below_alloc | apply pw_below_drewN | apply below_drew1 | refine below_set ?_ GE188.out) | exact HB.out)))); have n3_ := Aside0.mk (blk_below (g := gb188) (o := .cells #[.slice A0_0 l0_0.length c0_0, .int .i64 a0_1, .int .i64 a0_2] 30 (0, 0)) (by (with_reducible repeat (first | apply blk_drewN | apply blk_drew | apply blk_alloc)); exact BK188.out) hb); have n4_ := Aside0.mk (below_step (by repeat (first | (with_reducible first | exact HB.out | apply below_alloc | apply pw_below_drewN | apply below_drew1 | refine below_set ?_ GE188.out) | exact HB.out)) hb); clear HO192; clear HO197; clear BK188; clear HB; have HO192 := n0_; have HO197 := n1_; have HO200 := n2_; have BK188 := n3_; have HB := n4_; clear n0_ n1_ n2_ n3_ n4_; (try clear hb); (try clear hb2); (try clear hk); (try clear hi); (try clear ho0)) | ((with_reducible refine gate_dst (N := 6) rfl ?_); refine box_event ?hg (N := 6) ?hd (cs := #[.slice none 0 0, .int .i64 0, .int .i64 0]) (t := 33) ?hr ?_; (case hd => rfl); (case hg => rfl); (case hr => first | (go_simp; done) | (go_simp; rfl)); intro gb204 hg w26 hbox hb; have n0_ := Aside0.mk (Kd.R_below (by (with_reducible repeat (first | apply Kd.R_alloc | apply Kd.R_drewN | apply Kd.R_drew)); exact HO192.out) hb); have n1_ := Aside0.mk (Kd.R_below (by (with_reducible repeat (first | apply Kd.R_alloc | apply Kd.R_drewN | apply Kd.R_drew)); exact HO197.out) hb); have n2_ := Aside0.mk (Kd.R_below (by (with_reducible repeat (first | apply Kd.R_alloc | apply Kd.R_drewN | apply Kd.R_drew)); exact HO200.out) hb); have n3_ := Aside0.mk (blk_below (g := gb188) (o := .cells #[.slice A0_0 l0_0.length c0_0, .int .i64 a0_1, .int .i64 a0_2] 30 (0, 0)) (by (with_reducible repeat (first | apply blk_drewN | apply blk_drew | apply blk_alloc)); exact BK188.out) hb); have n4_ := Aside0.mk (below_step (by repeat (first | (with_reducible first | exact HB.out | apply below_alloc | apply pw_below_drewN | apply below_drew1 | refine below_set ?_ GE188.out) | exact HB.out)) hb); have n5_ := Aside0.mk (hbox); have n6_ := Aside0.mk ((by rw [hg]; exact (below_size (by repeat (first | (with_reducible first | exact HB.out | apply below_alloc | apply pw_below_drewN | apply below_drew1 | refine below_set ?_ GE188.out) | exact HB.out))) : w.heap.size ≤ gb204)); have n7_ := Aside0.mk ((by rw [hg]; exact (below_size (by repeat (first | (with_reducible first | exact HB.out | apply below_alloc | apply pw_below_drewN | apply below_drew1 | refine below_set ?_ GE188.out) | exact HB.out))) : w.heap.size ≤ gb204)); have n8_ := Aside0.mk ((by rw [hg]; exact Nat.ne_of_lt (blk_lt (g := gb188) (o := .cells #[.slice A0_0 l0_0.length c0_0, .int .i64 a0_1, .int .i64 a0_2] 30 (0, 0)) (by (with_reducible repeat (first | apply blk_drewN | apply blk_drew | apply blk_alloc)); exact BK188.out)) : gb188 ≠ gb204)); have n9_ := Aside0.mk ((by rw [hg]; exact Nat.ne_of_gt (blk_lt (g := gb188) (o := .cells #[.slice A0_0 l0_0.length c0_0, .int .i64 a0_1, .int .i64 a0_2] 30 (0, 0)) (by (with_reducible repeat (first | apply blk_drewN | apply blk_drew | apply blk_alloc)); exact BK188.out)) : gb204 ≠ gb188)); clear HO192; clear HO197; clear HO200; clear BK188; clear HB; have HO192 := n0_; have HO197 := n1_; have HO200 := n2_; have BK188 := n3_; have HB := n4_; have BK204 := n5_; have GW204 := n6_; have GE204 := n7_; have NB188_204 := n8_; have NB204_188 := n9_; clear n0_ n1_ n2_ n3_ n4_ n5_ n6_ n7_ n8_ n9_; clear hb hbox hg; obtain ⟨Ao27, co27, eo27⟩ := Kd.R_slice HO200.out; subst eo27; have hnb28 := NB204_188.out; have hnc28 := NB188_204.out; have hcz29_0 : w26.cell? ⟨gb204, 0, none⟩ = some (.slice none 0 0) := (blk_cell BK204.out 0).trans rfl; have hcz29_1 : w26.cell? ⟨gb204, 1, none⟩ = some (.int .i64 0) := (blk_cell BK204.out 1).trans rfl; have hcz29_2 : w26.cell? ⟨gb204, 2, none⟩ = some (.int .i64 0) := (blk_cell BK204.out 2).trans rfl; have hfz29_0 := blk_frozen BK204.out 0; have hfz29_1 := blk_frozen BK204.out 1; have hfz29_2 := blk_frozen BK204.out 2; have hcz30_0 : w26.cell? ⟨gb188, 0, none⟩ = some (.slice A0_0 l0_0.length c0_0) := (blk_cell BK188.out 0).trans rfl; have hcz30_1 : w26.cell? ⟨gb188, 1, none⟩ = some (.int .i64 a0_1) := (blk_cell BK188.out 1).trans rfl; have hcz30_2 : w26.cell? ⟨gb188, 2, none⟩ = some (.int .i64 a0_2) := (blk_cell BK188.out 2).trans rfl; have hfz30_0 := blk_frozen BK188.out 0; have hfz30_1 := blk_frozen BK188.out 1; have hfz30_2 := blk_frozen BK188.out 2) | ((with_reducible refine gate_callee (f := 22) rfl ?_); refine goesL_ (some 34) rfl rfl Try.func22 (by kernel_rfl) rfl #[.agg #[.slice A0_0 l0_0.length c0_0, .int .i64 a0_1, .int .i64 a0_2]] rfl (by (try simp only [List.map_toArray, List.map_cons, List.map_nil]); first | done | rfl) ?_; (with_reducible refine (laws_toArbiter.calls k _ _ l0_0 a0_1 a0_2 t205 t208 t209 _ ?side1 ?side2 A13.out).mono ?_); (case side1 => exact Kd.C_below HR0_0.out (by repeat (first | (with_reducible first | exact HB.out | apply below_alloc | apply pw_below_drewN | apply below_drew1 | refine below_set ?_ GE188.out | refine below_set ?_ GE204.out) | exact HB.out))); (case side2 => exact HC0_0.out); rintro e w31 ⟨v206, rfl, ho0, hb⟩; refine ⟨_, rfl, ?_⟩; have n0_ := Aside0.mk (Kd.R_elder' (by (with_reducible repeat (first | apply Kd.R_alloc | apply Kd.R_drewN | apply Kd.R_drew)); exact (Kd.R_mono (Kd.R_far (p := ⟨gb204, 2, none⟩) (Kd.R_far (p := ⟨gb204, 1, none⟩) (Kd.R_far (p := ⟨gb204, 0, none⟩) (Kd.R_types HO192.out BK204.out (by decide)) (fun _ hk => hk.2) (.slice Ao27 t198.length co27)) (fun _ hk => hk.2) (.int .i64 t201)) (fun _ hk => hk.2) (.int .i64 t202)) (fun _ h_ => h_.1))) (Kd.R_base ho0) hb); have n1_ := Aside0.mk (Kd.R_below (by (with_reducible repeat (first | apply Kd.R_alloc | apply Kd.R_drewN | apply Kd.R_drew)); exact (Kd.R_mono (Kd.R_far (p := ⟨gb204, 2, none⟩) (Kd.R_far (p := ⟨gb204, 1, none⟩) (Kd.R_far (p := ⟨gb204, 0, none⟩) (Kd.R_types HO197.out BK204.out (by decide)) (fun _ hk => hk.2) (.slice Ao27 t198.length co27)) (fun _ hk => hk.2) (.int .i64 t201)) (fun _ hk => hk.2) (.int .i64 t202)) (fun _ h_ => h_.1))) hb); have n2_ := Aside0.mk (Kd.R_elder' (by (with_reducible repeat (first | apply Kd.R_alloc | apply Kd.R_drewN | apply Kd.R_drew)); exact (Kd.R_mono (Kd.R_far (p := ⟨gb204, 2, none⟩) (Kd.R_far (p := ⟨gb204, 1, none⟩) (Kd.R_far (p := ⟨gb204, 0, none⟩) (Kd.R_types HO200.out BK204.out (by decide)) (fun _ hk => hk.2) (.slice Ao27 t198.length co27)) (fun _ hk => hk.2) (.int .i64 t201)) (fun _ hk => hk.2) (.int .i64 t202)) (fun _ h_ => h_.1))) (Kd.R_base ho0) hb); have n3_ := Aside0.mk (Kd.R_lower (Kd.R_new' (Kd.R_new' ho0 (Kd.R_lt (by (with_reducible repeat (first | apply Kd.R_alloc | apply Kd.R_drewN | apply Kd.R_drew)); exact (Kd.R_mono (Kd.R_far (p := ⟨gb204, 2, none⟩) (Kd.R_far (p := ⟨gb204, 1, none⟩) (Kd.R_far (p := ⟨gb204, 0, none⟩) (Kd.R_types HO192.out BK204.out (by decide)) (fun _ hk => hk.2) (.slice Ao27 t198.length co27)) (fun _ hk => hk.2) (.int .i64 t201)) (fun _ hk => hk.2) (.int .i64 t202)) (fun _ h_ => h_.1))))) (Kd.R_lt (by (with_reducible repeat (first | apply Kd.R_alloc | apply Kd.R_drewN | apply Kd.R_drew)); exact (Kd.R_mono (Kd.R_far (p := ⟨gb204, 2, none⟩) (Kd.R_far (p := ⟨gb204, 1, none⟩) (Kd.R_far (p := ⟨gb204, 0, none⟩) (Kd.R_types HO200.out BK204.out (by decide)) (fun _ hk => hk.2) (.slice Ao27 t198.length co27)) (fun _ hk => hk.2) (.int .i64 t201)) (fun _ hk => hk.2) (.int .i64 t202)) (fun _ h_ => h_.1))))) (below_size (by repeat (first | (with_reducible first | exact HB.out | apply below_alloc | apply pw_below_drewN | apply below_drew1 | refine below_set ?_ GE188.out | refine below_set ?_ GE204.out) | exact HB.out)))); have n4_ := Aside0.mk (blk_below (g := gb188) (o := .cells #[.slice A0_0 l0_0.length c0_0, .int .i64 a0_1, .int .i64 a0_2] 30 (0, 0)) (by (with_reducible repeat (first | apply blk_drewN | apply blk_drew | apply blk_alloc)); refine blk_far ?_ NB188_204.out _; (with_reducible repeat (first | apply blk_drewN | apply blk_drew | apply blk_alloc)); refine blk_far ?_ NB188_204.out _; (with_reducible repeat (first | apply blk_drewN | apply blk_drew | apply blk_alloc)); refine blk_far ?_ NB188_204.out _; (with_reducible repeat (first | apply blk_drewN | apply blk_drew | apply blk_alloc)); exact BK188.out) hb); have n5_ := Aside0.mk (blk_below (g := gb204) (o := .cells #[.slice Ao27 t198.length co27, .int .i64 t201, .int .i64 t202] 33 (0, 0)) (by (with_reducible repeat (first | apply blk_drewN | apply blk_drew | apply blk_alloc)); refine blk_put (cs := #[.slice Ao27 t198.length co27, .int .i64 t201, .int .i64 0]) ?_ 2 _ rfl; (with_reducible repeat (first | apply blk_drewN | apply blk_drew | apply blk_alloc)); refine blk_put (cs := #[.slice Ao27 t198.length co27, .int .i64 0, .int .i64 0]) ?_ 1 _ rfl; (with_reducible repeat (first | apply blk_drewN | apply blk_drew | apply blk_alloc)); refine blk_put (cs := #[.slice none 0 0, .int .i64 0, .int .i64 0]) ?_ 0 _ rfl; (with_reducible repeat (first | apply blk_drewN | apply blk_drew | apply blk_alloc)); exact BK204.out) hb); have n6_ := Aside0.mk (below_step (by repeat (first | (with_reducible first | exact HB.out | apply below_alloc | apply pw_below_drewN | apply below_drew1 | refine below_set ?_ GE188.out | refine below_set ?_ GE204.out) | exact HB.out)) hb); clear HO192; clear HO197; clear HO200; clear BK188; clear BK204; clear HB; have HO192 := n0_; have HO197 := n1_; have HO200 := n2_; have HO207 := n3_; have BK188 := n4_; have BK204 := n5_; have HB := n6_; clear n0_ n1_ n2_ n3_ n4_ n5_ n6_; (try clear hb); (try clear hb2); (try clear hk); (try clear hi); (try clear ho0)) | ((with_reducible refine gate_dst (N := 8) rfl ?_); refine box_event ?hg (N := 8) ?hd (cs := #[.slice none 0 0, .int .i64 0, .int .i64 0]) (t := 33) ?hr ?_; (case hd => rfl); (case hg => rfl); (case hr => first | (go_simp; done) | (go_simp; rfl)); intro gb210 hg w32 hbox hb; have n0_ := Aside0.mk (Kd.R_below (by (with_reducible repeat (first | apply Kd.R_alloc | apply Kd.R_drewN | apply Kd.R_drew)); exact HO192.out) hb); have n1_ := Aside0.mk (Kd.R_below (by (with_reducible repeat (first | apply Kd.R_alloc | apply Kd.R_drewN | apply Kd.R_drew)); exact HO197.out) hb); have n2_ := Aside0.mk (Kd.R_below (by (with_reducible repeat (first | apply Kd.R_alloc | apply Kd.R_drewN | apply Kd.R_drew)); exact HO200.out) hb); have n3_ := Aside0.mk (Kd.R_below (by (with_reducible repeat (first | apply Kd.R_alloc | apply Kd.R_drewN | apply Kd.R_drew)); exact HO207.out) hb); have n4_ := Aside0.mk (blk_below (g := gb188) (o := .cells #[.slice A0_0 l0_0.length c0_0, .int .i64 a0_1, .int .i64 a0_2] 30 (0, 0)) (by (with_reducible repeat (first | apply blk_drewN | apply blk_drew | apply blk_alloc)); exact BK188.out) hb); have n5_ := Aside0.mk (blk_below (g := gb204) (o := .cells #[.slice Ao27 t198.length co27, .int .i64 t201, .int .i64 t202] 33 (0, 0)) (by (with_reducible repeat (first | apply blk_drewN | apply blk_drew | apply blk_alloc)); exact BK204.out) hb); have n6_ := Aside0.mk (below_step (by repeat (first | (with_reducible first | exact HB.out | apply below_alloc | apply pw_below_drewN | apply below_drew1 | refine below_set ?_ GE188.out | refine below_set ?_ GE204.out) | exact HB.out)) hb); have n7_ := Aside0.mk (hbox); have n8_ := Aside0.mk ((by rw [hg]; exact (below_size (by repeat (first | (with_reducible first | exact HB.out | apply below_alloc | apply pw_below_drewN | apply below_drew1 | refine below_set ?_ GE188.out | refine below_set ?_ GE204.out) | exact HB.out))) : w.heap.size ≤ gb210)); have n9_ := Aside0.mk ((by rw [hg]; exact (below_size (by repeat (first | (with_reducible first | exact HB.out | apply below_alloc | apply pw_below_drewN | apply below_drew1 | refine below_set ?_ GE188.out | refine below_set ?_ GE204.out) | exact HB.out))) : w.heap.size ≤ gb210)); have n10_ := Aside0.mk ((by rw [hg]; exact Nat.ne_of_lt (blk_lt (g := gb188) (o := .cells #[.slice A0_0 l0_0.length c0_0, .int .i64 a0_1, .int .i64 a0_2] 30 (0, 0)) (by (with_reducible repeat (first | apply blk_drewN | apply blk_drew | apply blk_alloc)); exact BK188.out)) : gb188 ≠ gb210)); have n11_ := Aside0.mk ((by rw [hg]; exact Nat.ne_of_gt (blk_lt (g := gb188) (o := .cells #[.slice A0_0 l0_0.length c0_0, .int .i64 a0_1, .int .i64 a0_2] 30 (0, 0)) (by (with_reducible repeat (first | apply blk_drewN | apply blk_drew | apply blk_alloc)); exact BK188.out)) : gb210 ≠ gb188)); have n12_ := Aside0.mk ((by rw [hg]; exact Nat.ne_of_lt (blk_lt (g := gb204) (o := .cells #[.slice Ao27 t198.length co27, .int .i64 t201, .int .i64 t202] 33 (0, 0)) (by (with_reducible repeat (first | apply blk_drewN | apply blk_drew | apply blk_alloc)); exact BK204.out)) : gb204 ≠ gb210)); have n13_ := Aside0.mk ((by rw [hg]; exact Nat.ne_of_gt (blk_lt (g := gb204) (o := .cells #[.slice Ao27 t198.length co27, .int .i64 t201, .int .i64 t202] 33 (0, 0)) (by (with_reducible repeat (first | apply blk_drewN | apply blk_drew | apply blk_alloc)); exact BK204.out)) : gb210 ≠ gb204)); clear HO192; clear HO197; clear HO200; clear HO207; clear BK188; clear BK204; clear HB; have HO192 := n0_; have HO197 := n1_; have HO200 := n2_; have HO207 := n3_; have BK188 := n4_; have BK204 := n5_; have HB := n6_; have BK210 := n7_; have GW210 := n8_; have GE210 := n9_; have NB188_210 := n10_; have NB210_188 := n11_; have NB204_210 := n12_; have NB210_204 := n13_; clear n0_ n1_ n2_ n3_ n4_ n5_ n6_ n7_ n8_ n9_ n10_ n11_ n12_ n13_; clear hb hbox hg; obtain ⟨Ao33, co33, eo33⟩ := Kd.R_slice HO207.out; subst eo33; have hnb34 := NB210_188.out; have hnc34 := NB188_210.out; have hnb35 := NB210_204.out; have hnc35 := NB204_210.out; have hcz36_0 : w32.cell? ⟨gb210, 0, none⟩ = some (.slice none 0 0) := (blk_cell BK210.out 0).trans rfl; have hcz36_1 : w32.cell? ⟨gb210, 1, none⟩ = some (.int .i64 0) := (blk_cell BK210.out 1).trans rfl; have hcz36_2 : w32.cell? ⟨gb210, 2, none⟩ = some (.int .i64 0) := (blk_cell BK210.out 2).trans rfl; have hfz36_0 := blk_frozen BK210.out 0; have hfz36_1 := blk_frozen BK210.out 1; have hfz36_2 := blk_frozen BK210.out 2) | ((with_reducible refine gate_callee (f := 36) rfl ?_); refine goesL_ (some 36) rfl rfl Try.func36 (by kernel_rfl) rfl #[.slice A1 l1.length c1] rfl (by (try simp only [List.map_toArray, List.map_cons, List.map_nil]); first | done | rfl) ?_; (with_reducible refine (laws_toBoolS.calls k _ _ l1 t211 _ ?side1 ?side2 A14.out).mono ?_); (case side1 => exact Kd.C_below HR1.out (by repeat (first | (with_reducible first | exact HB.out | apply below_alloc | apply pw_below_drewN | apply below_drew1 | refine below_set ?_ GE188.out | refine below_set ?_ GE204.out | refine below_set ?_ GE210.out) | exact HB.out))); (case side2 => exact HC1.out); rintro e w37 ⟨v212, rfl, ho0, hb⟩; refine ⟨_, rfl, ?_⟩; have n0_ := Aside0.mk (Kd.R_below (by (with_reducible repeat (first | apply Kd.R_alloc | apply Kd.R_drewN | apply Kd.R_drew)); exact (Kd.R_mono (Kd.R_far (p := ⟨gb210, 2, none⟩) (Kd.R_far (p := ⟨gb210, 1, none⟩) (Kd.R_far (p := ⟨gb210, 0, none⟩) (Kd.R_types HO192.out BK210.out (by decide)) (fun _ hk => hk.2) (.slice Ao33 t205.length co33)) (fun _ hk => hk.2) (.int .i64 t208)) (fun _ hk => hk.2) (.int .i64 t209)) (fun _ h_ => h_.1))) hb); have n1_ := Aside0.mk (Kd.R_elder' (by (with_reducible repeat (first | apply Kd.R_alloc | apply Kd.R_drewN | apply Kd.R_drew)); exact (Kd.R_mono (Kd.R_far (p := ⟨gb210, 2, none⟩) (Kd.R_far (p := ⟨gb210, 1, none⟩) (Kd.R_far (p := ⟨gb210, 0, none⟩) (Kd.R_types HO197.out BK210.out (by decide)) (fun _ hk => hk.2) (.slice Ao33 t205.length co33)) (fun _ hk => hk.2) (.int .i64 t208)) (fun _ hk => hk.2) (.int .i64 t209)) (fun _ h_ => h_.1))) (Kd.R_base ho0) hb); have n2_ := Aside0.mk (Kd.R_below (by (with_reducible repeat (first | apply Kd.R_alloc | apply Kd.R_drewN | apply Kd.R_drew)); exact (Kd.R_mono (Kd.R_far (p := ⟨gb210, 2, none⟩) (Kd.R_far (p := ⟨gb210, 1, none⟩) (Kd.R_far (p := ⟨gb210, 0, none⟩) (Kd.R_types HO200.out BK210.out (by decide)) (fun _ hk => hk.2) (.slice Ao33 t205.length co33)) (fun _ hk => hk.2) (.int .i64 t208)) (fun _ hk => hk.2) (.int .i64 t209)) (fun _ h_ => h_.1))) hb); have n3_ := Aside0.mk (Kd.R_below (by (with_reducible repeat (first | apply Kd.R_alloc | apply Kd.R_drewN | apply Kd.R_drew)); exact (Kd.R_mono (Kd.R_far (p := ⟨gb210, 2, none⟩) (Kd.R_far (p := ⟨gb210, 1, none⟩) (Kd.R_far (p := ⟨gb210, 0, none⟩) (Kd.R_types HO207.out BK210.out (by decide)) (fun _ hk => hk.2) (.slice Ao33 t205.length co33)) (fun _ hk => hk.2) (.int .i64 t208)) (fun _ hk => hk.2) (.int .i64 t209)) (fun _ h_ => h_.1))) hb); have n4_ := Aside0.mk (Kd.R_lower (Kd.R_new' ho0 (Kd.R_lt (by (with_reducible repeat (first | apply Kd.R_alloc | apply Kd.R_drewN | apply Kd.R_drew)); exact (Kd.R_mono (Kd.R_far (p := ⟨gb210, 2, none⟩) (Kd.R_far (p := ⟨gb210, 1, none⟩) (Kd.R_far (p := ⟨gb210, 0, none⟩) (Kd.R_types HO197.out BK210.out (by decide)) (fun _ hk => hk.2) (.slice Ao33 t205.length co33)) (fun _ hk => hk.2) (.int .i64 t208)) (fun _ hk => hk.2) (.int .i64 t209)) (fun _ h_ => h_.1))))) (below_size (by repeat (first | (with_reducible first | exact HB.out | apply below_alloc | apply pw_below_drewN | apply below_drew1 | refine below_set ?_ GE188.out | refine below_set ?_ GE204.out | refine below_set ?_ GE210.out) | exact HB.out)))); have n5_ := Aside0.mk (blk_below (g := gb188) (o := .cells #[.slice A0_0 l0_0.length c0_0, .int .i64 a0_1, .int .i64 a0_2] 30 (0, 0)) (by (with_reducible repeat (first | apply blk_drewN | apply blk_drew | apply blk_alloc)); refine blk_far ?_ NB188_210.out _; (with_reducible repeat (first | apply blk_drewN | apply blk_drew | apply blk_alloc)); refine blk_far ?_ NB188_210.out _; (with_reducible repeat (first | apply blk_drewN | apply blk_drew | apply blk_alloc)); refine blk_far ?_ NB188_210.out _; (with_reducible repeat (first | apply blk_drewN | apply blk_drew | apply blk_alloc)); exact BK188.out) hb); have n6_ := Aside0.mk (blk_below (g := gb204) (o := .cells #[.slice Ao27 t198.length co27, .int .i64 t201, .int .i64 t202] 33 (0, 0)) (by (with_reducible repeat (first | apply blk_drewN | apply blk_drew | apply blk_alloc)); refine blk_far ?_ NB204_210.out _; (with_reducible repeat (first | apply blk_drewN | apply blk_drew | apply blk_alloc)); refine blk_far ?_ NB204_210.out _; (with_reducible repeat (first | apply blk_drewN | apply blk_drew | apply blk_alloc)); refine blk_far ?_ NB204_210.out _; (with_reducible repeat (first | apply blk_drewN | apply blk_drew | apply blk_alloc)); exact BK204.out) hb); have n7_ := Aside0.mk (blk_below (g := gb210) (o := .cells #[.slice Ao33 t205.length co33, .int .i64 t208, .int .i64 t209] 33 (0, 0)) (by (with_reducible repeat (first | apply blk_drewN | apply blk_drew | apply blk_alloc)); refine blk_put (cs := #[.slice Ao33 t205.length co33, .int .i64 t208, .int .i64 0]) ?_ 2 _ rfl; (with_reducible repeat (first | apply blk_drewN | apply blk_drew | apply blk_alloc)); refine blk_put (cs := #[.slice Ao33 t205.length co33, .int .i64 0, .int .i64 0]) ?_ 1 _ rfl; (with_reducible repeat (first | apply blk_drewN | apply blk_drew | apply blk_alloc)); refine blk_put (cs := #[.slice none 0 0, .int .i64 0, .int .i64 0]) ?_ 0 _ rfl; (with_reducible repeat (first | apply blk_drewN | apply blk_drew | apply blk_alloc)); exact BK210.out) hb); have n8_ := Aside0.mk (below_step (by repeat (first | (with_reducible first | exact HB.out | apply below_alloc | apply pw_below_drewN | apply below_drew1 | refine below_set ?_ GE188.out | refine below_set ?_ GE204.out | refine below_set ?_ GE210.out) | exact HB.out)) hb); clear HO192; clear HO197; clear HO200; clear HO207; clear BK188; clear BK204; clear BK210; clear HB; have HO192 := n0_; have HO197 := n1_; have HO200 := n2_; have HO207 := n3_; have HO213 := n4_; have BK188 := n5_; have BK204 := n6_; have BK210 := n7_; have HB := n8_; clear n0_ n1_ n2_ n3_ n4_ n5_ n6_ n7_ n8_; (try clear hb); (try clear hb2); (try clear hk); (try clear hi); (try clear ho0); have hcz38_0 : w37.cell? ⟨gb210, 0, none⟩ = some (.slice Ao33 t205.length co33) := (blk_cell BK210.out 0).trans rfl; have hcz38_1 : w37.cell? ⟨gb210, 1, none⟩ = some (.int .i64 t208) := (blk_cell BK210.out 1).trans rfl; have hcz38_2 : w37.cell? ⟨gb210, 2, none⟩ = some (.int .i64 t209) := (blk_cell BK210.out 2).trans rfl; have hfz38_0 := blk_frozen BK210.out 0; have hfz38_1 := blk_frozen BK210.out 1; have hfz38_2 := blk_frozen BK210.out 2; obtain ⟨Ao39, co39, eo39⟩ := Kd.R_slice HO213.out; subst eo39) | ((with_reducible refine gate_callee (f := 33) rfl ?_); refine goesL_ (some 40) rfl rfl Try.func33 (by kernel_rfl) rfl #[.agg #[.slice Ao33 t205.length co33, .int .i64 t208, .int .i64 t209], .slice Ao39 t211.length co39] rfl (by (try simp only [List.map_toArray, List.map_cons, List.map_nil]); first | done | rfl) ?_; (with_reducible refine (impl_Grant.calls k _ _ t205 t208 t209 _ _ t211 t214 t217 t218 t219 _ ?side1 ?side2 ?side3 ?side4 A15.out).mono ?_); (case side1 => repeat (first | exact (Kd.R_reads' HO207.out).2.2 | (with_reducible refine Kd.C_alloc ?_ _) | (with_reducible refine Kd.C_drewN ?_ _) | (with_reducible refine Kd.C_drew ?_))); (case side2 => exact (Kd.R_reads' HO207.out).2.1); (case side3 => repeat (first | exact (Kd.R_reads' HO213.out).2.2 | (with_reducible refine Kd.C_alloc ?_ _) | (with_reducible refine Kd.C_drewN ?_ _) | (with_reducible refine Kd.C_drew ?_))); (case side4 => exact (Kd.R_reads' HO213.out).2.1); rintro e w40 ⟨v215, rfl, ho0, hb⟩; refine ⟨_, rfl, ?_⟩; have n0_ := Aside0.mk (Kd.R_elder' (by (with_reducible repeat (first | apply Kd.R_alloc | apply Kd.R_drewN | apply Kd.R_drew)); exact HO192.out) (Kd.R_base ho0) hb); have n1_ := Aside0.mk (Kd.R_below (by (with_reducible repeat (first | apply Kd.R_alloc | apply Kd.R_drewN | apply Kd.R_drew)); exact HO197.out) hb); have n2_ := Aside0.mk (Kd.R_elder' (by (with_reducible repeat (first | apply Kd.R_alloc | apply Kd.R_drewN | apply Kd.R_drew)); exact HO200.out) (Kd.R_base ho0) hb); have n3_ := Aside0.mk (Kd.R_elder' (by (with_reducible repeat (first | apply Kd.R_alloc | apply Kd.R_drewN | apply Kd.R_drew)); exact HO207.out) (Kd.R_base ho0) hb); have n4_ := Aside0.mk (Kd.R_below (by (with_reducible repeat (first | apply Kd.R_alloc | apply Kd.R_drewN | apply Kd.R_drew)); exact HO213.out) hb); have n5_ := Aside0.mk (Kd.R_lower (Kd.R_new' (Kd.R_new' (Kd.R_new' ho0 (Kd.R_lt (by (with_reducible repeat (first | apply Kd.R_alloc | apply Kd.R_drewN | apply Kd.R_drew)); exact HO192.out))) (Kd.R_lt (by (with_reducible repeat (first | apply Kd.R_alloc | apply Kd.R_drewN | apply Kd.R_drew)); exact HO200.out))) (Kd.R_lt (by (with_reducible repeat (first | apply Kd.R_alloc | apply Kd.R_drewN | apply Kd.R_drew)); exact HO207.out))) (below_size (by repeat (first | (with_reducible first | exact HB.out | apply below_alloc | apply pw_below_drewN | apply below_drew1 | refine below_set ?_ GE188.out | refine below_set ?_ GE204.out | refine below_set ?_ GE210.out) | exact HB.out)))); have n6_ := Aside0.mk (blk_below (g := gb188) (o := .cells #[.slice A0_0 l0_0.length c0_0, .int .i64 a0_1, .int .i64 a0_2] 30 (0, 0)) (by (with_reducible repeat (first | apply blk_drewN | apply blk_drew | apply blk_alloc)); exact BK188.out) hb); have n7_ := Aside0.mk (blk_below (g := gb204) (o := .cells #[.slice Ao27 t198.length co27, .int .i64 t201, .int .i64 t202] 33 (0, 0)) (by (with_reducible repeat (first | apply blk_drewN | apply blk_drew | apply blk_alloc)); exact BK204.out) hb); have n8_ := Aside0.mk (blk_below (g := gb210) (o := .cells #[.slice Ao33 t205.length co33, .int .i64 t208, .int .i64 t209] 33 (0, 0)) (by (with_reducible repeat (first | apply blk_drewN | apply blk_drew | apply blk_alloc)); exact BK210.out) hb); have n9_ := Aside0.mk (below_step (by repeat (first | (with_reducible first | exact HB.out | apply below_alloc | apply pw_below_drewN | apply below_drew1 | refine below_set ?_ GE188.out | refine below_set ?_ GE204.out | refine below_set ?_ GE210.out) | exact HB.out)) hb); clear HO192; clear HO197; clear HO200; clear HO207; clear HO213; clear BK188; clear BK204; clear BK210; clear HB; have HO192 := n0_; have HO197 := n1_; have HO200 := n2_; have HO207 := n3_; have HO213 := n4_; have HO216 := n5_; have BK188 := n6_; have BK204 := n7_; have BK210 := n8_; have HB := n9_; clear n0_ n1_ n2_ n3_ n4_ n5_ n6_ n7_ n8_ n9_; (try clear hb); (try clear hb2); (try clear hk); (try clear hi); (try clear ho0)) | ((with_reducible refine gate_dst (N := 10) rfl ?_); refine box_event ?hg (N := 10) ?hd (cs := #[.slice none 0 0, .int .i64 0, .int .i64 0]) (t := 33) ?hr ?_; (case hd => rfl); (case hg => rfl); (case hr => first | (go_simp; done) | (go_simp; rfl)); intro gb220 hg w41 hbox hb; have n0_ := Aside0.mk (Kd.R_below (by (with_reducible repeat (first | apply Kd.R_alloc | apply Kd.R_drewN | apply Kd.R_drew)); exact HO192.out) hb); have n1_ := Aside0.mk (Kd.R_below (by (with_reducible repeat (first | apply Kd.R_alloc | apply Kd.R_drewN | apply Kd.R_drew)); exact HO197.out) hb); have n2_ := Aside0.mk (Kd.R_below (by (with_reducible repeat (first | apply Kd.R_alloc | apply Kd.R_drewN | apply Kd.R_drew)); exact HO200.out) hb); have n3_ := Aside0.mk (Kd.R_below (by (with_reducible repeat (first | apply Kd.R_alloc | apply Kd.R_drewN | apply Kd.R_drew)); exact HO207.out) hb); have n4_ := Aside0.mk (Kd.R_below (by (with_reducible repeat (first | apply Kd.R_alloc | apply Kd.R_drewN | apply Kd.R_drew)); exact HO213.out) hb); have n5_ := Aside0.mk (Kd.R_below (by (with_reducible repeat (first | apply Kd.R_alloc | apply Kd.R_drewN | apply Kd.R_drew)); exact HO216.out) hb); have n6_ := Aside0.mk (blk_below (g := gb188) (o := .cells #[.slice A0_0 l0_0.length c0_0, .int .i64 a0_1, .int .i64 a0_2] 30 (0, 0)) (by (with_reducible repeat (first | apply blk_drewN | apply blk_drew | apply blk_alloc)); exact BK188.out) hb); have n7_ := Aside0.mk (blk_below (g := gb204) (o := .cells #[.slice Ao27 t198.length co27, .int .i64 t201, .int .i64 t202] 33 (0, 0)) (by (with_reducible repeat (first | apply blk_drewN | apply blk_drew | apply blk_alloc)); exact BK204.out) hb); have n8_ := Aside0.mk (blk_below (g := gb210) (o := .cells #[.slice Ao33 t205.length co33, .int .i64 t208, .int .i64 t209] 33 (0, 0)) (by (with_reducible repeat (first | apply blk_drewN | apply blk_drew | apply blk_alloc)); exact BK210.out) hb); have n9_ := Aside0.mk (below_step (by repeat (first | (with_reducible first | exact HB.out | apply below_alloc | apply pw_below_drewN | apply below_drew1 | refine below_set ?_ GE188.out | refine below_set ?_ GE204.out | refine below_set ?_ GE210.out) | exact HB.out)) hb); have n10_ := Aside0.mk (hbox); have n11_ := Aside0.mk ((by rw [hg]; exact (below_size (by repeat (first | (with_reducible first | exact HB.out | apply below_alloc | apply pw_below_drewN | apply below_drew1 | refine below_set ?_ GE188.out | refine below_set ?_ GE204.out | refine below_set ?_ GE210.out) | exact HB.out))) : w.heap.size ≤ gb220)); have n12_ := Aside0.mk ((by rw [hg]; exact (below_size (by repeat (first | (with_reducible first | exact HB.out | apply below_alloc | apply pw_below_drewN | apply below_drew1 | refine below_set ?_ GE188.out | refine below_set ?_ GE204.out | refine below_set ?_ GE210.out) | exact HB.out))) : w.heap.size ≤ gb220)); have n13_ := Aside0.mk ((by rw [hg]; exact Nat.ne_of_lt (blk_lt (g := gb188) (o := .cells #[.slice A0_0 l0_0.length c0_0, .int .i64 a0_1, .int .i64 a0_2] 30 (0, 0)) (by (with_reducible repeat (first | apply blk_drewN | apply blk_drew | apply blk_alloc)); exact BK188.out)) : gb188 ≠ gb220)); have n14_ := Aside0.mk ((by rw [hg]; exact Nat.ne_of_gt (blk_lt (g := gb188) (o := .cells #[.slice A0_0 l0_0.length c0_0, .int .i64 a0_1, .int .i64 a0_2] 30 (0, 0)) (by (with_reducible repeat (first | apply blk_drewN | apply blk_drew | apply blk_alloc)); exact BK188.out)) : gb220 ≠ gb188)); have n15_ := Aside0.mk ((by rw [hg]; exact Nat.ne_of_lt (blk_lt (g := gb204) (o := .cells #[.slice Ao27 t198.length co27, .int .i64 t201, .int .i64 t202] 33 (0, 0)) (by (with_reducible repeat (first | apply blk_drewN | apply blk_drew | apply blk_alloc)); exact BK204.out)) : gb204 ≠ gb220)); have n16_ := Aside0.mk ((by rw [hg]; exact Nat.ne_of_gt (blk_lt (g := gb204) (o := .cells #[.slice Ao27 t198.length co27, .int .i64 t201, .int .i64 t202] 33 (0, 0)) (by (with_reducible repeat (first | apply blk_drewN | apply blk_drew | apply blk_alloc)); exact BK204.out)) : gb220 ≠ gb204)); have n17_ := Aside0.mk ((by rw [hg]; exact Nat.ne_of_lt (blk_lt (g := gb210) (o := .cells #[.slice Ao33 t205.length co33, .int .i64 t208, .int .i64 t209] 33 (0, 0)) (by (with_reducible repeat (first | apply blk_drewN | apply blk_drew | apply blk_alloc)); exact BK210.out)) : gb210 ≠ gb220)); have n18_ := Aside0.mk ((by rw [hg]; exact Nat.ne_of_gt (blk_lt (g := gb210) (o := .cells #[.slice Ao33 t205.length co33, .int .i64 t208, .int .i64 t209] 33 (0, 0)) (by (with_reducible repeat (first | apply blk_drewN | apply blk_drew | apply blk_alloc)); exact BK210.out)) : gb220 ≠ gb210)); clear HO192; clear HO197; clear HO200; clear HO207; clear HO213; clear HO216; clear BK188; clear BK204; clear BK210; clear HB; have HO192 := n0_; have HO197 := n1_; have HO200 := n2_; have HO207 := n3_; have HO213 := n4_; have HO216 := n5_; have BK188 := n6_; have BK204 := n7_; have BK210 := n8_; have HB := n9_; have BK220 := n10_; have GW220 := n11_; have GE220 := n12_; have NB188_220 := n13_; have NB220_188 := n14_; have NB204_220 := n15_; have NB220_204 := n16_; have NB210_220 := n17_; have NB220_210 := n18_; clear n0_ n1_ n2_ n3_ n4_ n5_ n6_ n7_ n8_ n9_ n10_ n11_ n12_ n13_ n14_ n15_ n16_ n17_ n18_; clear hb hbox hg; obtain ⟨Ao42, co42, eo42⟩ := Kd.R_slice HO216.out; subst eo42; have hnb43 := NB220_188.out; have hnc43 := NB188_220.out; have hnb44 := NB220_204.out; have hnc44 := NB204_220.out; have hnb45 := NB220_210.out; have hnc45 := NB210_220.out; have hcz46_0 : w41.cell? ⟨gb220, 0, none⟩ = some (.slice none 0 0) := (blk_cell BK220.out 0).trans rfl; have hcz46_1 : w41.cell? ⟨gb220, 1, none⟩ = some (.int .i64 0) := (blk_cell BK220.out 1).trans rfl; have hcz46_2 : w41.cell? ⟨gb220, 2, none⟩ = some (.int .i64 0) := (blk_cell BK220.out 2).trans rfl; have hfz46_0 := blk_frozen BK220.out 0; have hfz46_1 := blk_frozen BK220.out 1; have hfz46_2 := blk_frozen BK220.out 2))
      (try simp only [Act.put, List.setIfInBounds_toArray, List.set_cons_zero, List.set_cons_succ])
      go_cut [51] (fun v51 wc => ∃ (kq : Nat) (x51_15 : Bool), v51 = .bool x51_15 ∧ Aside0 (laws_FnExactGrant.j0 kq l1 t203 t211 t219 x51_15 l0_0 a0_1 a0_2 t198 t201 t202 t205 t208 t209 t214 t217 t218 = some r) ∧ Aside0 (kq ≤ k) ∧ Aside0 (Kd.R Kd.bool 4 wc w.heap.size (fun _ => True) (.slice Ao39 t211.length co39) t211) ∧ Aside0 (Kd.R (Kd.int .i64) 3 wc w.heap.size (fun k_ => some k_ ≠ ((.slice Ao33 t205.length co33) : Value).ownBlock ∧ some k_ ≠ ((.slice Ao42 t214.length co42) : Value).ownBlock) (.slice Ao27 t198.length co27) t198) ∧ Aside0 (Kd.R (Kd.int .i64) 3 wc w.heap.size (fun k_ => some k_ ≠ ((.slice Ao27 t198.length co27) : Value).ownBlock ∧ some k_ ≠ ((.slice Ao42 t214.length co42) : Value).ownBlock) (.slice Ao33 t205.length co33) t205) ∧ Aside0 (Kd.R (Kd.int .i64) 3 wc w.heap.size (fun k_ => some k_ ≠ ((.slice Ao27 t198.length co27) : Value).ownBlock ∧ some k_ ≠ ((.slice Ao33 t205.length co33) : Value).ownBlock) (.slice Ao42 t214.length co42) t214) ∧ Aside0 (wc.heap[gb188]? = some (.cells #[(.slice A0_0 l0_0.length c0_0), .int .i64 a0_1, .int .i64 a0_2] 30 (0, 0))) ∧ Aside0 (wc.heap[gb204]? = some (.cells #[(.slice Ao27 t198.length co27), .int .i64 t201, .int .i64 t202] 33 (0, 0))) ∧ Aside0 (wc.heap[gb210]? = some (.cells #[(.slice Ao33 t205.length co33), .int .i64 t208, .int .i64 t209] 33 (0, 0))) ∧ Aside0 (wc.heap[gb220]? = some (.cells #[(.slice Ao42 t214.length co42), .int .i64 t217, .int .i64 t218] 33 (0, 0))) ∧ Aside0 (Below w.heap.size w wc))
      case first =>
        have H := HC16.out
        clear HC16
        replace H := Option.bind_eq_some_iff.mp H
        obtain ⟨t221, A470, H⟩ := H
        replace H : (if t221 = true then (laws_FnExactGrant.j0 k l1 t203 t211 t219 (t219 != t203) l0_0 a0_1 a0_2 t198 t201 t202 t205 t208 t209 t214 t217 t218) else (laws_FnExactGrant.j0 k l1 t203 t211 t219 true l0_0 a0_1 a0_2 t198 t201 t202 t205 t208 t209 t214 t217 t218)) = some r := H
        have A47 := Aside0.mk A470
        clear A470
        by_cases c48 : t221 = true
        · subst c48
          have H1 : (laws_FnExactGrant.j0 k l1 t203 t211 t219 (t219 != t203) l0_0 a0_1 a0_2 t198 t201 t202 t205 t208 t209 t214 t217 t218) = some r := by rw [if_pos rfl] at H; exact H
          clear H
          have H := H1
          clear H1
          have H' := Aside0.mk H
          clear H
          have hnb49 := NB220_188.out
          have hnc49 := NB188_220.out
          have hnb50 := NB220_204.out
          have hnc50 := NB204_220.out
          have hnb51 := NB220_210.out
          have hnc51 := NB210_220.out
          have hcz52_0 : w41.cell? ⟨gb220, 0, none⟩ = some (.slice none 0 0) := (blk_cell BK220.out 0).trans rfl
          have hcz52_1 : w41.cell? ⟨gb220, 1, none⟩ = some (.int .i64 0) := (blk_cell BK220.out 1).trans rfl
          have hcz52_2 : w41.cell? ⟨gb220, 2, none⟩ = some (.int .i64 0) := (blk_cell BK220.out 2).trans rfl
          have hfz52_0 := blk_frozen BK220.out 0
          have hfz52_1 := blk_frozen BK220.out 1
          have hfz52_2 := blk_frozen BK220.out 2
          have hnb53 := NB204_188.out
          have hnc53 := NB188_204.out
          have hnb54 := NB204_210.out
          have hnc54 := NB210_204.out
          have hcz55_0 : w41.cell? ⟨gb204, 0, none⟩ = some (.slice Ao27 t198.length co27) := (blk_cell BK204.out 0).trans rfl
          have hcz55_1 : w41.cell? ⟨gb204, 1, none⟩ = some (.int .i64 t201) := (blk_cell BK204.out 1).trans rfl
          have hcz55_2 : w41.cell? ⟨gb204, 2, none⟩ = some (.int .i64 t202) := (blk_cell BK204.out 2).trans rfl
          have hfz55_0 := blk_frozen BK204.out 0
          have hfz55_1 := blk_frozen BK204.out 1
          have hfz55_2 := blk_frozen BK204.out 2
          go_wp2_with (first | ((with_reducible refine gate_callee (f := 24) rfl ?_); refine goesL_ (some 45) rfl rfl Try.func24 (by kernel_rfl) rfl #[.agg #[.slice Ao42 t214.length co42, .int .i64 t217, .int .i64 t218], .agg #[.slice Ao27 t198.length co27, .int .i64 t201, .int .i64 t202]] rfl (by (try simp only [List.map_toArray, List.map_cons, List.map_nil]); first | done | rfl) ?_; (with_reducible refine (laws_eqArbiter.calls k _ _ t214 t217 t218 _ _ t198 t201 t202 true _ ?side1 ?side2 ?side3 ?side4 A47.out).mono ?_); (case side1 => refine (Kd.R_reads' (e := 3) (base := w.heap.size) (ok := fun k_ => (((True ∧ some k_ ≠ (.slice Ao23 t190.length co23 : Value).ownBlock) ∧ some k_ ≠ (.slice Ao27 t198.length co27 : Value).ownBlock) ∧ some k_ ≠ (.slice Ao33 t205.length co33 : Value).ownBlock)) (n := t214.length) (c := co42) ?_).2.2; exact (by (with_reducible repeat (first | apply Kd.R_alloc | apply Kd.R_drewN | apply Kd.R_drew)); exact (Kd.R_mono (Kd.R_far (p := ⟨gb220, 2, none⟩) (Kd.R_far (p := ⟨gb220, 1, none⟩) (Kd.R_far (p := ⟨gb220, 0, none⟩) (Kd.R_types HO216.out BK220.out (by decide)) (fun _ hk => hk.2) (.slice Ao42 t214.length co42)) (fun _ hk => hk.2) (.int .i64 t217)) (fun _ hk => hk.2) (.int .i64 t218)) (fun _ h_ => h_.1)))); (case side2 => exact (Kd.R_reads' HO216.out).2.1); (case side3 => refine (Kd.R_reads' (e := 3) (base := w.heap.size) (ok := fun k_ => (((True ∧ some k_ ≠ (.slice Ao23 t190.length co23 : Value).ownBlock) ∧ some k_ ≠ (.slice Ao33 t205.length co33 : Value).ownBlock) ∧ some k_ ≠ (.slice Ao42 t214.length co42 : Value).ownBlock)) (n := t198.length) (c := co27) ?_).2.2; exact (by (with_reducible repeat (first | apply Kd.R_alloc | apply Kd.R_drewN | apply Kd.R_drew)); exact (Kd.R_mono (Kd.R_far (p := ⟨gb220, 2, none⟩) (Kd.R_far (p := ⟨gb220, 1, none⟩) (Kd.R_far (p := ⟨gb220, 0, none⟩) (Kd.R_types HO200.out BK220.out (by decide)) (fun _ hk => hk.2) (.slice Ao42 t214.length co42)) (fun _ hk => hk.2) (.int .i64 t217)) (fun _ hk => hk.2) (.int .i64 t218)) (fun _ h_ => h_.1)))); (case side4 => exact (Kd.R_reads' HO200.out).2.1); rintro e w56 ⟨rfl, hb⟩; refine ⟨_, rfl, ?_⟩; have n0_ := Aside0.mk (Kd.R_below (by (with_reducible repeat (first | apply Kd.R_alloc | apply Kd.R_drewN | apply Kd.R_drew)); exact (Kd.R_mono (Kd.R_far (p := ⟨gb220, 2, none⟩) (Kd.R_far (p := ⟨gb220, 1, none⟩) (Kd.R_far (p := ⟨gb220, 0, none⟩) (Kd.R_types HO192.out BK220.out (by decide)) (fun _ hk => hk.2) (.slice Ao42 t214.length co42)) (fun _ hk => hk.2) (.int .i64 t217)) (fun _ hk => hk.2) (.int .i64 t218)) (fun _ h_ => h_.1))) hb); have n1_ := Aside0.mk (Kd.R_below (by (with_reducible repeat (first | apply Kd.R_alloc | apply Kd.R_drewN | apply Kd.R_drew)); exact (Kd.R_mono (Kd.R_far (p := ⟨gb220, 2, none⟩) (Kd.R_far (p := ⟨gb220, 1, none⟩) (Kd.R_far (p := ⟨gb220, 0, none⟩) (Kd.R_types HO197.out BK220.out (by decide)) (fun _ hk => hk.2) (.slice Ao42 t214.length co42)) (fun _ hk => hk.2) (.int .i64 t217)) (fun _ hk => hk.2) (.int .i64 t218)) (fun _ h_ => h_.1))) hb); have n2_ := Aside0.mk (Kd.R_below (by (with_reducible repeat (first | apply Kd.R_alloc | apply Kd.R_drewN | apply Kd.R_drew)); exact (Kd.R_mono (Kd.R_far (p := ⟨gb220, 2, none⟩) (Kd.R_far (p := ⟨gb220, 1, none⟩) (Kd.R_far (p := ⟨gb220, 0, none⟩) (Kd.R_types HO200.out BK220.out (by decide)) (fun _ hk => hk.2) (.slice Ao42 t214.length co42)) (fun _ hk => hk.2) (.int .i64 t217)) (fun _ hk => hk.2) (.int .i64 t218)) (fun _ h_ => h_.1))) hb); have n3_ := Aside0.mk (Kd.R_below (by (with_reducible repeat (first | apply Kd.R_alloc | apply Kd.R_drewN | apply Kd.R_drew)); exact (Kd.R_mono (Kd.R_far (p := ⟨gb220, 2, none⟩) (Kd.R_far (p := ⟨gb220, 1, none⟩) (Kd.R_far (p := ⟨gb220, 0, none⟩) (Kd.R_types HO207.out BK220.out (by decide)) (fun _ hk => hk.2) (.slice Ao42 t214.length co42)) (fun _ hk => hk.2) (.int .i64 t217)) (fun _ hk => hk.2) (.int .i64 t218)) (fun _ h_ => h_.1))) hb); have n4_ := Aside0.mk (Kd.R_below (by (with_reducible repeat (first | apply Kd.R_alloc | apply Kd.R_drewN | apply Kd.R_drew)); exact (Kd.R_mono (Kd.R_far (p := ⟨gb220, 2, none⟩) (Kd.R_far (p := ⟨gb220, 1, none⟩) (Kd.R_far (p := ⟨gb220, 0, none⟩) (Kd.R_types HO213.out BK220.out (by decide)) (fun _ hk => hk.2) (.slice Ao42 t214.length co42)) (fun _ hk => hk.2) (.int .i64 t217)) (fun _ hk => hk.2) (.int .i64 t218)) (fun _ h_ => h_.1))) hb); have n5_ := Aside0.mk (Kd.R_below (by (with_reducible repeat (first | apply Kd.R_alloc | apply Kd.R_drewN | apply Kd.R_drew)); exact (Kd.R_mono (Kd.R_far (p := ⟨gb220, 2, none⟩) (Kd.R_far (p := ⟨gb220, 1, none⟩) (Kd.R_far (p := ⟨gb220, 0, none⟩) (Kd.R_types HO216.out BK220.out (by decide)) (fun _ hk => hk.2) (.slice Ao42 t214.length co42)) (fun _ hk => hk.2) (.int .i64 t217)) (fun _ hk => hk.2) (.int .i64 t218)) (fun _ h_ => h_.1))) hb); have n6_ := Aside0.mk (blk_below (g := gb188) (o := .cells #[.slice A0_0 l0_0.length c0_0, .int .i64 a0_1, .int .i64 a0_2] 30 (0, 0)) (by (with_reducible repeat (first | apply blk_drewN | apply blk_drew | apply blk_alloc)); refine blk_far ?_ NB188_220.out _; (with_reducible repeat (first | apply blk_drewN | apply blk_drew | apply blk_alloc)); refine blk_far ?_ NB188_220.out _; (with_reducible repeat (first | apply blk_drewN | apply blk_drew | apply blk_alloc)); refine blk_far ?_ NB188_220.out _; (with_reducible repeat (first | apply blk_drewN | apply blk_drew | apply blk_alloc)); exact BK188.out) hb); have n7_ := Aside0.mk (blk_below (g := gb204) (o := .cells #[.slice Ao27 t198.length co27, .int .i64 t201, .int .i64 t202] 33 (0, 0)) (by (with_reducible repeat (first | apply blk_drewN | apply blk_drew | apply blk_alloc)); refine blk_far ?_ NB204_220.out _; (with_reducible repeat (first | apply blk_drewN | apply blk_drew | apply blk_alloc)); refine blk_far ?_ NB204_220.out _; (with_reducible repeat (first | apply blk_drewN | apply blk_drew | apply blk_alloc)); refine blk_far ?_ NB204_220.out _; (with_reducible repeat (first | apply blk_drewN | apply blk_drew | apply blk_alloc)); exact BK204.out) hb); have n8_ := Aside0.mk (blk_below (g := gb210) (o := .cells #[.slice Ao33 t205.length co33, .int .i64 t208, .int .i64 t209] 33 (0, 0)) (by (with_reducible repeat (first | apply blk_drewN | apply blk_drew | apply blk_alloc)); refine blk_far ?_ NB210_220.out _; (with_reducible repeat (first | apply blk_drewN | apply blk_drew | apply blk_alloc)); refine blk_far ?_ NB210_220.out _; (with_reducible repeat (first | apply blk_drewN | apply blk_drew | apply blk_alloc)); refine blk_far ?_ NB210_220.out _; (with_reducible repeat (first | apply blk_drewN | apply blk_drew | apply blk_alloc)); exact BK210.out) hb); have n9_ := Aside0.mk (blk_below (g := gb220) (o := .cells #[.slice Ao42 t214.length co42, .int .i64 t217, .int .i64 t218] 33 (0, 0)) (by (with_reducible repeat (first | apply blk_drewN | apply blk_drew | apply blk_alloc)); refine blk_put (cs := #[.slice Ao42 t214.length co42, .int .i64 t217, .int .i64 0]) ?_ 2 _ rfl; (with_reducible repeat (first | apply blk_drewN | apply blk_drew | apply blk_alloc)); refine blk_put (cs := #[.slice Ao42 t214.length co42, .int .i64 0, .int .i64 0]) ?_ 1 _ rfl; (with_reducible repeat (first | apply blk_drewN | apply blk_drew | apply blk_alloc)); refine blk_put (cs := #[.slice none 0 0, .int .i64 0, .int .i64 0]) ?_ 0 _ rfl; (with_reducible repeat (first | apply blk_drewN | apply blk_drew | apply blk_alloc)); exact BK220.out) hb); have n10_ := Aside0.mk (below_step (by repeat (first | (with_reducible first | exact HB.out | apply below_alloc | apply pw_below_drewN | apply below_drew1 | refine below_set ?_ GE188.out | refine below_set ?_ GE204.out | refine below_set ?_ GE210.out | refine below_set ?_ GE220.out) | exact HB.out)) hb); clear HO192; clear HO197; clear HO200; clear HO207; clear HO213; clear HO216; clear BK188; clear BK204; clear BK210; clear BK220; clear HB; have HO192 := n0_; have HO197 := n1_; have HO200 := n2_; have HO207 := n3_; have HO213 := n4_; have HO216 := n5_; have BK188 := n6_; have BK204 := n7_; have BK210 := n8_; have BK220 := n9_; have HB := n10_; clear n0_ n1_ n2_ n3_ n4_ n5_ n6_ n7_ n8_ n9_ n10_; (try clear hb); (try clear hb2); (try clear hk); (try clear hi)))
          go_meet
          case rel => exact ⟨_, ((t219 != t203)), (by first | rfl | (simp [*]; done)), H', ⟨by first | omega | exact Nat.le_refl _⟩, ⟨by (with_reducible repeat (first | apply Kd.R_alloc | apply Kd.R_drewN | apply Kd.R_drew)); exact Kd.R_mono HO213.out (fun _ hk => trivial)⟩, ⟨by (with_reducible repeat (first | apply Kd.R_alloc | apply Kd.R_drewN | apply Kd.R_drew)); exact Kd.R_mono HO200.out (fun _ hk => (And.intro (hk.1.2) (hk.2)))⟩, ⟨by (with_reducible repeat (first | apply Kd.R_alloc | apply Kd.R_drewN | apply Kd.R_drew)); exact Kd.R_mono HO207.out (fun _ hk => (And.intro (hk.1.2) (hk.2)))⟩, ⟨by (with_reducible repeat (first | apply Kd.R_alloc | apply Kd.R_drewN | apply Kd.R_drew)); exact Kd.R_mono HO216.out (fun _ hk => (And.intro (hk.1.2) (hk.2)))⟩, ⟨by (with_reducible repeat (first | apply blk_drewN | apply blk_drew | apply blk_alloc)); exact BK188.out⟩, ⟨by (with_reducible repeat (first | apply blk_drewN | apply blk_drew | apply blk_alloc)); exact BK204.out⟩, ⟨by (with_reducible repeat (first | apply blk_drewN | apply blk_drew | apply blk_alloc)); exact BK210.out⟩, ⟨by (with_reducible repeat (first | apply blk_drewN | apply blk_drew | apply blk_alloc)); exact BK220.out⟩, ⟨by repeat (first | (with_reducible first | exact HB.out | apply below_alloc | apply pw_below_drewN | apply below_drew1 | refine below_set ?_ GE188.out | refine below_set ?_ GE204.out | refine below_set ?_ GE210.out | refine below_set ?_ GE220.out) | exact HB.out)⟩⟩
        · replace c48 := Bool.eq_false_iff.mpr c48
          subst c48
          have H1 : (laws_FnExactGrant.j0 k l1 t203 t211 t219 true l0_0 a0_1 a0_2 t198 t201 t202 t205 t208 t209 t214 t217 t218) = some r := by rw [if_neg (show ¬ (false = true) by decide)] at H; exact H
          clear H
          have H := H1
          clear H1
          have H' := Aside0.mk H
          clear H
          have hnb57 := NB220_188.out
          have hnc57 := NB188_220.out
          have hnb58 := NB220_204.out
          have hnc58 := NB204_220.out
          have hnb59 := NB220_210.out
          have hnc59 := NB210_220.out
          have hcz60_0 : w41.cell? ⟨gb220, 0, none⟩ = some (.slice none 0 0) := (blk_cell BK220.out 0).trans rfl
          have hcz60_1 : w41.cell? ⟨gb220, 1, none⟩ = some (.int .i64 0) := (blk_cell BK220.out 1).trans rfl
          have hcz60_2 : w41.cell? ⟨gb220, 2, none⟩ = some (.int .i64 0) := (blk_cell BK220.out 2).trans rfl
          have hfz60_0 := blk_frozen BK220.out 0
          have hfz60_1 := blk_frozen BK220.out 1
          have hfz60_2 := blk_frozen BK220.out 2
          have hnb61 := NB204_188.out
          have hnc61 := NB188_204.out
          have hnb62 := NB204_210.out
          have hnc62 := NB210_204.out
          have hcz63_0 : w41.cell? ⟨gb204, 0, none⟩ = some (.slice Ao27 t198.length co27) := (blk_cell BK204.out 0).trans rfl
          have hcz63_1 : w41.cell? ⟨gb204, 1, none⟩ = some (.int .i64 t201) := (blk_cell BK204.out 1).trans rfl
          have hcz63_2 : w41.cell? ⟨gb204, 2, none⟩ = some (.int .i64 t202) := (blk_cell BK204.out 2).trans rfl
          have hfz63_0 := blk_frozen BK204.out 0
          have hfz63_1 := blk_frozen BK204.out 1
          have hfz63_2 := blk_frozen BK204.out 2
          go_wp2_with (first | ((with_reducible refine gate_callee (f := 24) rfl ?_); refine goesL_ (some 45) rfl rfl Try.func24 (by kernel_rfl) rfl #[.agg #[.slice Ao42 t214.length co42, .int .i64 t217, .int .i64 t218], .agg #[.slice Ao27 t198.length co27, .int .i64 t201, .int .i64 t202]] rfl (by (try simp only [List.map_toArray, List.map_cons, List.map_nil]); first | done | rfl) ?_; (with_reducible refine (laws_eqArbiter.calls k _ _ t214 t217 t218 _ _ t198 t201 t202 false _ ?side1 ?side2 ?side3 ?side4 A47.out).mono ?_); (case side1 => refine (Kd.R_reads' (e := 3) (base := w.heap.size) (ok := fun k_ => (((True ∧ some k_ ≠ (.slice Ao23 t190.length co23 : Value).ownBlock) ∧ some k_ ≠ (.slice Ao27 t198.length co27 : Value).ownBlock) ∧ some k_ ≠ (.slice Ao33 t205.length co33 : Value).ownBlock)) (n := t214.length) (c := co42) ?_).2.2; exact (by (with_reducible repeat (first | apply Kd.R_alloc | apply Kd.R_drewN | apply Kd.R_drew)); exact (Kd.R_mono (Kd.R_far (p := ⟨gb220, 2, none⟩) (Kd.R_far (p := ⟨gb220, 1, none⟩) (Kd.R_far (p := ⟨gb220, 0, none⟩) (Kd.R_types HO216.out BK220.out (by decide)) (fun _ hk => hk.2) (.slice Ao42 t214.length co42)) (fun _ hk => hk.2) (.int .i64 t217)) (fun _ hk => hk.2) (.int .i64 t218)) (fun _ h_ => h_.1)))); (case side2 => exact (Kd.R_reads' HO216.out).2.1); (case side3 => refine (Kd.R_reads' (e := 3) (base := w.heap.size) (ok := fun k_ => (((True ∧ some k_ ≠ (.slice Ao23 t190.length co23 : Value).ownBlock) ∧ some k_ ≠ (.slice Ao33 t205.length co33 : Value).ownBlock) ∧ some k_ ≠ (.slice Ao42 t214.length co42 : Value).ownBlock)) (n := t198.length) (c := co27) ?_).2.2; exact (by (with_reducible repeat (first | apply Kd.R_alloc | apply Kd.R_drewN | apply Kd.R_drew)); exact (Kd.R_mono (Kd.R_far (p := ⟨gb220, 2, none⟩) (Kd.R_far (p := ⟨gb220, 1, none⟩) (Kd.R_far (p := ⟨gb220, 0, none⟩) (Kd.R_types HO200.out BK220.out (by decide)) (fun _ hk => hk.2) (.slice Ao42 t214.length co42)) (fun _ hk => hk.2) (.int .i64 t217)) (fun _ hk => hk.2) (.int .i64 t218)) (fun _ h_ => h_.1)))); (case side4 => exact (Kd.R_reads' HO200.out).2.1); rintro e w64 ⟨rfl, hb⟩; refine ⟨_, rfl, ?_⟩; have n0_ := Aside0.mk (Kd.R_below (by (with_reducible repeat (first | apply Kd.R_alloc | apply Kd.R_drewN | apply Kd.R_drew)); exact (Kd.R_mono (Kd.R_far (p := ⟨gb220, 2, none⟩) (Kd.R_far (p := ⟨gb220, 1, none⟩) (Kd.R_far (p := ⟨gb220, 0, none⟩) (Kd.R_types HO192.out BK220.out (by decide)) (fun _ hk => hk.2) (.slice Ao42 t214.length co42)) (fun _ hk => hk.2) (.int .i64 t217)) (fun _ hk => hk.2) (.int .i64 t218)) (fun _ h_ => h_.1))) hb); have n1_ := Aside0.mk (Kd.R_below (by (with_reducible repeat (first | apply Kd.R_alloc | apply Kd.R_drewN | apply Kd.R_drew)); exact (Kd.R_mono (Kd.R_far (p := ⟨gb220, 2, none⟩) (Kd.R_far (p := ⟨gb220, 1, none⟩) (Kd.R_far (p := ⟨gb220, 0, none⟩) (Kd.R_types HO197.out BK220.out (by decide)) (fun _ hk => hk.2) (.slice Ao42 t214.length co42)) (fun _ hk => hk.2) (.int .i64 t217)) (fun _ hk => hk.2) (.int .i64 t218)) (fun _ h_ => h_.1))) hb); have n2_ := Aside0.mk (Kd.R_below (by (with_reducible repeat (first | apply Kd.R_alloc | apply Kd.R_drewN | apply Kd.R_drew)); exact (Kd.R_mono (Kd.R_far (p := ⟨gb220, 2, none⟩) (Kd.R_far (p := ⟨gb220, 1, none⟩) (Kd.R_far (p := ⟨gb220, 0, none⟩) (Kd.R_types HO200.out BK220.out (by decide)) (fun _ hk => hk.2) (.slice Ao42 t214.length co42)) (fun _ hk => hk.2) (.int .i64 t217)) (fun _ hk => hk.2) (.int .i64 t218)) (fun _ h_ => h_.1))) hb); have n3_ := Aside0.mk (Kd.R_below (by (with_reducible repeat (first | apply Kd.R_alloc | apply Kd.R_drewN | apply Kd.R_drew)); exact (Kd.R_mono (Kd.R_far (p := ⟨gb220, 2, none⟩) (Kd.R_far (p := ⟨gb220, 1, none⟩) (Kd.R_far (p := ⟨gb220, 0, none⟩) (Kd.R_types HO207.out BK220.out (by decide)) (fun _ hk => hk.2) (.slice Ao42 t214.length co42)) (fun _ hk => hk.2) (.int .i64 t217)) (fun _ hk => hk.2) (.int .i64 t218)) (fun _ h_ => h_.1))) hb); have n4_ := Aside0.mk (Kd.R_below (by (with_reducible repeat (first | apply Kd.R_alloc | apply Kd.R_drewN | apply Kd.R_drew)); exact (Kd.R_mono (Kd.R_far (p := ⟨gb220, 2, none⟩) (Kd.R_far (p := ⟨gb220, 1, none⟩) (Kd.R_far (p := ⟨gb220, 0, none⟩) (Kd.R_types HO213.out BK220.out (by decide)) (fun _ hk => hk.2) (.slice Ao42 t214.length co42)) (fun _ hk => hk.2) (.int .i64 t217)) (fun _ hk => hk.2) (.int .i64 t218)) (fun _ h_ => h_.1))) hb); have n5_ := Aside0.mk (Kd.R_below (by (with_reducible repeat (first | apply Kd.R_alloc | apply Kd.R_drewN | apply Kd.R_drew)); exact (Kd.R_mono (Kd.R_far (p := ⟨gb220, 2, none⟩) (Kd.R_far (p := ⟨gb220, 1, none⟩) (Kd.R_far (p := ⟨gb220, 0, none⟩) (Kd.R_types HO216.out BK220.out (by decide)) (fun _ hk => hk.2) (.slice Ao42 t214.length co42)) (fun _ hk => hk.2) (.int .i64 t217)) (fun _ hk => hk.2) (.int .i64 t218)) (fun _ h_ => h_.1))) hb); have n6_ := Aside0.mk (blk_below (g := gb188) (o := .cells #[.slice A0_0 l0_0.length c0_0, .int .i64 a0_1, .int .i64 a0_2] 30 (0, 0)) (by (with_reducible repeat (first | apply blk_drewN | apply blk_drew | apply blk_alloc)); refine blk_far ?_ NB188_220.out _; (with_reducible repeat (first | apply blk_drewN | apply blk_drew | apply blk_alloc)); refine blk_far ?_ NB188_220.out _; (with_reducible repeat (first | apply blk_drewN | apply blk_drew | apply blk_alloc)); refine blk_far ?_ NB188_220.out _; (with_reducible repeat (first | apply blk_drewN | apply blk_drew | apply blk_alloc)); exact BK188.out) hb); have n7_ := Aside0.mk (blk_below (g := gb204) (o := .cells #[.slice Ao27 t198.length co27, .int .i64 t201, .int .i64 t202] 33 (0, 0)) (by (with_reducible repeat (first | apply blk_drewN | apply blk_drew | apply blk_alloc)); refine blk_far ?_ NB204_220.out _; (with_reducible repeat (first | apply blk_drewN | apply blk_drew | apply blk_alloc)); refine blk_far ?_ NB204_220.out _; (with_reducible repeat (first | apply blk_drewN | apply blk_drew | apply blk_alloc)); refine blk_far ?_ NB204_220.out _; (with_reducible repeat (first | apply blk_drewN | apply blk_drew | apply blk_alloc)); exact BK204.out) hb); have n8_ := Aside0.mk (blk_below (g := gb210) (o := .cells #[.slice Ao33 t205.length co33, .int .i64 t208, .int .i64 t209] 33 (0, 0)) (by (with_reducible repeat (first | apply blk_drewN | apply blk_drew | apply blk_alloc)); refine blk_far ?_ NB210_220.out _; (with_reducible repeat (first | apply blk_drewN | apply blk_drew | apply blk_alloc)); refine blk_far ?_ NB210_220.out _; (with_reducible repeat (first | apply blk_drewN | apply blk_drew | apply blk_alloc)); refine blk_far ?_ NB210_220.out _; (with_reducible repeat (first | apply blk_drewN | apply blk_drew | apply blk_alloc)); exact BK210.out) hb); have n9_ := Aside0.mk (blk_below (g := gb220) (o := .cells #[.slice Ao42 t214.length co42, .int .i64 t217, .int .i64 t218] 33 (0, 0)) (by (with_reducible repeat (first | apply blk_drewN | apply blk_drew | apply blk_alloc)); refine blk_put (cs := #[.slice Ao42 t214.length co42, .int .i64 t217, .int .i64 0]) ?_ 2 _ rfl; (with_reducible repeat (first | apply blk_drewN | apply blk_drew | apply blk_alloc)); refine blk_put (cs := #[.slice Ao42 t214.length co42, .int .i64 0, .int .i64 0]) ?_ 1 _ rfl; (with_reducible repeat (first | apply blk_drewN | apply blk_drew | apply blk_alloc)); refine blk_put (cs := #[.slice none 0 0, .int .i64 0, .int .i64 0]) ?_ 0 _ rfl; (with_reducible repeat (first | apply blk_drewN | apply blk_drew | apply blk_alloc)); exact BK220.out) hb); have n10_ := Aside0.mk (below_step (by repeat (first | (with_reducible first | exact HB.out | apply below_alloc | apply pw_below_drewN | apply below_drew1 | refine below_set ?_ GE188.out | refine below_set ?_ GE204.out | refine below_set ?_ GE210.out | refine below_set ?_ GE220.out) | exact HB.out)) hb); clear HO192; clear HO197; clear HO200; clear HO207; clear HO213; clear HO216; clear BK188; clear BK204; clear BK210; clear BK220; clear HB; have HO192 := n0_; have HO197 := n1_; have HO200 := n2_; have HO207 := n3_; have HO213 := n4_; have HO216 := n5_; have BK188 := n6_; have BK204 := n7_; have BK210 := n8_; have BK220 := n9_; have HB := n10_; clear n0_ n1_ n2_ n3_ n4_ n5_ n6_ n7_ n8_ n9_ n10_; (try clear hb); (try clear hb2); (try clear hk); (try clear hi)))
          go_meet
          case rel => exact ⟨_, (true), (by first | rfl | (simp [*]; done)), H', ⟨by first | omega | exact Nat.le_refl _⟩, ⟨by (with_reducible repeat (first | apply Kd.R_alloc | apply Kd.R_drewN | apply Kd.R_drew)); exact Kd.R_mono HO213.out (fun _ hk => trivial)⟩, ⟨by (with_reducible repeat (first | apply Kd.R_alloc | apply Kd.R_drewN | apply Kd.R_drew)); exact Kd.R_mono HO200.out (fun _ hk => (And.intro (hk.1.2) (hk.2)))⟩, ⟨by (with_reducible repeat (first | apply Kd.R_alloc | apply Kd.R_drewN | apply Kd.R_drew)); exact Kd.R_mono HO207.out (fun _ hk => (And.intro (hk.1.2) (hk.2)))⟩, ⟨by (with_reducible repeat (first | apply Kd.R_alloc | apply Kd.R_drewN | apply Kd.R_drew)); exact Kd.R_mono HO216.out (fun _ hk => (And.intro (hk.1.2) (hk.2)))⟩, ⟨by (with_reducible repeat (first | apply blk_drewN | apply blk_drew | apply blk_alloc)); exact BK188.out⟩, ⟨by (with_reducible repeat (first | apply blk_drewN | apply blk_drew | apply blk_alloc)); exact BK204.out⟩, ⟨by (with_reducible repeat (first | apply blk_drewN | apply blk_drew | apply blk_alloc)); exact BK210.out⟩, ⟨by (with_reducible repeat (first | apply blk_drewN | apply blk_drew | apply blk_alloc)); exact BK220.out⟩, ⟨by repeat (first | (with_reducible first | exact HB.out | apply below_alloc | apply pw_below_drewN | apply below_drew1 | refine below_set ?_ GE188.out | refine below_set ?_ GE204.out | refine below_set ?_ GE210.out | refine below_set ?_ GE220.out) | exact HB.out)⟩⟩
      case rest =>
        clear HC16
        try clear c1
        try clear c2
        try clear p2
        try clear c3
        try clear c3b0
        try clear c3b1
        try clear c4
        try clear c5
        try clear c6
        try clear c6b0
        try clear c10
        try clear c20
        try clear c22
        try clear c24
        try clear c28
        try clear c33
        try clear c34
        try clear c35
        try clear c36
        try clear c43
        try clear c44
        try clear c45
        try clear c48
        try clear c49
        try clear c50
        try clear c51
        try clear c53
        try clear c54
        try clear c57
        try clear c58
        try clear c59
        try clear c61
        try clear c62
        try clear hcz18_0
        try clear hcz18_1
        try clear hcz18_2
        try clear hcz20_0
        try clear hcz20_1
        try clear hcz20_2
        try clear hcz29_0
        try clear hcz29_1
        try clear hcz29_2
        try clear hcz30_0
        try clear hcz30_1
        try clear hcz30_2
        try clear hcz36_0
        try clear hcz36_1
        try clear hcz36_2
        try clear hcz38_0
        try clear hcz38_1
        try clear hcz38_2
        try clear hcz46_0
        try clear hcz46_1
        try clear hcz46_2
        try clear hcz52_0
        try clear hcz52_1
        try clear hcz52_2
        try clear hcz55_0
        try clear hcz55_1
        try clear hcz55_2
        try clear hcz60_0
        try clear hcz60_1
        try clear hcz60_2
        try clear hcz63_0
        try clear hcz63_1
        try clear hcz63_2
        try clear hcz8_0
        try clear hcz8_1
        try clear hcz8_2
        try clear hfz18_0
        try clear hfz18_1
        try clear hfz18_2
        try clear hfz20_0
        try clear hfz20_1
        try clear hfz20_2
        try clear hfz29_0
        try clear hfz29_1
        try clear hfz29_2
        try clear hfz30_0
        try clear hfz30_1
        try clear hfz30_2
        try clear hfz36_0
        try clear hfz36_1
        try clear hfz36_2
        try clear hfz38_0
        try clear hfz38_1
        try clear hfz38_2
        try clear hfz46_0
        try clear hfz46_1
        try clear hfz46_2
        try clear hfz52_0
        try clear hfz52_1
        try clear hfz52_2
        try clear hfz55_0
        try clear hfz55_1
        try clear hfz55_2
        try clear hfz60_0
        try clear hfz60_1
        try clear hfz60_2
        try clear hfz63_0
        try clear hfz63_1
        try clear hfz63_2
        try clear hfz8_0
        try clear hfz8_1
        try clear hfz8_2
        obtain ⟨kq, x51_15, rfl, HA, HJ15, HO_9, HO_205000, HO_211000, HO_221000, BK188, BK204, BK210, BK220, HB⟩ := hcut
        cases kq with
        | zero => exact absurd HA.out (by simp [laws_FnExactGrant.j0])
        | succ kj15 =>
          have H := HA.out
          clear HA
          simp only [laws_FnExactGrant.j0] at H
          by_cases c65 : x51_15 = true
          · subst c65
            have H1 : (some false) = some r := by rw [if_pos rfl] at H; exact H
            clear H
            have H := H1
            clear H1
            obtain rfl := Option.some.inj H
            go_wp2
            go_ret
            exact ⟨by first | rfl | (simp [*] <;> rfl), by repeat (first | (with_reducible first | exact HB.out | apply below_alloc | apply pw_below_drewN | apply below_drew1 | refine below_set ?_ GE188.out | refine below_set ?_ GE204.out | refine below_set ?_ GE210.out | refine below_set ?_ GE220.out) | exact HB.out)⟩
          · replace c65 := Bool.eq_false_iff.mpr c65
            subst c65
            have H1 : ((laws_toArbiter.f kj15 l0_0 a0_1 a0_2).bind fun bt222 => ((laws_eqArbiter.f kj15 t205 t208 t209 bt222.1 bt222.2.1 bt222.2.2).bind fun t227 => (if t227 = true then ((laws_toBoolS.f kj15 l1).bind fun t228 => ((laws_eqBoolS.f kj15 t211 t228).bind fun t231 => (if t231 = true then ((laws_markArbiter.f kj15 t205 t208 t209 1).bind fun bt232 => ((laws_markBoolS.f kj15 t211 bt232.1).bind fun bt234 => (if bt234.1 < 0 then (laws_FnExactGrant.j1 kj15 l1 t203 true l0_0 a0_1 a0_2 t198 t201 t202 t214 t217 t218) else ((laws_eqArbiter.f kj15 t214 t217 t218 t198 t201 t202).bind fun t236 => (if t236 = true then (laws_FnExactGrant.j1 kj15 l1 t203 (t219 != t203) l0_0 a0_1 a0_2 t198 t201 t202 t214 t217 t218) else (laws_FnExactGrant.j1 kj15 l1 t203 true l0_0 a0_1 a0_2 t198 t201 t202 t214 t217 t218)))))) else (some false)))) else (some false)))) = some r := by rw [if_neg (show ¬ (false = true) by decide)] at H; exact H
            clear H
            have H := H1
            clear H1
            replace H := Option.bind_eq_some_iff.mp H
            obtain ⟨⟨t222, t225, t226⟩, A660, H⟩ := H
            replace H : ((laws_eqArbiter.f kj15 t205 t208 t209 t222 t225 t226).bind fun t227 => (if t227 = true then ((laws_toBoolS.f kj15 l1).bind fun t228 => ((laws_eqBoolS.f kj15 t211 t228).bind fun t231 => (if t231 = true then ((laws_markArbiter.f kj15 t205 t208 t209 1).bind fun bt232 => ((laws_markBoolS.f kj15 t211 bt232.1).bind fun bt234 => (if bt234.1 < 0 then (laws_FnExactGrant.j1 kj15 l1 t203 true l0_0 a0_1 a0_2 t198 t201 t202 t214 t217 t218) else ((laws_eqArbiter.f kj15 t214 t217 t218 t198 t201 t202).bind fun t236 => (if t236 = true then (laws_FnExactGrant.j1 kj15 l1 t203 (t219 != t203) l0_0 a0_1 a0_2 t198 t201 t202 t214 t217 t218) else (laws_FnExactGrant.j1 kj15 l1 t203 true l0_0 a0_1 a0_2 t198 t201 t202 t214 t217 t218)))))) else (some false)))) else (some false))) = some r := H
            have A66 := Aside0.mk A660
            clear A660
            replace H := Option.bind_eq_some_iff.mp H
            obtain ⟨t227, A670, H⟩ := H
            replace H : (if t227 = true then ((laws_toBoolS.f kj15 l1).bind fun t228 => ((laws_eqBoolS.f kj15 t211 t228).bind fun t231 => (if t231 = true then ((laws_markArbiter.f kj15 t205 t208 t209 1).bind fun bt232 => ((laws_markBoolS.f kj15 t211 bt232.1).bind fun bt234 => (if bt234.1 < 0 then (laws_FnExactGrant.j1 kj15 l1 t203 true l0_0 a0_1 a0_2 t198 t201 t202 t214 t217 t218) else ((laws_eqArbiter.f kj15 t214 t217 t218 t198 t201 t202).bind fun t236 => (if t236 = true then (laws_FnExactGrant.j1 kj15 l1 t203 (t219 != t203) l0_0 a0_1 a0_2 t198 t201 t202 t214 t217 t218) else (laws_FnExactGrant.j1 kj15 l1 t203 true l0_0 a0_1 a0_2 t198 t201 t202 t214 t217 t218)))))) else (some false)))) else (some false)) = some r := H
            have A67 := Aside0.mk A670
            clear A670
            by_cases c68 : t227 = true
            · subst c68
              have H1 : ((laws_toBoolS.f kj15 l1).bind fun t228 => ((laws_eqBoolS.f kj15 t211 t228).bind fun t231 => (if t231 = true then ((laws_markArbiter.f kj15 t205 t208 t209 1).bind fun bt232 => ((laws_markBoolS.f kj15 t211 bt232.1).bind fun bt234 => (if bt234.1 < 0 then (laws_FnExactGrant.j1 kj15 l1 t203 true l0_0 a0_1 a0_2 t198 t201 t202 t214 t217 t218) else ((laws_eqArbiter.f kj15 t214 t217 t218 t198 t201 t202).bind fun t236 => (if t236 = true then (laws_FnExactGrant.j1 kj15 l1 t203 (t219 != t203) l0_0 a0_1 a0_2 t198 t201 t202 t214 t217 t218) else (laws_FnExactGrant.j1 kj15 l1 t203 true l0_0 a0_1 a0_2 t198 t201 t202 t214 t217 t218)))))) else (some false)))) = some r := by rw [if_pos rfl] at H; exact H
              clear H
              have H := H1
              clear H1
              replace H := Option.bind_eq_some_iff.mp H
              obtain ⟨t228, A690, H⟩ := H
              replace H : ((laws_eqBoolS.f kj15 t211 t228).bind fun t231 => (if t231 = true then ((laws_markArbiter.f kj15 t205 t208 t209 1).bind fun bt232 => ((laws_markBoolS.f kj15 t211 bt232.1).bind fun bt234 => (if bt234.1 < 0 then (laws_FnExactGrant.j1 kj15 l1 t203 true l0_0 a0_1 a0_2 t198 t201 t202 t214 t217 t218) else ((laws_eqArbiter.f kj15 t214 t217 t218 t198 t201 t202).bind fun t236 => (if t236 = true then (laws_FnExactGrant.j1 kj15 l1 t203 (t219 != t203) l0_0 a0_1 a0_2 t198 t201 t202 t214 t217 t218) else (laws_FnExactGrant.j1 kj15 l1 t203 true l0_0 a0_1 a0_2 t198 t201 t202 t214 t217 t218)))))) else (some false))) = some r := H
              have A69 := Aside0.mk A690
              clear A690
              replace H := Option.bind_eq_some_iff.mp H
              obtain ⟨t231, A700, H⟩ := H
              replace H : (if t231 = true then ((laws_markArbiter.f kj15 t205 t208 t209 1).bind fun bt232 => ((laws_markBoolS.f kj15 t211 bt232.1).bind fun bt234 => (if bt234.1 < 0 then (laws_FnExactGrant.j1 kj15 l1 t203 true l0_0 a0_1 a0_2 t198 t201 t202 t214 t217 t218) else ((laws_eqArbiter.f kj15 t214 t217 t218 t198 t201 t202).bind fun t236 => (if t236 = true then (laws_FnExactGrant.j1 kj15 l1 t203 (t219 != t203) l0_0 a0_1 a0_2 t198 t201 t202 t214 t217 t218) else (laws_FnExactGrant.j1 kj15 l1 t203 true l0_0 a0_1 a0_2 t198 t201 t202 t214 t217 t218)))))) else (some false)) = some r := H
              have A70 := Aside0.mk A700
              clear A700
              by_cases c71 : t231 = true
              · subst c71
                have H1 : ((laws_markArbiter.f kj15 t205 t208 t209 1).bind fun bt232 => ((laws_markBoolS.f kj15 t211 bt232.1).bind fun bt234 => (if bt234.1 < 0 then (laws_FnExactGrant.j1 kj15 l1 t203 true l0_0 a0_1 a0_2 t198 t201 t202 t214 t217 t218) else ((laws_eqArbiter.f kj15 t214 t217 t218 t198 t201 t202).bind fun t236 => (if t236 = true then (laws_FnExactGrant.j1 kj15 l1 t203 (t219 != t203) l0_0 a0_1 a0_2 t198 t201 t202 t214 t217 t218) else (laws_FnExactGrant.j1 kj15 l1 t203 true l0_0 a0_1 a0_2 t198 t201 t202 t214 t217 t218)))))) = some r := by rw [if_pos rfl] at H; exact H
                clear H
                have H := H1
                clear H1
                replace H := Option.bind_eq_some_iff.mp H
                obtain ⟨⟨t232, t233⟩, A720, H⟩ := H
                replace H : ((laws_markBoolS.f kj15 t211 t232).bind fun bt234 => (if bt234.1 < 0 then (laws_FnExactGrant.j1 kj15 l1 t203 true l0_0 a0_1 a0_2 t198 t201 t202 t214 t217 t218) else ((laws_eqArbiter.f kj15 t214 t217 t218 t198 t201 t202).bind fun t236 => (if t236 = true then (laws_FnExactGrant.j1 kj15 l1 t203 (t219 != t203) l0_0 a0_1 a0_2 t198 t201 t202 t214 t217 t218) else (laws_FnExactGrant.j1 kj15 l1 t203 true l0_0 a0_1 a0_2 t198 t201 t202 t214 t217 t218))))) = some r := H
                have A72 := Aside0.mk A720
                clear A720
                replace H := Option.bind_eq_some_iff.mp H
                obtain ⟨⟨t234, t235⟩, A730, H⟩ := H
                replace H : (if t234 < 0 then (laws_FnExactGrant.j1 kj15 l1 t203 true l0_0 a0_1 a0_2 t198 t201 t202 t214 t217 t218) else ((laws_eqArbiter.f kj15 t214 t217 t218 t198 t201 t202).bind fun t236 => (if t236 = true then (laws_FnExactGrant.j1 kj15 l1 t203 (t219 != t203) l0_0 a0_1 a0_2 t198 t201 t202 t214 t217 t218) else (laws_FnExactGrant.j1 kj15 l1 t203 true l0_0 a0_1 a0_2 t198 t201 t202 t214 t217 t218)))) = some r := H
                have A73 := Aside0.mk A730
                clear A730
                have HC74 := Aside0.mk H
                clear H
                try go_wp2
                have n0_ := Aside0.mk (Kd.R_drew HO_9.out)
                have n1_ := Aside0.mk (Kd.R_drew HO_205000.out)
                have n2_ := Aside0.mk (Kd.R_drew HO_211000.out)
                have n3_ := Aside0.mk (Kd.R_drew HO_221000.out)
                have n4_ := Aside0.mk (blk_drew BK188.out)
                have n5_ := Aside0.mk (blk_drew BK204.out)
                have n6_ := Aside0.mk (blk_drew BK210.out)
                have n7_ := Aside0.mk (blk_drew BK220.out)
                have n8_ := Aside0.mk (below_drew1 HB.out)
                clear HO_9
                clear HO_205000
                clear HO_211000
                clear HO_221000
                clear BK188
                clear BK204
                clear BK210
                clear BK220
                clear HB
                have HO_9 := n0_
                have HO_205000 := n1_
                have HO_211000 := n2_
                have HO_221000 := n3_
                have BK188 := n4_
                have BK204 := n5_
                have BK210 := n6_
                have BK220 := n7_
                have HB := n8_
                clear n0_ n1_ n2_ n3_ n4_ n5_ n6_ n7_ n8_
                refine start_ (n := 5) (S := fun w' => w'.cell? ⟨gb210, 0, none⟩ = some (.slice Ao33 t205.length co33) ∧ w'.cell? ⟨gb210, 1, none⟩ = some (.int .i64 t208) ∧ w'.cell? ⟨gb210, 2, none⟩ = some (.int .i64 t209) ∧ w'.cell? ⟨gb188, 0, none⟩ = some (.slice A0_0 l0_0.length c0_0) ∧ w'.cell? ⟨gb188, 1, none⟩ = some (.int .i64 a0_1) ∧ w'.cell? ⟨gb188, 2, none⟩ = some (.int .i64 a0_2)) (ds := []) #[false, false, false, false, false] (by kernel_rfl) rfl rfl ⟨(blk_cell BK210.out 0).trans rfl, (blk_cell BK210.out 1).trans rfl, (blk_cell BK210.out 2).trans rfl, (blk_cell BK188.out 0).trans rfl, (blk_cell BK188.out 1).trans rfl, (blk_cell BK188.out 2).trans rfl⟩ (fun hHeld => ?_)
                generalize wc.drew = w75 at HO_9 HO_205000 HO_211000 HO_221000 BK188 BK204 BK210 BK220 HB hHeld ⊢
                refine take_ (i := 0) (N := some 52) (v := ?_) (a' := ?_) #[true, false, false, false, false] rfl rfl (by kernel_rfl) (fun _ _ _ h => h) (Or.inl ⟨by rfl, ?_⟩) hHeld ?_ ?_
                rotate_left
                · rintro w' ⟨s0, s1, s2, s3, s4, s5⟩
                  go_simp
                  with_reducible rfl
                rotate_left
                · simp only [Act.put, List.setIfInBounds_toArray, List.set_cons_zero, List.set_cons_succ, i64_w, i32_w]
                  rfl
                refine take_ (i := 1) (N := some 53) (v := ?_) (a' := ?_) #[true, true, false, false, false] rfl rfl (by kernel_rfl) (fun _ _ _ h => h) (Or.inl ⟨by rfl, ?_⟩) hHeld ?_ ?_
                rotate_left
                · rintro w' ⟨s0, s1, s2, s3, s4, s5⟩
                  go_simp
                  with_reducible rfl
                rotate_left
                · simp only [Act.put, List.setIfInBounds_toArray, List.set_cons_zero, List.set_cons_succ, i64_w, i32_w]
                  rfl
                refine one_ (i := 2) (N := some 54) #[true, true, true, false, false] rfl rfl (by kernel_rfl) (by decide) (fun K hK => ?_)
                refine goes_ Try.func22 (by kernel_rfl) rfl #[.agg #[.slice A0_0 l0_0.length c0_0, .int .i64 a0_1, .int .i64 a0_2]] (by rfl) rfl rfl (by (try simp only [List.map_toArray, List.map_cons, List.map_nil]); first | done | rfl) ?_
                with_reducible refine (laws_toArbiter.calls kj15 _ _ l0_0 a0_1 a0_2 t222 t225 t226 _ ?side1 ?side2 A66.out).mono ?_
                (case side1 => repeat (first | exact (Kd.C_below HR0_0.out HB.out) | (with_reducible refine Kd.C_alloc ?_ _) | (with_reducible refine Kd.C_drewN ?_ _) | (with_reducible refine Kd.C_drew ?_)))
                (case side2 => exact HC0_0.out)
                rintro e w76 ⟨v223, rfl, ho0, hb⟩
                refine ⟨_, rfl, ?_⟩
                have n0_ := Aside0.mk (Kd.R_below (by (with_reducible repeat (first | apply Kd.R_alloc | apply Kd.R_drewN | apply Kd.R_drew)); exact HO_9.out) hb)
                have n1_ := Aside0.mk (Kd.R_elder' (by (with_reducible repeat (first | apply Kd.R_alloc | apply Kd.R_drewN | apply Kd.R_drew)); exact HO_205000.out) (Kd.R_base ho0) hb)
                have n2_ := Aside0.mk (Kd.R_elder' (by (with_reducible repeat (first | apply Kd.R_alloc | apply Kd.R_drewN | apply Kd.R_drew)); exact HO_211000.out) (Kd.R_base ho0) hb)
                have n3_ := Aside0.mk (Kd.R_elder' (by (with_reducible repeat (first | apply Kd.R_alloc | apply Kd.R_drewN | apply Kd.R_drew)); exact HO_221000.out) (Kd.R_base ho0) hb)
                have n4_ := Aside0.mk (Kd.R_lower (Kd.R_new' (Kd.R_new' (Kd.R_new' ho0 (Kd.R_lt (by (with_reducible repeat (first | apply Kd.R_alloc | apply Kd.R_drewN | apply Kd.R_drew)); exact HO_205000.out))) (Kd.R_lt (by (with_reducible repeat (first | apply Kd.R_alloc | apply Kd.R_drewN | apply Kd.R_drew)); exact HO_211000.out))) (Kd.R_lt (by (with_reducible repeat (first | apply Kd.R_alloc | apply Kd.R_drewN | apply Kd.R_drew)); exact HO_221000.out))) (below_size (by repeat (first | (with_reducible first | exact HB.out | apply below_alloc | apply pw_below_drewN | apply below_drew1 | refine below_set ?_ GE188.out | refine below_set ?_ GE204.out | refine below_set ?_ GE210.out | refine below_set ?_ GE220.out) | exact HB.out))))
                have n5_ := Aside0.mk (blk_below (g := gb188) (o := .cells #[.slice A0_0 l0_0.length c0_0, .int .i64 a0_1, .int .i64 a0_2] 30 (0, 0)) (by (with_reducible repeat (first | apply blk_drewN | apply blk_drew | apply blk_alloc)); exact BK188.out) hb)
                have n6_ := Aside0.mk (blk_below (g := gb204) (o := .cells #[.slice Ao27 t198.length co27, .int .i64 t201, .int .i64 t202] 33 (0, 0)) (by (with_reducible repeat (first | apply blk_drewN | apply blk_drew | apply blk_alloc)); exact BK204.out) hb)
                have n7_ := Aside0.mk (blk_below (g := gb210) (o := .cells #[.slice Ao33 t205.length co33, .int .i64 t208, .int .i64 t209] 33 (0, 0)) (by (with_reducible repeat (first | apply blk_drewN | apply blk_drew | apply blk_alloc)); exact BK210.out) hb)
                have n8_ := Aside0.mk (blk_below (g := gb220) (o := .cells #[.slice Ao42 t214.length co42, .int .i64 t217, .int .i64 t218] 33 (0, 0)) (by (with_reducible repeat (first | apply blk_drewN | apply blk_drew | apply blk_alloc)); exact BK220.out) hb)
                have n9_ := Aside0.mk (below_step (by repeat (first | (with_reducible first | exact HB.out | apply below_alloc | apply pw_below_drewN | apply below_drew1 | refine below_set ?_ GE188.out | refine below_set ?_ GE204.out | refine below_set ?_ GE210.out | refine below_set ?_ GE220.out) | exact HB.out)) hb)
                clear HO_9
                clear HO_205000
                clear HO_211000
                clear HO_221000
                clear BK188
                clear BK204
                clear BK210
                clear BK220
                clear HB
                have HO_9 := n0_
                have HO_205000 := n1_
                have HO_211000 := n2_
                have HO_221000 := n3_
                have HO224 := n4_
                have BK188 := n5_
                have BK204 := n6_
                have BK210 := n7_
                have BK220 := n8_
                have HB := n9_
                clear n0_ n1_ n2_ n3_ n4_ n5_ n6_ n7_ n8_ n9_
                (try clear hb)
                (try clear hb2)
                (try clear hk)
                (try clear hi)
                (try clear ho0)
                obtain ⟨Ao77, co77, eo77⟩ := Kd.R_slice HO224.out
                (first | subst eo77 | (injection eo77 with f1_ f2_ f3_; have f4_ := f1_.symm; have f5_ := f3_.symm; clear f1_ f2_ f3_; subst f4_; subst f5_))
                refine hK.out _ _ ⟨(blk_cell BK210.out 0).trans rfl, (blk_cell BK210.out 1).trans rfl, (blk_cell BK210.out 2).trans rfl, (blk_cell BK188.out 0).trans rfl, (blk_cell BK188.out 1).trans rfl, (blk_cell BK188.out 2).trans rfl⟩ (fun hHeld => ?_)
                clear hK K
                refine norm_ (a' := ?_) ?_ ?_
                rotate_left
                · show Act.put _ (some 54) _ = _
                  simp only [Act.put, List.setIfInBounds_toArray, List.set_cons_zero, List.set_cons_succ, i64_w, i32_w]
                  rfl
                refine one_ (i := 3) (N := some 55) #[true, true, true, true, false] rfl rfl (by kernel_rfl) (by decide) (fun K hK => ?_)
                refine goes_ Try.func24 (by kernel_rfl) rfl #[.agg #[.slice Ao33 t205.length co33, .int .i64 t208, .int .i64 t209], .agg #[.slice Ao77 t222.length co77, .int .i64 t225, .int .i64 t226]] (by rfl) rfl rfl (by (try simp only [List.map_toArray, List.map_cons, List.map_nil]); first | done | rfl) ?_
                with_reducible refine (laws_eqArbiter.calls kj15 _ _ t205 t208 t209 _ _ t222 t225 t226 true _ ?side1 ?side2 ?side3 ?side4 A67.out).mono ?_
                (case side1 => repeat (first | exact (Kd.R_reads' HO_211000.out).2.2 | (with_reducible refine Kd.C_alloc ?_ _) | (with_reducible refine Kd.C_drewN ?_ _) | (with_reducible refine Kd.C_drew ?_)))
                (case side2 => exact (Kd.R_reads' HO_211000.out).2.1)
                (case side3 => repeat (first | exact (Kd.R_reads' HO224.out).2.2 | (with_reducible refine Kd.C_alloc ?_ _) | (with_reducible refine Kd.C_drewN ?_ _) | (with_reducible refine Kd.C_drew ?_)))
                (case side4 => exact (Kd.R_reads' HO224.out).2.1)
                rintro e w78 ⟨rfl, hb⟩
                refine ⟨_, rfl, ?_⟩
                have n0_ := Aside0.mk (Kd.R_below (by (with_reducible repeat (first | apply Kd.R_alloc | apply Kd.R_drewN | apply Kd.R_drew)); exact HO_9.out) hb)
                have n1_ := Aside0.mk (Kd.R_below (by (with_reducible repeat (first | apply Kd.R_alloc | apply Kd.R_drewN | apply Kd.R_drew)); exact HO_205000.out) hb)
                have n2_ := Aside0.mk (Kd.R_below (by (with_reducible repeat (first | apply Kd.R_alloc | apply Kd.R_drewN | apply Kd.R_drew)); exact HO_211000.out) hb)
                have n3_ := Aside0.mk (Kd.R_below (by (with_reducible repeat (first | apply Kd.R_alloc | apply Kd.R_drewN | apply Kd.R_drew)); exact HO_221000.out) hb)
                have n4_ := Aside0.mk (Kd.R_below (by (with_reducible repeat (first | apply Kd.R_alloc | apply Kd.R_drewN | apply Kd.R_drew)); exact HO224.out) hb)
                have n5_ := Aside0.mk (blk_below (g := gb188) (o := .cells #[.slice A0_0 l0_0.length c0_0, .int .i64 a0_1, .int .i64 a0_2] 30 (0, 0)) (by (with_reducible repeat (first | apply blk_drewN | apply blk_drew | apply blk_alloc)); exact BK188.out) hb)
                have n6_ := Aside0.mk (blk_below (g := gb204) (o := .cells #[.slice Ao27 t198.length co27, .int .i64 t201, .int .i64 t202] 33 (0, 0)) (by (with_reducible repeat (first | apply blk_drewN | apply blk_drew | apply blk_alloc)); exact BK204.out) hb)
                have n7_ := Aside0.mk (blk_below (g := gb210) (o := .cells #[.slice Ao33 t205.length co33, .int .i64 t208, .int .i64 t209] 33 (0, 0)) (by (with_reducible repeat (first | apply blk_drewN | apply blk_drew | apply blk_alloc)); exact BK210.out) hb)
                have n8_ := Aside0.mk (blk_below (g := gb220) (o := .cells #[.slice Ao42 t214.length co42, .int .i64 t217, .int .i64 t218] 33 (0, 0)) (by (with_reducible repeat (first | apply blk_drewN | apply blk_drew | apply blk_alloc)); exact BK220.out) hb)
                have n9_ := Aside0.mk (below_step (by repeat (first | (with_reducible first | exact HB.out | apply below_alloc | apply pw_below_drewN | apply below_drew1 | refine below_set ?_ GE188.out | refine below_set ?_ GE204.out | refine below_set ?_ GE210.out | refine below_set ?_ GE220.out) | exact HB.out)) hb)
                clear HO_9
                clear HO_205000
                clear HO_211000
                clear HO_221000
                clear HO224
                clear BK188
                clear BK204
                clear BK210
                clear BK220
                clear HB
                have HO_9 := n0_
                have HO_205000 := n1_
                have HO_211000 := n2_
                have HO_221000 := n3_
                have HO224 := n4_
                have BK188 := n5_
                have BK204 := n6_
                have BK210 := n7_
                have BK220 := n8_
                have HB := n9_
                clear n0_ n1_ n2_ n3_ n4_ n5_ n6_ n7_ n8_ n9_
                (try clear hb)
                (try clear hb2)
                (try clear hk)
                (try clear hi)
                refine hK.out _ _ ⟨(blk_cell BK210.out 0).trans rfl, (blk_cell BK210.out 1).trans rfl, (blk_cell BK210.out 2).trans rfl, (blk_cell BK188.out 0).trans rfl, (blk_cell BK188.out 1).trans rfl, (blk_cell BK188.out 2).trans rfl⟩ (fun hHeld => ?_)
                clear hK K
                refine norm_ (a' := ?_) ?_ ?_
                rotate_left
                · show Act.put _ (some 55) _ = _
                  simp only [Act.put, List.setIfInBounds_toArray, List.set_cons_zero, List.set_cons_succ, i64_w, i32_w]
                  rfl
                refine pure_ (i := 4) (N := some 56) (v := ?_) (a' := ?_) #[true, true, true, true, true] rfl rfl (by kernel_rfl) (fun _ _ _ h => h) (Or.inl ⟨by rfl, ?_⟩) ?_ ?_
                rotate_left
                · intro w'
                  go_simp
                  with_reducible rfl
                rotate_left
                · simp only [Act.put, List.setIfInBounds_toArray, List.set_cons_zero, List.set_cons_succ, i64_w, i32_w]
                  rfl
                refine done_ (by kernel_rfl) ?_
                go_upto_region 20 with (first | ((with_reducible refine gate_callee (f := 36) rfl ?_); refine goesL_ (some 59) rfl rfl Try.func36 (by kernel_rfl) rfl #[.slice A1 l1.length c1] rfl (by (try simp only [List.map_toArray, List.map_cons, List.map_nil]); first | done | rfl) ?_; (with_reducible refine (laws_toBoolS.calls kj15 _ _ l1 t228 _ ?side1 ?side2 A69.out).mono ?_); (case side1 => repeat (first | exact (Kd.C_below HR1.out HB.out) | (with_reducible refine Kd.C_alloc ?_ _) | (with_reducible refine Kd.C_drewN ?_ _) | (with_reducible refine Kd.C_drew ?_))); (case side2 => exact HC1.out); rintro e w79 ⟨v229, rfl, ho0, hb⟩; refine ⟨_, rfl, ?_⟩; have n0_ := Aside0.mk (Kd.R_elder' (by (with_reducible repeat (first | apply Kd.R_alloc | apply Kd.R_drewN | apply Kd.R_drew)); exact HO_9.out) (Kd.R_base ho0) hb); have n1_ := Aside0.mk (Kd.R_below (by (with_reducible repeat (first | apply Kd.R_alloc | apply Kd.R_drewN | apply Kd.R_drew)); exact HO_205000.out) hb); have n2_ := Aside0.mk (Kd.R_below (by (with_reducible repeat (first | apply Kd.R_alloc | apply Kd.R_drewN | apply Kd.R_drew)); exact HO_211000.out) hb); have n3_ := Aside0.mk (Kd.R_below (by (with_reducible repeat (first | apply Kd.R_alloc | apply Kd.R_drewN | apply Kd.R_drew)); exact HO_221000.out) hb); have n4_ := Aside0.mk (Kd.R_below (by (with_reducible repeat (first | apply Kd.R_alloc | apply Kd.R_drewN | apply Kd.R_drew)); exact HO224.out) hb); have n5_ := Aside0.mk (Kd.R_lower (Kd.R_new' ho0 (Kd.R_lt (by (with_reducible repeat (first | apply Kd.R_alloc | apply Kd.R_drewN | apply Kd.R_drew)); exact HO_9.out))) (below_size (by repeat (first | (with_reducible first | exact HB.out | apply below_alloc | apply pw_below_drewN | apply below_drew1 | refine below_set ?_ GE188.out | refine below_set ?_ GE204.out | refine below_set ?_ GE210.out | refine below_set ?_ GE220.out) | exact HB.out)))); have n6_ := Aside0.mk (blk_below (g := gb188) (o := .cells #[.slice A0_0 l0_0.length c0_0, .int .i64 a0_1, .int .i64 a0_2] 30 (0, 0)) (by (with_reducible repeat (first | apply blk_drewN | apply blk_drew | apply blk_alloc)); exact BK188.out) hb); have n7_ := Aside0.mk (blk_below (g := gb204) (o := .cells #[.slice Ao27 t198.length co27, .int .i64 t201, .int .i64 t202] 33 (0, 0)) (by (with_reducible repeat (first | apply blk_drewN | apply blk_drew | apply blk_alloc)); exact BK204.out) hb); have n8_ := Aside0.mk (blk_below (g := gb210) (o := .cells #[.slice Ao33 t205.length co33, .int .i64 t208, .int .i64 t209] 33 (0, 0)) (by (with_reducible repeat (first | apply blk_drewN | apply blk_drew | apply blk_alloc)); exact BK210.out) hb); have n9_ := Aside0.mk (blk_below (g := gb220) (o := .cells #[.slice Ao42 t214.length co42, .int .i64 t217, .int .i64 t218] 33 (0, 0)) (by (with_reducible repeat (first | apply blk_drewN | apply blk_drew | apply blk_alloc)); exact BK220.out) hb); have n10_ := Aside0.mk (below_step (by repeat (first | (with_reducible first | exact HB.out | apply below_alloc | apply pw_below_drewN | apply below_drew1 | refine below_set ?_ GE188.out | refine below_set ?_ GE204.out | refine below_set ?_ GE210.out | refine below_set ?_ GE220.out) | exact HB.out)) hb); clear HO_9; clear HO_205000; clear HO_211000; clear HO_221000; clear HO224; clear BK188; clear BK204; clear BK210; clear BK220; clear HB; have HO_9 := n0_; have HO_205000 := n1_; have HO_211000 := n2_; have HO_221000 := n3_; have HO224 := n4_; have HO230 := n5_; have BK188 := n6_; have BK204 := n7_; have BK210 := n8_; have BK220 := n9_; have HB := n10_; clear n0_ n1_ n2_ n3_ n4_ n5_ n6_ n7_ n8_ n9_ n10_; (try clear hb); (try clear hb2); (try clear hk); (try clear hi); (try clear ho0); obtain ⟨Ao80, co80, eo80⟩ := Kd.R_slice HO230.out; subst eo80) | ((with_reducible refine gate_callee (f := 37) rfl ?_); refine goesL_ (some 60) rfl rfl Try.func37 (by kernel_rfl) rfl #[.slice Ao39 t211.length co39, .slice Ao80 t228.length co80] rfl (by (try simp only [List.map_toArray, List.map_cons, List.map_nil]); first | done | rfl) ?_; (with_reducible refine (laws_eqBoolS.calls kj15 _ _ t211 _ _ t228 true _ ?side1 ?side2 ?side3 ?side4 A70.out).mono ?_); (case side1 => repeat (first | exact (Kd.R_reads' HO_9.out).2.2 | (with_reducible refine Kd.C_alloc ?_ _) | (with_reducible refine Kd.C_drewN ?_ _) | (with_reducible refine Kd.C_drew ?_))); (case side2 => exact (Kd.R_reads' HO_9.out).2.1); (case side3 => repeat (first | exact (Kd.R_reads' HO230.out).2.2 | (with_reducible refine Kd.C_alloc ?_ _) | (with_reducible refine Kd.C_drewN ?_ _) | (with_reducible refine Kd.C_drew ?_))); (case side4 => exact (Kd.R_reads' HO230.out).2.1); rintro e w' ⟨rfl, ⟨nd, rfl⟩⟩; refine ⟨_, rfl, ?_⟩; have hnb81 := NB210_188.out; have hnc81 := NB188_210.out; have hnb82 := NB210_204.out; have hnc82 := NB204_210.out; have hnb83 := NB210_220.out; have hnc83 := NB220_210.out; have hcz84_0 : w79.cell? ⟨gb210, 0, none⟩ = some (.slice Ao33 t205.length co33) := (blk_cell BK210.out 0).trans rfl; have hcz84_1 : w79.cell? ⟨gb210, 1, none⟩ = some (.int .i64 t208) := (blk_cell BK210.out 1).trans rfl; have hcz84_2 : w79.cell? ⟨gb210, 2, none⟩ = some (.int .i64 t209) := (blk_cell BK210.out 2).trans rfl; have hfz84_0 := blk_frozen BK210.out 0; have hfz84_1 := blk_frozen BK210.out 1; have hfz84_2 := blk_frozen BK210.out 2) | ((with_reducible refine gate_callee (f := 28) rfl ?_); refine goesL_ (some 64) rfl rfl Try.func28 (by kernel_rfl) rfl #[.agg #[.slice Ao33 t205.length co33, .int .i64 t208, .int .i64 t209], .int .i64 1] rfl (by (try simp only [List.map_toArray, List.map_cons, List.map_nil]); first | done | rfl) ?_; (with_reducible refine (laws_markArbiter.calls kj15 (fun k_ => some k_ = (.slice Ao33 t205.length co33 : Value).ownBlock) (.slice Ao33 t205.length co33) t205 t208 t209 1 t232 t233 w _ ?side1 ?side2 A72.out).mono ?_); (case side1 => repeat (first | (with_reducible first | exact HB.out | apply below_alloc | apply pw_below_drewN | apply below_drew1 | refine below_set ?_ GE188.out | refine below_set ?_ GE204.out | refine below_set ?_ GE210.out | refine below_set ?_ GE220.out) | exact HB.out)); (case side2 => exact Kd.R_tight rfl HO_211000.out); rintro e w85 ⟨rfl, hy0, hb, hkp⟩; refine ⟨_, rfl, ?_⟩; have n0_ := Aside0.mk (Kd.R_mono (ok' := fun k_ => some k_ ≠ (.slice Ao80 t228.length co80 : Value).ownBlock) (Kd.R_keptB ((Kd.R_apart' HO_9.out (Kd.R_typed HO_211000.out) (by decide))) hkp (fun k_ hk_ hs_ => by first | exact (hk_.2) hs_ | (revert hs_; simp only [ne_eq, hk_, false_imp_iff]))) (fun k_ hk_ => by first | exact hk_.1.1.2 | simp only [ne_eq, hk_, not_false_eq_true, and_self, true_and, and_true])); have n1_ := Aside0.mk (Kd.R_mono (ok' := fun k_ => some k_ ≠ (.slice Ao33 t205.length co33 : Value).ownBlock ∧ some k_ ≠ (.slice Ao42 t214.length co42 : Value).ownBlock ∧ some k_ ≠ (.slice Ao77 t222.length co77 : Value).ownBlock) (Kd.R_keptB (HO_205000.out) hkp (fun k_ hk_ hs_ => by first | exact (hk_.1.1) hs_ | (revert hs_; simp only [ne_eq, hk_, false_imp_iff]))) (fun k_ hk_ => by first | exact ⟨hk_.1.1.1, hk_.1.1.2, hk_.1.2⟩ | simp only [ne_eq, hk_, not_false_eq_true, and_self, true_and, and_true])); have n2_ := Aside0.mk (Kd.R_reok rfl hy0 (fun k_ e_ => HO_211000.out.1 k_ e_)); have n3_ := Aside0.mk (Kd.R_mono (ok' := fun k_ => some k_ ≠ (.slice Ao27 t198.length co27 : Value).ownBlock ∧ some k_ ≠ (.slice Ao33 t205.length co33 : Value).ownBlock ∧ some k_ ≠ (.slice Ao77 t222.length co77 : Value).ownBlock) (Kd.R_keptB (HO_221000.out) hkp (fun k_ hk_ hs_ => by first | exact (hk_.1.2) hs_ | (revert hs_; simp only [ne_eq, hk_, false_imp_iff]))) (fun k_ hk_ => by first | exact ⟨hk_.1.1.1, hk_.1.1.2, hk_.1.2⟩ | simp only [ne_eq, hk_, not_false_eq_true, and_self, true_and, and_true])); have n4_ := Aside0.mk (blk_kept (by (with_reducible repeat (first | apply blk_drewN | apply blk_drew | apply blk_alloc)); exact BK188.out) hkp (fun hs_ => (fun e_ => (Kd.R_ne HO_211000.out BK188.out (by decide)) e_) hs_)); have n5_ := Aside0.mk (blk_kept (by (with_reducible repeat (first | apply blk_drewN | apply blk_drew | apply blk_alloc)); exact BK204.out) hkp (fun hs_ => (fun e_ => (Kd.R_ne HO_211000.out BK204.out (by decide)) e_) hs_)); have n6_ := Aside0.mk (blk_kept (by (with_reducible repeat (first | apply blk_drewN | apply blk_drew | apply blk_alloc)); exact BK210.out) hkp (fun hs_ => (fun e_ => (Kd.R_ne HO_211000.out BK210.out (by decide)) e_) hs_)); have n7_ := Aside0.mk (blk_kept (by (with_reducible repeat (first | apply blk_drewN | apply blk_drew | apply blk_alloc)); exact BK220.out) hkp (fun hs_ => (fun e_ => (Kd.R_ne HO_211000.out BK220.out (by decide)) e_) hs_)); have n8_ := Aside0.mk (Kd.R_mono (ok' := fun k_ => some k_ ≠ (.slice Ao27 t198.length co27 : Value).ownBlock ∧ some k_ ≠ (.slice Ao33 t205.length co33 : Value).ownBlock ∧ some k_ ≠ (.slice Ao42 t214.length co42 : Value).ownBlock) (Kd.R_keptB (HO224.out) hkp (fun k_ hk_ hs_ => by first | exact (hk_.1.2) hs_ | (revert hs_; simp only [ne_eq, hk_, false_imp_iff]))) (fun k_ hk_ => by first | exact ⟨hk_.1.1.1.2, hk_.1.1.2, hk_.1.2⟩ | simp only [ne_eq, hk_, not_false_eq_true, and_self, true_and, and_true])); have n9_ := Aside0.mk (Kd.R_mono (ok' := fun k_ => some k_ ≠ (.slice Ao39 t211.length co39 : Value).ownBlock) (Kd.R_keptB ((Kd.R_apart' HO230.out (Kd.R_typed HO_211000.out) (by decide))) hkp (fun k_ hk_ hs_ => by first | exact (hk_.2) hs_ | (revert hs_; simp only [ne_eq, hk_, false_imp_iff]))) (fun k_ hk_ => by first | exact hk_.1.1.2 | simp only [ne_eq, hk_, not_false_eq_true, and_self, true_and, and_true])); have n10_ := Aside0.mk (hb); clear HO_9; clear HO_205000; clear HO_211000; clear HO_221000; clear BK188; clear BK204; clear BK210; clear BK220; clear HO224; clear HO230; clear HB; have HO_9 := n0_; have HO_205000 := n1_; have HO_211000 := n2_; have HO_221000 := n3_; have BK188 := n4_; have BK204 := n5_; have BK210 := n6_; have BK220 := n7_; have HO224 := n8_; have HO230 := n9_; have HB := n10_; clear n0_ n1_ n2_ n3_ n4_ n5_ n6_ n7_ n8_ n9_ n10_; (try clear hb); (try clear hkp); (try clear hy0)) | ((with_reducible refine gate_callee (f := 38) rfl ?_); refine goesL_ (some 67) rfl rfl Try.func38 (by kernel_rfl) rfl #[.slice Ao39 t211.length co39, .int .i64 t232] rfl (by (try simp only [List.map_toArray, List.map_cons, List.map_nil]); first | done | rfl) ?_; (with_reducible refine (laws_markBoolS.calls kj15 (fun k_ => some k_ = (.slice Ao39 t211.length co39 : Value).ownBlock) (.slice Ao39 t211.length co39) t211 t232 t234 t235 w _ ?side1 ?side2 A73.out).mono ?_); (case side1 => repeat (first | (with_reducible first | exact HB.out | apply below_alloc | apply pw_below_drewN | apply below_drew1 | refine below_set ?_ GE188.out | refine below_set ?_ GE204.out | refine below_set ?_ GE210.out | refine below_set ?_ GE220.out) | exact HB.out)); (case side2 => exact Kd.R_tight rfl HO_9.out); rintro e w86 ⟨rfl, hy0, hb, hkp⟩; refine ⟨_, rfl, ?_⟩; have n0_ := Aside0.mk (Kd.R_reok rfl hy0 (fun k_ e_ => HO_9.out.1 k_ e_)); have n1_ := Aside0.mk (Kd.R_mono (ok' := fun k_ => some k_ ≠ (.slice Ao33 t205.length co33 : Value).ownBlock ∧ some k_ ≠ (.slice Ao42 t214.length co42 : Value).ownBlock ∧ some k_ ≠ (.slice Ao77 t222.length co77 : Value).ownBlock) (Kd.R_keptB ((Kd.R_apart' HO_205000.out (Kd.R_typed HO_9.out) (by decide))) hkp (fun k_ hk_ hs_ => by first | exact (hk_.2) hs_ | (revert hs_; simp only [ne_eq, hk_, false_imp_iff]))) (fun k_ hk_ => by first | exact ⟨hk_.1.1.1, hk_.1.1.2.1, hk_.1.1.2.2⟩ | simp only [ne_eq, hk_, not_false_eq_true, and_self, true_and, and_true])); have n2_ := Aside0.mk (Kd.R_mono (ok' := fun k_ => some k_ ≠ (.slice Ao27 t198.length co27 : Value).ownBlock ∧ some k_ ≠ (.slice Ao42 t214.length co42 : Value).ownBlock ∧ some k_ ≠ (.slice Ao77 t222.length co77 : Value).ownBlock) (Kd.R_keptB ((Kd.R_apart' HO_211000.out (Kd.R_typed HO_9.out) (by decide))) hkp (fun k_ hk_ hs_ => by first | exact (hk_.2) hs_ | (revert hs_; simp only [ne_eq, hk_, false_imp_iff]))) (fun k_ hk_ => by first | exact ⟨hk_.1.1.1.1, hk_.1.1.1.2, hk_.1.1.2⟩ | simp only [ne_eq, hk_, not_false_eq_true, and_self, true_and, and_true])); have n3_ := Aside0.mk (Kd.R_mono (ok' := fun k_ => some k_ ≠ (.slice Ao27 t198.length co27 : Value).ownBlock ∧ some k_ ≠ (.slice Ao33 t205.length co33 : Value).ownBlock ∧ some k_ ≠ (.slice Ao77 t222.length co77 : Value).ownBlock) (Kd.R_keptB ((Kd.R_apart' HO_221000.out (Kd.R_typed HO_9.out) (by decide))) hkp (fun k_ hk_ hs_ => by first | exact (hk_.2) hs_ | (revert hs_; simp only [ne_eq, hk_, false_imp_iff]))) (fun k_ hk_ => by first | exact ⟨hk_.1.1.1, hk_.1.1.2.1, hk_.1.1.2.2⟩ | simp only [ne_eq, hk_, not_false_eq_true, and_self, true_and, and_true])); have n4_ := Aside0.mk (blk_kept (by (with_reducible repeat (first | apply blk_drewN | apply blk_drew | apply blk_alloc)); exact BK188.out) hkp (fun hs_ => (fun e_ => (Kd.R_ne HO_9.out BK188.out (by decide)) e_) hs_)); have n5_ := Aside0.mk (blk_kept (by (with_reducible repeat (first | apply blk_drewN | apply blk_drew | apply blk_alloc)); exact BK204.out) hkp (fun hs_ => (fun e_ => (Kd.R_ne HO_9.out BK204.out (by decide)) e_) hs_)); have n6_ := Aside0.mk (blk_kept (by (with_reducible repeat (first | apply blk_drewN | apply blk_drew | apply blk_alloc)); exact BK210.out) hkp (fun hs_ => (fun e_ => (Kd.R_ne HO_9.out BK210.out (by decide)) e_) hs_)); have n7_ := Aside0.mk (blk_kept (by (with_reducible repeat (first | apply blk_drewN | apply blk_drew | apply blk_alloc)); exact BK220.out) hkp (fun hs_ => (fun e_ => (Kd.R_ne HO_9.out BK220.out (by decide)) e_) hs_)); have n8_ := Aside0.mk (Kd.R_mono (ok' := fun k_ => some k_ ≠ (.slice Ao27 t198.length co27 : Value).ownBlock ∧ some k_ ≠ (.slice Ao33 t205.length co33 : Value).ownBlock ∧ some k_ ≠ (.slice Ao42 t214.length co42 : Value).ownBlock) (Kd.R_keptB ((Kd.R_apart' HO224.out (Kd.R_typed HO_9.out) (by decide))) hkp (fun k_ hk_ hs_ => by first | exact (hk_.2) hs_ | (revert hs_; simp only [ne_eq, hk_, false_imp_iff]))) (fun k_ hk_ => by first | exact ⟨hk_.1.1.1, hk_.1.1.2.1, hk_.1.1.2.2⟩ | simp only [ne_eq, hk_, not_false_eq_true, and_self, true_and, and_true])); have n9_ := Aside0.mk (Kd.R_mono (ok' := fun k_ => some k_ ≠ (.slice Ao39 t211.length co39 : Value).ownBlock) (Kd.R_keptB (HO230.out) hkp (fun k_ hk_ hs_ => by first | exact (hk_) hs_ | (revert hs_; simp only [ne_eq, hk_, false_imp_iff]))) (fun k_ hk_ => by first | exact hk_.1 | simp only [ne_eq, hk_, not_false_eq_true, and_self, true_and, and_true])); have n10_ := Aside0.mk (hb); clear HO_9; clear HO_205000; clear HO_211000; clear HO_221000; clear BK188; clear BK204; clear BK210; clear BK220; clear HO224; clear HO230; clear HB; have HO_9 := n0_; have HO_205000 := n1_; have HO_211000 := n2_; have HO_221000 := n3_; have BK188 := n4_; have BK204 := n5_; have BK210 := n6_; have BK220 := n7_; have HO224 := n8_; have HO230 := n9_; have HB := n10_; clear n0_ n1_ n2_ n3_ n4_ n5_ n6_ n7_ n8_ n9_ n10_; (try clear hb); (try clear hkp); (try clear hy0)))
                (try simp only [Act.put, List.setIfInBounds_toArray, List.set_cons_zero, List.set_cons_succ])
                go_cut [80] (fun v80 wc => ∃ (kq : Nat) (x80_73 : Bool), v80 = .bool x80_73 ∧ Aside0 (laws_FnExactGrant.j1 kq l1 t203 x80_73 l0_0 a0_1 a0_2 t198 t201 t202 t214 t217 t218 = some r) ∧ Aside0 (kq ≤ kj15) ∧ Aside0 (Kd.R (Kd.int .i64) 3 wc w.heap.size (fun k_ => some k_ ≠ ((.slice Ao33 t205.length co33) : Value).ownBlock ∧ some k_ ≠ ((.slice Ao42 t214.length co42) : Value).ownBlock) (.slice Ao27 t198.length co27) t198) ∧ Aside0 (Kd.R (Kd.int .i64) 3 wc w.heap.size (fun k_ => some k_ ≠ ((.slice Ao27 t198.length co27) : Value).ownBlock ∧ some k_ ≠ ((.slice Ao42 t214.length co42) : Value).ownBlock) (.slice Ao33 t205.length co33) t233) ∧ Aside0 (Kd.R (Kd.int .i64) 3 wc w.heap.size (fun k_ => some k_ ≠ ((.slice Ao27 t198.length co27) : Value).ownBlock ∧ some k_ ≠ ((.slice Ao33 t205.length co33) : Value).ownBlock) (.slice Ao42 t214.length co42) t214) ∧ Aside0 (wc.heap[gb188]? = some (.cells #[(.slice A0_0 l0_0.length c0_0), .int .i64 a0_1, .int .i64 a0_2] 30 (0, 0))) ∧ Aside0 (wc.heap[gb204]? = some (.cells #[(.slice Ao27 t198.length co27), .int .i64 t201, .int .i64 t202] 33 (0, 0))) ∧ Aside0 (wc.heap[gb210]? = some (.cells #[(.slice Ao33 t205.length co33), .int .i64 t208, .int .i64 t209] 33 (0, 0))) ∧ Aside0 (wc.heap[gb220]? = some (.cells #[(.slice Ao42 t214.length co42), .int .i64 t217, .int .i64 t218] 33 (0, 0))) ∧ Aside0 (Below w.heap.size w wc))
                case first =>
                  have H := HC74.out
                  clear HC74
                  by_cases c87 : t234 < 0
                  · rw [if_pos c87] at H
                    have c87b0 : decide (t234 < 0) = true := decide_eq_true c87
                    clear c87
                    (first | rw [c87b0] | (simp only [i64_w, i32_w]; rw [c87b0]) | skip)
                    have H' := Aside0.mk H
                    clear H
                    go_wp2
                    go_meet
                    case rel => exact ⟨_, (true), (by first | rfl | (simp [*]; done)), H', ⟨by have := HJ15.out; first | omega | exact Nat.le_refl _⟩, ⟨by (with_reducible repeat (first | apply Kd.R_alloc | apply Kd.R_drewN | apply Kd.R_drew)); exact Kd.R_mono HO_205000.out (fun _ hk => (And.intro (hk.1) (hk.2.1)))⟩, ⟨by (with_reducible repeat (first | apply Kd.R_alloc | apply Kd.R_drewN | apply Kd.R_drew)); exact Kd.R_mono HO_211000.out (fun _ hk => (And.intro (hk.1) (hk.2.1)))⟩, ⟨by (with_reducible repeat (first | apply Kd.R_alloc | apply Kd.R_drewN | apply Kd.R_drew)); exact Kd.R_mono HO_221000.out (fun _ hk => (And.intro (hk.1) (hk.2.1)))⟩, ⟨by (with_reducible repeat (first | apply blk_drewN | apply blk_drew | apply blk_alloc)); exact BK188.out⟩, ⟨by (with_reducible repeat (first | apply blk_drewN | apply blk_drew | apply blk_alloc)); exact BK204.out⟩, ⟨by (with_reducible repeat (first | apply blk_drewN | apply blk_drew | apply blk_alloc)); exact BK210.out⟩, ⟨by (with_reducible repeat (first | apply blk_drewN | apply blk_drew | apply blk_alloc)); exact BK220.out⟩, ⟨by repeat (first | (with_reducible first | exact HB.out | apply below_alloc | apply pw_below_drewN | apply below_drew1 | refine below_set ?_ GE188.out | refine below_set ?_ GE204.out | refine below_set ?_ GE210.out | refine below_set ?_ GE220.out) | exact HB.out)⟩⟩
                  · rw [if_neg c87] at H
                    have c87b0 : decide (t234 < 0) = false := decide_eq_false c87
                    clear c87
                    (first | rw [c87b0] | (simp only [i64_w, i32_w]; rw [c87b0]) | skip)
                    replace H := Option.bind_eq_some_iff.mp H
                    obtain ⟨t236, A880, H⟩ := H
                    replace H : (if t236 = true then (laws_FnExactGrant.j1 kj15 l1 t203 (t219 != t203) l0_0 a0_1 a0_2 t198 t201 t202 t214 t217 t218) else (laws_FnExactGrant.j1 kj15 l1 t203 true l0_0 a0_1 a0_2 t198 t201 t202 t214 t217 t218)) = some r := H
                    have A88 := Aside0.mk A880
                    clear A880
                    by_cases c89 : t236 = true
                    · subst c89
                      have H1 : (laws_FnExactGrant.j1 kj15 l1 t203 (t219 != t203) l0_0 a0_1 a0_2 t198 t201 t202 t214 t217 t218) = some r := by rw [if_pos rfl] at H; exact H
                      clear H
                      have H := H1
                      clear H1
                      have H' := Aside0.mk H
                      clear H
                      have hnb90 := NB220_188.out
                      have hnc90 := NB188_220.out
                      have hnb91 := NB220_204.out
                      have hnc91 := NB204_220.out
                      have hnb92 := NB220_210.out
                      have hnc92 := NB210_220.out
                      have hcz93_0 : w86.cell? ⟨gb220, 0, none⟩ = some (.slice Ao42 t214.length co42) := (blk_cell BK220.out 0).trans rfl
                      have hcz93_1 : w86.cell? ⟨gb220, 1, none⟩ = some (.int .i64 t217) := (blk_cell BK220.out 1).trans rfl
                      have hcz93_2 : w86.cell? ⟨gb220, 2, none⟩ = some (.int .i64 t218) := (blk_cell BK220.out 2).trans rfl
                      have hfz93_0 := blk_frozen BK220.out 0
                      have hfz93_1 := blk_frozen BK220.out 1
                      have hfz93_2 := blk_frozen BK220.out 2
                      have hnb94 := NB204_188.out
                      have hnc94 := NB188_204.out
                      have hnb95 := NB204_210.out
                      have hnc95 := NB210_204.out
                      have hcz96_0 : w86.cell? ⟨gb204, 0, none⟩ = some (.slice Ao27 t198.length co27) := (blk_cell BK204.out 0).trans rfl
                      have hcz96_1 : w86.cell? ⟨gb204, 1, none⟩ = some (.int .i64 t201) := (blk_cell BK204.out 1).trans rfl
                      have hcz96_2 : w86.cell? ⟨gb204, 2, none⟩ = some (.int .i64 t202) := (blk_cell BK204.out 2).trans rfl
                      have hfz96_0 := blk_frozen BK204.out 0
                      have hfz96_1 := blk_frozen BK204.out 1
                      have hfz96_2 := blk_frozen BK204.out 2
                      go_wp2_with (first | (go_at_call 24; (with_reducible refine (laws_eqArbiter.calls kj15 _ _ t214 t217 t218 _ _ t198 t201 t202 true _ ?side1 ?side2 ?side3 ?side4 A88.out).mono ?_); (case side1 => repeat (first | exact (Kd.R_reads' HO_221000.out).2.2 | (with_reducible refine Kd.C_alloc ?_ _) | (with_reducible refine Kd.C_drewN ?_ _) | (with_reducible refine Kd.C_drew ?_))); (case side2 => exact (Kd.R_reads' HO_221000.out).2.1); (case side3 => repeat (first | exact (Kd.R_reads' HO_205000.out).2.2 | (with_reducible refine Kd.C_alloc ?_ _) | (with_reducible refine Kd.C_drewN ?_ _) | (with_reducible refine Kd.C_drew ?_))); (case side4 => exact (Kd.R_reads' HO_205000.out).2.1); rintro e w97 ⟨rfl, hb⟩; have n0_ := Aside0.mk (Kd.R_below (by (with_reducible repeat (first | apply Kd.R_alloc | apply Kd.R_drewN | apply Kd.R_drew)); exact HO_9.out) hb); have n1_ := Aside0.mk (Kd.R_below (by (with_reducible repeat (first | apply Kd.R_alloc | apply Kd.R_drewN | apply Kd.R_drew)); exact HO_205000.out) hb); have n2_ := Aside0.mk (Kd.R_below (by (with_reducible repeat (first | apply Kd.R_alloc | apply Kd.R_drewN | apply Kd.R_drew)); exact HO_211000.out) hb); have n3_ := Aside0.mk (Kd.R_below (by (with_reducible repeat (first | apply Kd.R_alloc | apply Kd.R_drewN | apply Kd.R_drew)); exact HO_221000.out) hb); have n4_ := Aside0.mk (Kd.R_below (by (with_reducible repeat (first | apply Kd.R_alloc | apply Kd.R_drewN | apply Kd.R_drew)); exact HO224.out) hb); have n5_ := Aside0.mk (Kd.R_below (by (with_reducible repeat (first | apply Kd.R_alloc | apply Kd.R_drewN | apply Kd.R_drew)); exact HO230.out) hb); have n6_ := Aside0.mk (blk_below (g := gb188) (o := .cells #[.slice A0_0 l0_0.length c0_0, .int .i64 a0_1, .int .i64 a0_2] 30 (0, 0)) (by (with_reducible repeat (first | apply blk_drewN | apply blk_drew | apply blk_alloc)); exact BK188.out) hb); have n7_ := Aside0.mk (blk_below (g := gb204) (o := .cells #[.slice Ao27 t198.length co27, .int .i64 t201, .int .i64 t202] 33 (0, 0)) (by (with_reducible repeat (first | apply blk_drewN | apply blk_drew | apply blk_alloc)); exact BK204.out) hb); have n8_ := Aside0.mk (blk_below (g := gb210) (o := .cells #[.slice Ao33 t205.length co33, .int .i64 t208, .int .i64 t209] 33 (0, 0)) (by (with_reducible repeat (first | apply blk_drewN | apply blk_drew | apply blk_alloc)); exact BK210.out) hb); have n9_ := Aside0.mk (blk_below (g := gb220) (o := .cells #[.slice Ao42 t214.length co42, .int .i64 t217, .int .i64 t218] 33 (0, 0)) (by (with_reducible repeat (first | apply blk_drewN | apply blk_drew | apply blk_alloc)); exact BK220.out) hb); have n10_ := Aside0.mk (below_step (by repeat (first | (with_reducible first | exact HB.out | apply below_alloc | apply pw_below_drewN | apply below_drew1 | refine below_set ?_ GE188.out | refine below_set ?_ GE204.out | refine below_set ?_ GE210.out | refine below_set ?_ GE220.out) | exact HB.out)) hb); clear HO_9; clear HO_205000; clear HO_211000; clear HO_221000; clear HO224; clear HO230; clear BK188; clear BK204; clear BK210; clear BK220; clear HB; have HO_9 := n0_; have HO_205000 := n1_; have HO_211000 := n2_; have HO_221000 := n3_; have HO224 := n4_; have HO230 := n5_; have BK188 := n6_; have BK204 := n7_; have BK210 := n8_; have BK220 := n9_; have HB := n10_; clear n0_ n1_ n2_ n3_ n4_ n5_ n6_ n7_ n8_ n9_ n10_; (try clear hb); (try clear hb2); (try clear hk); (try clear hi)))
                      go_meet
                      case rel => exact ⟨_, ((t219 != t203)), (by first | rfl | (simp [*]; done)), H', ⟨by have := HJ15.out; first | omega | exact Nat.le_refl _⟩, ⟨by (with_reducible repeat (first | apply Kd.R_alloc | apply Kd.R_drewN | apply Kd.R_drew)); exact Kd.R_mono HO_205000.out (fun _ hk => (And.intro (hk.1) (hk.2.1)))⟩, ⟨by (with_reducible repeat (first | apply Kd.R_alloc | apply Kd.R_drewN | apply Kd.R_drew)); exact Kd.R_mono HO_211000.out (fun _ hk => (And.intro (hk.1) (hk.2.1)))⟩, ⟨by (with_reducible repeat (first | apply Kd.R_alloc | apply Kd.R_drewN | apply Kd.R_drew)); exact Kd.R_mono HO_221000.out (fun _ hk => (And.intro (hk.1) (hk.2.1)))⟩, ⟨by (with_reducible repeat (first | apply blk_drewN | apply blk_drew | apply blk_alloc)); exact BK188.out⟩, ⟨by (with_reducible repeat (first | apply blk_drewN | apply blk_drew | apply blk_alloc)); exact BK204.out⟩, ⟨by (with_reducible repeat (first | apply blk_drewN | apply blk_drew | apply blk_alloc)); exact BK210.out⟩, ⟨by (with_reducible repeat (first | apply blk_drewN | apply blk_drew | apply blk_alloc)); exact BK220.out⟩, ⟨by repeat (first | (with_reducible first | exact HB.out | apply below_alloc | apply pw_below_drewN | apply below_drew1 | refine below_set ?_ GE188.out | refine below_set ?_ GE204.out | refine below_set ?_ GE210.out | refine below_set ?_ GE220.out) | exact HB.out)⟩⟩
                    · replace c89 := Bool.eq_false_iff.mpr c89
                      subst c89
                      have H1 : (laws_FnExactGrant.j1 kj15 l1 t203 true l0_0 a0_1 a0_2 t198 t201 t202 t214 t217 t218) = some r := by rw [if_neg (show ¬ (false = true) by decide)] at H; exact H
                      clear H
                      have H := H1
                      clear H1
                      have H' := Aside0.mk H
                      clear H
                      have hnb98 := NB220_188.out
                      have hnc98 := NB188_220.out
                      have hnb99 := NB220_204.out
                      have hnc99 := NB204_220.out
                      have hnb100 := NB220_210.out
                      have hnc100 := NB210_220.out
                      have hcz101_0 : w86.cell? ⟨gb220, 0, none⟩ = some (.slice Ao42 t214.length co42) := (blk_cell BK220.out 0).trans rfl
                      have hcz101_1 : w86.cell? ⟨gb220, 1, none⟩ = some (.int .i64 t217) := (blk_cell BK220.out 1).trans rfl
                      have hcz101_2 : w86.cell? ⟨gb220, 2, none⟩ = some (.int .i64 t218) := (blk_cell BK220.out 2).trans rfl
                      have hfz101_0 := blk_frozen BK220.out 0
                      have hfz101_1 := blk_frozen BK220.out 1
                      have hfz101_2 := blk_frozen BK220.out 2
                      have hnb102 := NB204_188.out
                      have hnc102 := NB188_204.out
                      have hnb103 := NB204_210.out
                      have hnc103 := NB210_204.out
                      have hcz104_0 : w86.cell? ⟨gb204, 0, none⟩ = some (.slice Ao27 t198.length co27) := (blk_cell BK204.out 0).trans rfl
                      have hcz104_1 : w86.cell? ⟨gb204, 1, none⟩ = some (.int .i64 t201) := (blk_cell BK204.out 1).trans rfl
                      have hcz104_2 : w86.cell? ⟨gb204, 2, none⟩ = some (.int .i64 t202) := (blk_cell BK204.out 2).trans rfl
                      have hfz104_0 := blk_frozen BK204.out 0
                      have hfz104_1 := blk_frozen BK204.out 1
                      have hfz104_2 := blk_frozen BK204.out 2
                      go_wp2_with (first | (go_at_call 24; (with_reducible refine (laws_eqArbiter.calls kj15 _ _ t214 t217 t218 _ _ t198 t201 t202 false _ ?side1 ?side2 ?side3 ?side4 A88.out).mono ?_); (case side1 => repeat (first | exact (Kd.R_reads' HO_221000.out).2.2 | (with_reducible refine Kd.C_alloc ?_ _) | (with_reducible refine Kd.C_drewN ?_ _) | (with_reducible refine Kd.C_drew ?_))); (case side2 => exact (Kd.R_reads' HO_221000.out).2.1); (case side3 => repeat (first | exact (Kd.R_reads' HO_205000.out).2.2 | (with_reducible refine Kd.C_alloc ?_ _) | (with_reducible refine Kd.C_drewN ?_ _) | (with_reducible refine Kd.C_drew ?_))); (case side4 => exact (Kd.R_reads' HO_205000.out).2.1); rintro e w105 ⟨rfl, hb⟩; have n0_ := Aside0.mk (Kd.R_below (by (with_reducible repeat (first | apply Kd.R_alloc | apply Kd.R_drewN | apply Kd.R_drew)); exact HO_9.out) hb); have n1_ := Aside0.mk (Kd.R_below (by (with_reducible repeat (first | apply Kd.R_alloc | apply Kd.R_drewN | apply Kd.R_drew)); exact HO_205000.out) hb); have n2_ := Aside0.mk (Kd.R_below (by (with_reducible repeat (first | apply Kd.R_alloc | apply Kd.R_drewN | apply Kd.R_drew)); exact HO_211000.out) hb); have n3_ := Aside0.mk (Kd.R_below (by (with_reducible repeat (first | apply Kd.R_alloc | apply Kd.R_drewN | apply Kd.R_drew)); exact HO_221000.out) hb); have n4_ := Aside0.mk (Kd.R_below (by (with_reducible repeat (first | apply Kd.R_alloc | apply Kd.R_drewN | apply Kd.R_drew)); exact HO224.out) hb); have n5_ := Aside0.mk (Kd.R_below (by (with_reducible repeat (first | apply Kd.R_alloc | apply Kd.R_drewN | apply Kd.R_drew)); exact HO230.out) hb); have n6_ := Aside0.mk (blk_below (g := gb188) (o := .cells #[.slice A0_0 l0_0.length c0_0, .int .i64 a0_1, .int .i64 a0_2] 30 (0, 0)) (by (with_reducible repeat (first | apply blk_drewN | apply blk_drew | apply blk_alloc)); exact BK188.out) hb); have n7_ := Aside0.mk (blk_below (g := gb204) (o := .cells #[.slice Ao27 t198.length co27, .int .i64 t201, .int .i64 t202] 33 (0, 0)) (by (with_reducible repeat (first | apply blk_drewN | apply blk_drew | apply blk_alloc)); exact BK204.out) hb); have n8_ := Aside0.mk (blk_below (g := gb210) (o := .cells #[.slice Ao33 t205.length co33, .int .i64 t208, .int .i64 t209] 33 (0, 0)) (by (with_reducible repeat (first | apply blk_drewN | apply blk_drew | apply blk_alloc)); exact BK210.out) hb); have n9_ := Aside0.mk (blk_below (g := gb220) (o := .cells #[.slice Ao42 t214.length co42, .int .i64 t217, .int .i64 t218] 33 (0, 0)) (by (with_reducible repeat (first | apply blk_drewN | apply blk_drew | apply blk_alloc)); exact BK220.out) hb); have n10_ := Aside0.mk (below_step (by repeat (first | (with_reducible first | exact HB.out | apply below_alloc | apply pw_below_drewN | apply below_drew1 | refine below_set ?_ GE188.out | refine below_set ?_ GE204.out | refine below_set ?_ GE210.out | refine below_set ?_ GE220.out) | exact HB.out)) hb); clear HO_9; clear HO_205000; clear HO_211000; clear HO_221000; clear HO224; clear HO230; clear BK188; clear BK204; clear BK210; clear BK220; clear HB; have HO_9 := n0_; have HO_205000 := n1_; have HO_211000 := n2_; have HO_221000 := n3_; have HO224 := n4_; have HO230 := n5_; have BK188 := n6_; have BK204 := n7_; have BK210 := n8_; have BK220 := n9_; have HB := n10_; clear n0_ n1_ n2_ n3_ n4_ n5_ n6_ n7_ n8_ n9_ n10_; (try clear hb); (try clear hb2); (try clear hk); (try clear hi)))
                      go_meet
                      case rel => exact ⟨_, (true), (by first | rfl | (simp [*]; done)), H', ⟨by have := HJ15.out; first | omega | exact Nat.le_refl _⟩, ⟨by (with_reducible repeat (first | apply Kd.R_alloc | apply Kd.R_drewN | apply Kd.R_drew)); exact Kd.R_mono HO_205000.out (fun _ hk => (And.intro (hk.1) (hk.2.1)))⟩, ⟨by (with_reducible repeat (first | apply Kd.R_alloc | apply Kd.R_drewN | apply Kd.R_drew)); exact Kd.R_mono HO_211000.out (fun _ hk => (And.intro (hk.1) (hk.2.1)))⟩, ⟨by (with_reducible repeat (first | apply Kd.R_alloc | apply Kd.R_drewN | apply Kd.R_drew)); exact Kd.R_mono HO_221000.out (fun _ hk => (And.intro (hk.1) (hk.2.1)))⟩, ⟨by (with_reducible repeat (first | apply blk_drewN | apply blk_drew | apply blk_alloc)); exact BK188.out⟩, ⟨by (with_reducible repeat (first | apply blk_drewN | apply blk_drew | apply blk_alloc)); exact BK204.out⟩, ⟨by (with_reducible repeat (first | apply blk_drewN | apply blk_drew | apply blk_alloc)); exact BK210.out⟩, ⟨by (with_reducible repeat (first | apply blk_drewN | apply blk_drew | apply blk_alloc)); exact BK220.out⟩, ⟨by repeat (first | (with_reducible first | exact HB.out | apply below_alloc | apply pw_below_drewN | apply below_drew1 | refine below_set ?_ GE188.out | refine below_set ?_ GE204.out | refine below_set ?_ GE210.out | refine below_set ?_ GE220.out) | exact HB.out)⟩⟩
                case rest =>
                  clear HC74
                  try clear c1
                  try clear c2
                  try clear p2
                  try clear c3
                  try clear c3b0
                  try clear c3b1
                  try clear c4
                  try clear c5
                  try clear c6
                  try clear c6b0
                  try clear c7
                  try clear c8
                  try clear c9
                  try clear c10
                  try clear c20
                  try clear c22
                  try clear c24
                  try clear c28
                  try clear c33
                  try clear c34
                  try clear c35
                  try clear c36
                  try clear c37
                  try clear c38
                  try clear c43
                  try clear c44
                  try clear c45
                  try clear c48
                  try clear c49
                  try clear c50
                  try clear c51
                  try clear c53
                  try clear c54
                  try clear c57
                  try clear c58
                  try clear c59
                  try clear c61
                  try clear c62
                  try clear c65
                  try clear c68
                  try clear c71
                  try clear c81
                  try clear c82
                  try clear c83
                  try clear c87
                  try clear c87b0
                  try clear c89
                  try clear c90
                  try clear c91
                  try clear c92
                  try clear c94
                  try clear c95
                  try clear c98
                  try clear c99
                  try clear c100
                  try clear c102
                  try clear c103
                  try clear hcz101_0
                  try clear hcz101_1
                  try clear hcz101_2
                  try clear hcz104_0
                  try clear hcz104_1
                  try clear hcz104_2
                  try clear hcz18_0
                  try clear hcz18_1
                  try clear hcz18_2
                  try clear hcz20_0
                  try clear hcz20_1
                  try clear hcz20_2
                  try clear hcz29_0
                  try clear hcz29_1
                  try clear hcz29_2
                  try clear hcz30_0
                  try clear hcz30_1
                  try clear hcz30_2
                  try clear hcz36_0
                  try clear hcz36_1
                  try clear hcz36_2
                  try clear hcz38_0
                  try clear hcz38_1
                  try clear hcz38_2
                  try clear hcz46_0
                  try clear hcz46_1
                  try clear hcz46_2
                  try clear hcz52_0
                  try clear hcz52_1
                  try clear hcz52_2
                  try clear hcz55_0
                  try clear hcz55_1
                  try clear hcz55_2
                  try clear hcz60_0
                  try clear hcz60_1
                  try clear hcz60_2
                  try clear hcz63_0
                  try clear hcz63_1
                  try clear hcz63_2
                  try clear hcz84_0
                  try clear hcz84_1
                  try clear hcz84_2
                  try clear hcz8_0
                  try clear hcz8_1
                  try clear hcz8_2
                  try clear hcz93_0
                  try clear hcz93_1
                  try clear hcz93_2
                  try clear hcz96_0
                  try clear hcz96_1
                  try clear hcz96_2
                  try clear hfz101_0
                  try clear hfz101_1
                  try clear hfz101_2
                  try clear hfz104_0
                  try clear hfz104_1
                  try clear hfz104_2
                  try clear hfz18_0
                  try clear hfz18_1
                  try clear hfz18_2
                  try clear hfz20_0
                  try clear hfz20_1
                  try clear hfz20_2
                  try clear hfz29_0
                  try clear hfz29_1
                  try clear hfz29_2
                  try clear hfz30_0
                  try clear hfz30_1
                  try clear hfz30_2
                  try clear hfz36_0
                  try clear hfz36_1
                  try clear hfz36_2
                  try clear hfz38_0
                  try clear hfz38_1
                  try clear hfz38_2
                  try clear hfz46_0
                  try clear hfz46_1
                  try clear hfz46_2
                  try clear hfz52_0
                  try clear hfz52_1
                  try clear hfz52_2
                  try clear hfz55_0
                  try clear hfz55_1
                  try clear hfz55_2
                  try clear hfz60_0
                  try clear hfz60_1
                  try clear hfz60_2
                  try clear hfz63_0
                  try clear hfz63_1
                  try clear hfz63_2
                  try clear hfz84_0
                  try clear hfz84_1
                  try clear hfz84_2
                  try clear hfz8_0
                  try clear hfz8_1
                  try clear hfz8_2
                  try clear hfz93_0
                  try clear hfz93_1
                  try clear hfz93_2
                  try clear hfz96_0
                  try clear hfz96_1
                  try clear hfz96_2
                  try clear p2
                  obtain ⟨kq, x80_73, rfl, HA, HJ73, HO_205000, HO_211000, HO_221000, BK188, BK204, BK210, BK220, HB⟩ := hcut
                  have hl211000_73 := (Kd.R_reads' HO_211000.out).1
                  rw [hl211000_73] at HO_211000
                  (try simp only [hl211000_73])
                  (try simp only [hl211000_73] at BK188)
                  (try simp only [hl211000_73] at BK204)
                  (try simp only [hl211000_73] at BK210)
                  (try simp only [hl211000_73] at BK220)
                  (try simp only [hl211000_73] at HO_205000)
                  (try simp only [hl211000_73] at HO_221000)
                  cases kq with
                  | zero => exact absurd HA.out (by simp [laws_FnExactGrant.j1])
                  | succ kj73 =>
                    have H := HA.out
                    clear HA
                    simp only [laws_FnExactGrant.j1] at H
                    by_cases c106 : x80_73 = true
                    · subst c106
                      have H1 : (some false) = some r := by rw [if_pos rfl] at H; exact H
                      clear H
                      have H := H1
                      clear H1
                      obtain rfl := Option.some.inj H
                      go_wp2
                      go_ret
                      exact ⟨by first | rfl | (simp [*] <;> rfl), by repeat (first | (with_reducible first | exact HB.out | apply below_alloc | apply pw_below_drewN | apply below_drew1 | refine below_set ?_ GE188.out | refine below_set ?_ GE204.out | refine below_set ?_ GE210.out | refine below_set ?_ GE220.out) | exact HB.out)⟩
                    · replace c106 := Bool.eq_false_iff.mpr c106
                      subst c106
                      have H1 : ((laws_markArbiter.f kj73 t214 t217 t218 1).bind fun bt237 => ((laws_heldArbiter.f kj73 bt237.2 t217 t218 1).bind fun t239 => (if t239 < 0 then (some false) else (if t239 = bt237.1 then ((laws_toArbiter.f kj73 l0_0 a0_1 a0_2).bind fun bt240 => ((laws_toBoolS.f kj73 l1).bind fun t245 => ((impl_Grant.f kj73 bt240.1 bt240.2.1 bt240.2.2 t245).bind fun bt248 => ((laws_eqArbiter.f kj73 bt248.1 bt248.2.1 bt248.2.2.1 t198 t201 t202).bind fun t255 => (if t255 = true then (laws_FnExactGrant.j2 kj73 bt237.1 (bt248.2.2.2 != t203) bt237.2 t217 t218) else (laws_FnExactGrant.j2 kj73 bt237.1 true bt237.2 t217 t218)))))) else (some false))))) = some r := by rw [if_neg (show ¬ (false = true) by decide)] at H; exact H
                      clear H
                      have H := H1
                      clear H1
                      replace H := Option.bind_eq_some_iff.mp H
                      obtain ⟨⟨t237, t238⟩, A1070, H⟩ := H
                      replace H : ((laws_heldArbiter.f kj73 t238 t217 t218 1).bind fun t239 => (if t239 < 0 then (some false) else (if t239 = t237 then ((laws_toArbiter.f kj73 l0_0 a0_1 a0_2).bind fun bt240 => ((laws_toBoolS.f kj73 l1).bind fun t245 => ((impl_Grant.f kj73 bt240.1 bt240.2.1 bt240.2.2 t245).bind fun bt248 => ((laws_eqArbiter.f kj73 bt248.1 bt248.2.1 bt248.2.2.1 t198 t201 t202).bind fun t255 => (if t255 = true then (laws_FnExactGrant.j2 kj73 t237 (bt248.2.2.2 != t203) t238 t217 t218) else (laws_FnExactGrant.j2 kj73 t237 true t238 t217 t218)))))) else (some false)))) = some r := H
                      have A107 := Aside0.mk A1070
                      clear A1070
                      replace H := Option.bind_eq_some_iff.mp H
                      obtain ⟨t239, A1080, H⟩ := H
                      replace H : (if t239 < 0 then (some false) else (if t239 = t237 then ((laws_toArbiter.f kj73 l0_0 a0_1 a0_2).bind fun bt240 => ((laws_toBoolS.f kj73 l1).bind fun t245 => ((impl_Grant.f kj73 bt240.1 bt240.2.1 bt240.2.2 t245).bind fun bt248 => ((laws_eqArbiter.f kj73 bt248.1 bt248.2.1 bt248.2.2.1 t198 t201 t202).bind fun t255 => (if t255 = true then (laws_FnExactGrant.j2 kj73 t237 (bt248.2.2.2 != t203) t238 t217 t218) else (laws_FnExactGrant.j2 kj73 t237 true t238 t217 t218)))))) else (some false))) = some r := H
                      have A108 := Aside0.mk A1080
                      clear A1080
                      by_cases c109 : t239 < 0
                      · rw [if_pos c109] at H
                        have c109b0 : decide (t239 < 0) = true := decide_eq_true c109
                        clear c109
                        obtain rfl := Option.some.inj H
                        have hnb110 := NB220_188.out
                        have hnc110 := NB188_220.out
                        have hnb111 := NB220_204.out
                        have hnc111 := NB204_220.out
                        have hnb112 := NB220_210.out
                        have hnc112 := NB210_220.out
                        have hcz113_0 : wc.cell? ⟨gb220, 0, none⟩ = some (.slice Ao42 t214.length co42) := (blk_cell BK220.out 0).trans rfl
                        have hcz113_1 : wc.cell? ⟨gb220, 1, none⟩ = some (.int .i64 t217) := (blk_cell BK220.out 1).trans rfl
                        have hcz113_2 : wc.cell? ⟨gb220, 2, none⟩ = some (.int .i64 t218) := (blk_cell BK220.out 2).trans rfl
                        have hfz113_0 := blk_frozen BK220.out 0
                        have hfz113_1 := blk_frozen BK220.out 1
                        have hfz113_2 := blk_frozen BK220.out 2
                        go_wp2_with (first | ((with_reducible refine gate_callee (f := 28) rfl ?_); refine goesL_ (some 83) rfl rfl Try.func28 (by kernel_rfl) rfl #[.agg #[.slice Ao42 t214.length co42, .int .i64 t217, .int .i64 t218], .int .i64 1] rfl (by (try simp only [List.map_toArray, List.map_cons, List.map_nil]); first | done | rfl) ?_; (with_reducible refine (laws_markArbiter.calls kj73 (fun k_ => some k_ = (.slice Ao42 t214.length co42 : Value).ownBlock) (.slice Ao42 t214.length co42) t214 t217 t218 1 t237 t238 w _ ?side1 ?side2 A107.out).mono ?_); (case side1 => repeat (first | (with_reducible first | exact HB.out | apply below_alloc | apply pw_below_drewN | apply below_drew1 | refine below_set ?_ GE188.out | refine below_set ?_ GE204.out | refine below_set ?_ GE210.out | refine below_set ?_ GE220.out) | exact HB.out)); (case side2 => exact Kd.R_tight rfl HO_221000.out); rintro e w114 ⟨rfl, hy0, hb, hkp⟩; refine ⟨_, rfl, ?_⟩; have n0_ := Aside0.mk (Kd.R_mono (ok' := fun k_ => some k_ ≠ (.slice Ao33 t233.length co33 : Value).ownBlock ∧ some k_ ≠ (.slice Ao42 t214.length co42 : Value).ownBlock) (Kd.R_keptB (HO_205000.out) hkp (fun k_ hk_ hs_ => by first | exact (hk_.2) hs_ | (revert hs_; simp only [ne_eq, hk_, false_imp_iff]))) (fun k_ hk_ => by first | exact ⟨hk_.1.1, hk_.1.2⟩ | simp only [ne_eq, hk_, not_false_eq_true, and_self, true_and, and_true])); have n1_ := Aside0.mk (Kd.R_mono (ok' := fun k_ => some k_ ≠ (.slice Ao27 t198.length co27 : Value).ownBlock ∧ some k_ ≠ (.slice Ao42 t214.length co42 : Value).ownBlock) (Kd.R_keptB (HO_211000.out) hkp (fun k_ hk_ hs_ => by first | exact (hk_.2) hs_ | (revert hs_; simp only [ne_eq, hk_, false_imp_iff]))) (fun k_ hk_ => by first | exact ⟨hk_.1.1, hk_.1.2⟩ | simp only [ne_eq, hk_, not_false_eq_true, and_self, true_and, and_true])); have n2_ := Aside0.mk (Kd.R_reok rfl hy0 (fun k_ e_ => HO_221000.out.1 k_ e_)); have n3_ := Aside0.mk (blk_kept (by (with_reducible repeat (first | apply blk_drewN | apply blk_drew | apply blk_alloc)); exact BK188.out) hkp (fun hs_ => (fun e_ => (Kd.R_ne HO_221000.out BK188.out (by decide)) e_) hs_)); have n4_ := Aside0.mk (blk_kept (by (with_reducible repeat (first | apply blk_drewN | apply blk_drew | apply blk_alloc)); exact BK204.out) hkp (fun hs_ => (fun e_ => (Kd.R_ne HO_221000.out BK204.out (by decide)) e_) hs_)); have n5_ := Aside0.mk (blk_kept (by (with_reducible repeat (first | apply blk_drewN | apply blk_drew | apply blk_alloc)); exact BK210.out) hkp (fun hs_ => (fun e_ => (Kd.R_ne HO_221000.out BK210.out (by decide)) e_) hs_)); have n6_ := Aside0.mk (blk_kept (by (with_reducible repeat (first | apply blk_drewN | apply blk_drew | apply blk_alloc)); exact BK220.out) hkp (fun hs_ => (fun e_ => (Kd.R_ne HO_221000.out BK220.out (by decide)) e_) hs_)); have n7_ := Aside0.mk (hb); clear HO_205000; clear HO_211000; clear HO_221000; clear BK188; clear BK204; clear BK210; clear BK220; clear HB; have HO_205000 := n0_; have HO_211000 := n1_; have HO_221000 := n2_; have BK188 := n3_; have BK204 := n4_; have BK210 := n5_; have BK220 := n6_; have HB := n7_; clear n0_ n1_ n2_ n3_ n4_ n5_ n6_ n7_; (try clear hb); (try clear hkp); (try clear hy0); have hcz115_0 : w114.cell? ⟨gb220, 0, none⟩ = some (.slice Ao42 t214.length co42) := (blk_cell BK220.out 0).trans rfl; have hcz115_1 : w114.cell? ⟨gb220, 1, none⟩ = some (.int .i64 t217) := (blk_cell BK220.out 1).trans rfl; have hcz115_2 : w114.cell? ⟨gb220, 2, none⟩ = some (.int .i64 t218) := (blk_cell BK220.out 2).trans rfl; have hfz115_0 := blk_frozen BK220.out 0; have hfz115_1 := blk_frozen BK220.out 1; have hfz115_2 := blk_frozen BK220.out 2) | ((with_reducible refine gate_callee (f := 29) rfl ?_); refine goesL_ (some 86) rfl rfl Try.func29 (by kernel_rfl) rfl #[.agg #[.slice Ao42 t238.length co42, .int .i64 t217, .int .i64 t218], .int .i64 1] rfl (by (try simp only [List.map_toArray, List.map_cons, List.map_nil]); first | done | (rw [show t238.length = t214.length from (Kd.R_reads' HO_221000.out).1.symm] <;> rfl) | rfl | (simp only [List.length_drop, List.length_take]; rfl)) ?_; (with_reducible refine (laws_heldArbiter.calls kj73 _ _ t238 t217 t218 1 t239 _ ?side1 ?side2 A108.out).mono ?_); (case side1 => repeat (first | exact (Kd.R_reads' HO_221000.out).2.2 | (with_reducible refine Kd.C_alloc ?_ _) | (with_reducible refine Kd.C_drewN ?_ _) | (with_reducible refine Kd.C_drew ?_))); (case side2 => rw [show t238.length = t214.length from (Kd.R_reads' HO_221000.out).1.symm]; exact (Kd.R_reads' HO_221000.out).2.1); rintro e w116 ⟨rfl, hb⟩; refine ⟨_, rfl, ?_⟩; have n0_ := Aside0.mk (Kd.R_below (by (with_reducible repeat (first | apply Kd.R_alloc | apply Kd.R_drewN | apply Kd.R_drew)); exact HO_205000.out) hb); have n1_ := Aside0.mk (Kd.R_below (by (with_reducible repeat (first | apply Kd.R_alloc | apply Kd.R_drewN | apply Kd.R_drew)); exact HO_211000.out) hb); have n2_ := Aside0.mk (Kd.R_below (by (with_reducible repeat (first | apply Kd.R_alloc | apply Kd.R_drewN | apply Kd.R_drew)); exact HO_221000.out) hb); have n3_ := Aside0.mk (blk_below (g := gb188) (o := .cells #[.slice A0_0 l0_0.length c0_0, .int .i64 a0_1, .int .i64 a0_2] 30 (0, 0)) (by (with_reducible repeat (first | apply blk_drewN | apply blk_drew | apply blk_alloc)); exact BK188.out) hb); have n4_ := Aside0.mk (blk_below (g := gb204) (o := .cells #[.slice Ao27 t198.length co27, .int .i64 t201, .int .i64 t202] 33 (0, 0)) (by (with_reducible repeat (first | apply blk_drewN | apply blk_drew | apply blk_alloc)); exact BK204.out) hb); have n5_ := Aside0.mk (blk_below (g := gb210) (o := .cells #[.slice Ao33 t233.length co33, .int .i64 t208, .int .i64 t209] 33 (0, 0)) (by (with_reducible repeat (first | apply blk_drewN | apply blk_drew | apply blk_alloc)); exact BK210.out) hb); have n6_ := Aside0.mk (blk_below (g := gb220) (o := .cells #[.slice Ao42 t214.length co42, .int .i64 t217, .int .i64 t218] 33 (0, 0)) (by (with_reducible repeat (first | apply blk_drewN | apply blk_drew | apply blk_alloc)); exact BK220.out) hb); have n7_ := Aside0.mk (below_step (by repeat (first | (with_reducible first | exact HB.out | apply below_alloc | apply pw_below_drewN | apply below_drew1 | refine below_set ?_ GE188.out | refine below_set ?_ GE204.out | refine below_set ?_ GE210.out | refine below_set ?_ GE220.out) | exact HB.out)) hb); clear HO_205000; clear HO_211000; clear HO_221000; clear BK188; clear BK204; clear BK210; clear BK220; clear HB; have HO_205000 := n0_; have HO_211000 := n1_; have HO_221000 := n2_; have BK188 := n3_; have BK204 := n4_; have BK210 := n5_; have BK220 := n6_; have HB := n7_; clear n0_ n1_ n2_ n3_ n4_ n5_ n6_ n7_; (try clear hb); (try clear hb2); (try clear hk); (try clear hi)))
                        go_ret
                        exact ⟨by first | rfl | (simp [*] <;> rfl), by repeat (first | (with_reducible first | exact HB.out | apply below_alloc | apply pw_below_drewN | apply below_drew1 | refine below_set ?_ GE188.out | refine below_set ?_ GE204.out | refine below_set ?_ GE210.out | refine below_set ?_ GE220.out) | exact HB.out)⟩
                      · rw [if_neg c109] at H
                        have c109b0 : decide (t239 < 0) = false := decide_eq_false c109
                        clear c109
                        by_cases c117 : t239 = t237
                        · rw [if_pos c117] at H
                          have c117b0 : (t239 == t237) = true := beq_iff_eq.mpr c117
                          have c117b1 : (t239 != t237) = false := bne_eq_false_iff_eq.mpr c117
                          clear c117
                          replace H := Option.bind_eq_some_iff.mp H
                          obtain ⟨⟨t240, t243, t244⟩, A1180, H⟩ := H
                          replace H : ((laws_toBoolS.f kj73 l1).bind fun t245 => ((impl_Grant.f kj73 t240 t243 t244 t245).bind fun bt248 => ((laws_eqArbiter.f kj73 bt248.1 bt248.2.1 bt248.2.2.1 t198 t201 t202).bind fun t255 => (if t255 = true then (laws_FnExactGrant.j2 kj73 t237 (bt248.2.2.2 != t203) t238 t217 t218) else (laws_FnExactGrant.j2 kj73 t237 true t238 t217 t218))))) = some r := H
                          have A118 := Aside0.mk A1180
                          clear A1180
                          replace H := Option.bind_eq_some_iff.mp H
                          obtain ⟨t245, A1190, H⟩ := H
                          replace H : ((impl_Grant.f kj73 t240 t243 t244 t245).bind fun bt248 => ((laws_eqArbiter.f kj73 bt248.1 bt248.2.1 bt248.2.2.1 t198 t201 t202).bind fun t255 => (if t255 = true then (laws_FnExactGrant.j2 kj73 t237 (bt248.2.2.2 != t203) t238 t217 t218) else (laws_FnExactGrant.j2 kj73 t237 true t238 t217 t218)))) = some r := H
                          have A119 := Aside0.mk A1190
                          clear A1190
                          replace H := Option.bind_eq_some_iff.mp H
                          obtain ⟨⟨t248, t251, t252, t253⟩, A1200, H⟩ := H
                          replace H : ((laws_eqArbiter.f kj73 t248 t251 t252 t198 t201 t202).bind fun t255 => (if t255 = true then (laws_FnExactGrant.j2 kj73 t237 (t253 != t203) t238 t217 t218) else (laws_FnExactGrant.j2 kj73 t237 true t238 t217 t218))) = some r := H
                          have A120 := Aside0.mk A1200
                          clear A1200
                          have HC121 := Aside0.mk H
                          clear H
                          have hnb122 := NB220_188.out
                          have hnc122 := NB188_220.out
                          have hnb123 := NB220_204.out
                          have hnc123 := NB204_220.out
                          have hnb124 := NB220_210.out
                          have hnc124 := NB210_220.out
                          have hcz125_0 : wc.cell? ⟨gb220, 0, none⟩ = some (.slice Ao42 t214.length co42) := (blk_cell BK220.out 0).trans rfl
                          have hcz125_1 : wc.cell? ⟨gb220, 1, none⟩ = some (.int .i64 t217) := (blk_cell BK220.out 1).trans rfl
                          have hcz125_2 : wc.cell? ⟨gb220, 2, none⟩ = some (.int .i64 t218) := (blk_cell BK220.out 2).trans rfl
                          have hfz125_0 := blk_frozen BK220.out 0
                          have hfz125_1 := blk_frozen BK220.out 1
                          have hfz125_2 := blk_frozen BK220.out 2
                          go_upto_region 31 with (first | ((with_reducible refine gate_callee (f := 28) rfl ?_); refine goesL_ (some 83) rfl rfl Try.func28 (by kernel_rfl) rfl #[.agg #[.slice Ao42 t214.length co42, .int .i64 t217, .int .i64 t218], .int .i64 1] rfl (by (try simp only [List.map_toArray, List.map_cons, List.map_nil]); first | done | rfl) ?_; (with_reducible refine (laws_markArbiter.calls kj73 (fun k_ => some k_ = (.slice Ao42 t214.length co42 : Value).ownBlock) (.slice Ao42 t214.length co42) t214 t217 t218 1 t237 t238 w _ ?side1 ?side2 A107.out).mono ?_); (case side1 => repeat (first | (with_reducible first | exact HB.out | apply below_alloc | apply pw_below_drewN | apply below_drew1 | refine below_set ?_ GE188.out | refine below_set ?_ GE204.out | refine below_set ?_ GE210.out | refine below_set ?_ GE220.out) | exact HB.out)); (case side2 => exact Kd.R_tight rfl HO_221000.out); rintro e w126 ⟨rfl, hy0, hb, hkp⟩; refine ⟨_, rfl, ?_⟩; have n0_ := Aside0.mk (Kd.R_mono (ok' := fun k_ => some k_ ≠ (.slice Ao33 t233.length co33 : Value).ownBlock ∧ some k_ ≠ (.slice Ao42 t214.length co42 : Value).ownBlock) (Kd.R_keptB (HO_205000.out) hkp (fun k_ hk_ hs_ => by first | exact (hk_.2) hs_ | (revert hs_; simp only [ne_eq, hk_, false_imp_iff]))) (fun k_ hk_ => by first | exact ⟨hk_.1.1, hk_.1.2⟩ | simp only [ne_eq, hk_, not_false_eq_true, and_self, true_and, and_true])); have n1_ := Aside0.mk (Kd.R_mono (ok' := fun k_ => some k_ ≠ (.slice Ao27 t198.length co27 : Value).ownBlock ∧ some k_ ≠ (.slice Ao42 t214.length co42 : Value).ownBlock) (Kd.R_keptB (HO_211000.out) hkp (fun k_ hk_ hs_ => by first | exact (hk_.2) hs_ | (revert hs_; simp only [ne_eq, hk_, false_imp_iff]))) (fun k_ hk_ => by first | exact ⟨hk_.1.1, hk_.1.2⟩ | simp only [ne_eq, hk_, not_false_eq_true, and_self, true_and, and_true])); have n2_ := Aside0.mk (Kd.R_reok rfl hy0 (fun k_ e_ => HO_221000.out.1 k_ e_)); have n3_ := Aside0.mk (blk_kept (by (with_reducible repeat (first | apply blk_drewN | apply blk_drew | apply blk_alloc)); exact BK188.out) hkp (fun hs_ => (fun e_ => (Kd.R_ne HO_221000.out BK188.out (by decide)) e_) hs_)); have n4_ := Aside0.mk (blk_kept (by (with_reducible repeat (first | apply blk_drewN | apply blk_drew | apply blk_alloc)); exact BK204.out) hkp (fun hs_ => (fun e_ => (Kd.R_ne HO_221000.out BK204.out (by decide)) e_) hs_)); have n5_ := Aside0.mk (blk_kept (by (with_reducible repeat (first | apply blk_drewN | apply blk_drew | apply blk_alloc)); exact BK210.out) hkp (fun hs_ => (fun e_ => (Kd.R_ne HO_221000.out BK210.out (by decide)) e_) hs_)); have n6_ := Aside0.mk (blk_kept (by (with_reducible repeat (first | apply blk_drewN | apply blk_drew | apply blk_alloc)); exact BK220.out) hkp (fun hs_ => (fun e_ => (Kd.R_ne HO_221000.out BK220.out (by decide)) e_) hs_)); have n7_ := Aside0.mk (hb); clear HO_205000; clear HO_211000; clear HO_221000; clear BK188; clear BK204; clear BK210; clear BK220; clear HB; have HO_205000 := n0_; have HO_211000 := n1_; have HO_221000 := n2_; have BK188 := n3_; have BK204 := n4_; have BK210 := n5_; have BK220 := n6_; have HB := n7_; clear n0_ n1_ n2_ n3_ n4_ n5_ n6_ n7_; (try clear hb); (try clear hkp); (try clear hy0); have hcz127_0 : w126.cell? ⟨gb220, 0, none⟩ = some (.slice Ao42 t214.length co42) := (blk_cell BK220.out 0).trans rfl; have hcz127_1 : w126.cell? ⟨gb220, 1, none⟩ = some (.int .i64 t217) := (blk_cell BK220.out 1).trans rfl; have hcz127_2 : w126.cell? ⟨gb220, 2, none⟩ = some (.int .i64 t218) := (blk_cell BK220.out 2).trans rfl; have hfz127_0 := blk_frozen BK220.out 0; have hfz127_1 := blk_frozen BK220.out 1; have hfz127_2 := blk_frozen BK220.out 2) | ((with_reducible refine gate_callee (f := 29) rfl ?_); refine goesL_ (some 86) rfl rfl Try.func29 (by kernel_rfl) rfl #[.agg #[.slice Ao42 t238.length co42, .int .i64 t217, .int .i64 t218], .int .i64 1] rfl (by (try simp only [List.map_toArray, List.map_cons, List.map_nil]); first | done | (rw [show t238.length = t214.length from (Kd.R_reads' HO_221000.out).1.symm] <;> rfl) | rfl | (simp only [List.length_drop, List.length_take]; rfl)) ?_; (with_reducible refine (laws_heldArbiter.calls kj73 _ _ t238 t217 t218 1 t239 _ ?side1 ?side2 A108.out).mono ?_); (case side1 => repeat (first | exact (Kd.R_reads' HO_221000.out).2.2 | (with_reducible refine Kd.C_alloc ?_ _) | (with_reducible refine Kd.C_drewN ?_ _) | (with_reducible refine Kd.C_drew ?_))); (case side2 => rw [show t238.length = t214.length from (Kd.R_reads' HO_221000.out).1.symm]; exact (Kd.R_reads' HO_221000.out).2.1); rintro e w128 ⟨rfl, hb⟩; refine ⟨_, rfl, ?_⟩; have n0_ := Aside0.mk (Kd.R_below (by (with_reducible repeat (first | apply Kd.R_alloc | apply Kd.R_drewN | apply Kd.R_drew)); exact HO_205000.out) hb); have n1_ := Aside0.mk (Kd.R_below (by (with_reducible repeat (first | apply Kd.R_alloc | apply Kd.R_drewN | apply Kd.R_drew)); exact HO_211000.out) hb); have n2_ := Aside0.mk (Kd.R_below (by (with_reducible repeat (first | apply Kd.R_alloc | apply Kd.R_drewN | apply Kd.R_drew)); exact HO_221000.out) hb); have n3_ := Aside0.mk (blk_below (g := gb188) (o := .cells #[.slice A0_0 l0_0.length c0_0, .int .i64 a0_1, .int .i64 a0_2] 30 (0, 0)) (by (with_reducible repeat (first | apply blk_drewN | apply blk_drew | apply blk_alloc)); exact BK188.out) hb); have n4_ := Aside0.mk (blk_below (g := gb204) (o := .cells #[.slice Ao27 t198.length co27, .int .i64 t201, .int .i64 t202] 33 (0, 0)) (by (with_reducible repeat (first | apply blk_drewN | apply blk_drew | apply blk_alloc)); exact BK204.out) hb); have n5_ := Aside0.mk (blk_below (g := gb210) (o := .cells #[.slice Ao33 t233.length co33, .int .i64 t208, .int .i64 t209] 33 (0, 0)) (by (with_reducible repeat (first | apply blk_drewN | apply blk_drew | apply blk_alloc)); exact BK210.out) hb); have n6_ := Aside0.mk (blk_below (g := gb220) (o := .cells #[.slice Ao42 t214.length co42, .int .i64 t217, .int .i64 t218] 33 (0, 0)) (by (with_reducible repeat (first | apply blk_drewN | apply blk_drew | apply blk_alloc)); exact BK220.out) hb); have n7_ := Aside0.mk (below_step (by repeat (first | (with_reducible first | exact HB.out | apply below_alloc | apply pw_below_drewN | apply below_drew1 | refine below_set ?_ GE188.out | refine below_set ?_ GE204.out | refine below_set ?_ GE210.out | refine below_set ?_ GE220.out) | exact HB.out)) hb); clear HO_205000; clear HO_211000; clear HO_221000; clear BK188; clear BK204; clear BK210; clear BK220; clear HB; have HO_205000 := n0_; have HO_211000 := n1_; have HO_221000 := n2_; have BK188 := n3_; have BK204 := n4_; have BK210 := n5_; have BK220 := n6_; have HB := n7_; clear n0_ n1_ n2_ n3_ n4_ n5_ n6_ n7_; (try clear hb); (try clear hb2); (try clear hk); (try clear hi); have hnb129 := NB188_204.out; have hnc129 := NB204_188.out; have hnb130 := NB188_210.out; have hnc130 := NB210_188.out; have hcz131_0 : w128.cell? ⟨gb188, 0, none⟩ = some (.slice A0_0 l0_0.length c0_0) := (blk_cell BK188.out 0).trans rfl; have hcz131_1 : w128.cell? ⟨gb188, 1, none⟩ = some (.int .i64 a0_1) := (blk_cell BK188.out 1).trans rfl; have hcz131_2 : w128.cell? ⟨gb188, 2, none⟩ = some (.int .i64 a0_2) := (blk_cell BK188.out 2).trans rfl; have hfz131_0 := blk_frozen BK188.out 0; have hfz131_1 := blk_frozen BK188.out 1; have hfz131_2 := blk_frozen BK188.out 2) | ((with_reducible refine gate_callee (f := 22) rfl ?_); refine goesL_ (some 94) rfl rfl Try.func22 (by kernel_rfl) rfl #[.agg #[.slice A0_0 l0_0.length c0_0, .int .i64 a0_1, .int .i64 a0_2]] rfl (by (try simp only [List.map_toArray, List.map_cons, List.map_nil]); first | done | rfl) ?_; (with_reducible refine (laws_toArbiter.calls kj73 _ _ l0_0 a0_1 a0_2 t240 t243 t244 _ ?side1 ?side2 A118.out).mono ?_); (case side1 => repeat (first | exact (Kd.C_below HR0_0.out HB.out) | (with_reducible refine Kd.C_alloc ?_ _) | (with_reducible refine Kd.C_drewN ?_ _) | (with_reducible refine Kd.C_drew ?_))); (case side2 => exact HC0_0.out); rintro e w132 ⟨v241, rfl, ho0, hb⟩; refine ⟨_, rfl, ?_⟩; have n0_ := Aside0.mk (Kd.R_elder' (by (with_reducible repeat (first | apply Kd.R_alloc | apply Kd.R_drewN | apply Kd.R_drew)); exact HO_205000.out) (Kd.R_base ho0) hb); have n1_ := Aside0.mk (Kd.R_elder' (by (with_reducible repeat (first | apply Kd.R_alloc | apply Kd.R_drewN | apply Kd.R_drew)); exact HO_211000.out) (Kd.R_base ho0) hb); have n2_ := Aside0.mk (Kd.R_elder' (by (with_reducible repeat (first | apply Kd.R_alloc | apply Kd.R_drewN | apply Kd.R_drew)); exact HO_221000.out) (Kd.R_base ho0) hb); have n3_ := Aside0.mk (Kd.R_lower (Kd.R_new' (Kd.R_new' (Kd.R_new' ho0 (Kd.R_lt (by (with_reducible repeat (first | apply Kd.R_alloc | apply Kd.R_drewN | apply Kd.R_drew)); exact HO_205000.out))) (Kd.R_lt (by (with_reducible repeat (first | apply Kd.R_alloc | apply Kd.R_drewN | apply Kd.R_drew)); exact HO_211000.out))) (Kd.R_lt (by (with_reducible repeat (first | apply Kd.R_alloc | apply Kd.R_drewN | apply Kd.R_drew)); exact HO_221000.out))) (below_size (by repeat (first | (with_reducible first | exact HB.out | apply below_alloc | apply pw_below_drewN | apply below_drew1 | refine below_set ?_ GE188.out | refine below_set ?_ GE204.out | refine below_set ?_ GE210.out | refine below_set ?_ GE220.out) | exact HB.out)))); have n4_ := Aside0.mk (blk_below (g := gb188) (o := .cells #[.slice A0_0 l0_0.length c0_0, .int .i64 a0_1, .int .i64 a0_2] 30 (0, 0)) (by (with_reducible repeat (first | apply blk_drewN | apply blk_drew | apply blk_alloc)); exact BK188.out) hb); have n5_ := Aside0.mk (blk_below (g := gb204) (o := .cells #[.slice Ao27 t198.length co27, .int .i64 t201, .int .i64 t202] 33 (0, 0)) (by (with_reducible repeat (first | apply blk_drewN | apply blk_drew | apply blk_alloc)); exact BK204.out) hb); have n6_ := Aside0.mk (blk_below (g := gb210) (o := .cells #[.slice Ao33 t233.length co33, .int .i64 t208, .int .i64 t209] 33 (0, 0)) (by (with_reducible repeat (first | apply blk_drewN | apply blk_drew | apply blk_alloc)); exact BK210.out) hb); have n7_ := Aside0.mk (blk_below (g := gb220) (o := .cells #[.slice Ao42 t214.length co42, .int .i64 t217, .int .i64 t218] 33 (0, 0)) (by (with_reducible repeat (first | apply blk_drewN | apply blk_drew | apply blk_alloc)); exact BK220.out) hb); have n8_ := Aside0.mk (below_step (by repeat (first | (with_reducible first | exact HB.out | apply below_alloc | apply pw_below_drewN | apply below_drew1 | refine below_set ?_ GE188.out | refine below_set ?_ GE204.out | refine below_set ?_ GE210.out | refine below_set ?_ GE220.out) | exact HB.out)) hb); clear HO_205000; clear HO_211000; clear HO_221000; clear BK188; clear BK204; clear BK210; clear BK220; clear HB; have HO_205000 := n0_; have HO_211000 := n1_; have HO_221000 := n2_; have HO242 := n3_; have BK188 := n4_; have BK204 := n5_; have BK210 := n6_; have BK220 := n7_; have HB := n8_; clear n0_ n1_ n2_ n3_ n4_ n5_ n6_ n7_ n8_; (try clear hb); (try clear hb2); (try clear hk); (try clear hi); (try clear ho0)) | ((with_reducible refine gate_callee (f := 36) rfl ?_); refine goesL_ (some 96) rfl rfl Try.func36 (by kernel_rfl) rfl #[.slice A1 l1.length c1] rfl (by (try simp only [List.map_toArray, List.map_cons, List.map_nil]); first | done | rfl) ?_; (with_reducible refine (laws_toBoolS.calls kj73 _ _ l1 t245 _ ?side1 ?side2 A119.out).mono ?_); (case side1 => repeat (first | exact (Kd.C_below HR1.out HB.out) | (with_reducible refine Kd.C_alloc ?_ _) | (with_reducible refine Kd.C_drewN ?_ _) | (with_reducible refine Kd.C_drew ?_))); (case side2 => exact HC1.out); rintro e w133 ⟨v246, rfl, ho0, hb⟩; refine ⟨_, rfl, ?_⟩; have n0_ := Aside0.mk (Kd.R_below (by (with_reducible repeat (first | apply Kd.R_alloc | apply Kd.R_drewN | apply Kd.R_drew)); exact HO_205000.out) hb); have n1_ := Aside0.mk (Kd.R_below (by (with_reducible repeat (first | apply Kd.R_alloc | apply Kd.R_drewN | apply Kd.R_drew)); exact HO_211000.out) hb); have n2_ := Aside0.mk (Kd.R_below (by (with_reducible repeat (first | apply Kd.R_alloc | apply Kd.R_drewN | apply Kd.R_drew)); exact HO_221000.out) hb); have n3_ := Aside0.mk (Kd.R_below (by (with_reducible repeat (first | apply Kd.R_alloc | apply Kd.R_drewN | apply Kd.R_drew)); exact HO242.out) hb); have n4_ := Aside0.mk (Kd.R_lower ho0 (below_size (by repeat (first | (with_reducible first | exact HB.out | apply below_alloc | apply pw_below_drewN | apply below_drew1 | refine below_set ?_ GE188.out | refine below_set ?_ GE204.out | refine below_set ?_ GE210.out | refine below_set ?_ GE220.out) | exact HB.out)))); have n5_ := Aside0.mk (blk_below (g := gb188) (o := .cells #[.slice A0_0 l0_0.length c0_0, .int .i64 a0_1, .int .i64 a0_2] 30 (0, 0)) (by (with_reducible repeat (first | apply blk_drewN | apply blk_drew | apply blk_alloc)); exact BK188.out) hb); have n6_ := Aside0.mk (blk_below (g := gb204) (o := .cells #[.slice Ao27 t198.length co27, .int .i64 t201, .int .i64 t202] 33 (0, 0)) (by (with_reducible repeat (first | apply blk_drewN | apply blk_drew | apply blk_alloc)); exact BK204.out) hb); have n7_ := Aside0.mk (blk_below (g := gb210) (o := .cells #[.slice Ao33 t233.length co33, .int .i64 t208, .int .i64 t209] 33 (0, 0)) (by (with_reducible repeat (first | apply blk_drewN | apply blk_drew | apply blk_alloc)); exact BK210.out) hb); have n8_ := Aside0.mk (blk_below (g := gb220) (o := .cells #[.slice Ao42 t214.length co42, .int .i64 t217, .int .i64 t218] 33 (0, 0)) (by (with_reducible repeat (first | apply blk_drewN | apply blk_drew | apply blk_alloc)); exact BK220.out) hb); have n9_ := Aside0.mk (below_step (by repeat (first | (with_reducible first | exact HB.out | apply below_alloc | apply pw_below_drewN | apply below_drew1 | refine below_set ?_ GE188.out | refine below_set ?_ GE204.out | refine below_set ?_ GE210.out | refine below_set ?_ GE220.out) | exact HB.out)) hb); clear HO_205000; clear HO_211000; clear HO_221000; clear HO242; clear BK188; clear BK204; clear BK210; clear BK220; clear HB; have HO_205000 := n0_; have HO_211000 := n1_; have HO_221000 := n2_; have HO242 := n3_; have HO247 := n4_; have BK188 := n5_; have BK204 := n6_; have BK210 := n7_; have BK220 := n8_; have HB := n9_; clear n0_ n1_ n2_ n3_ n4_ n5_ n6_ n7_ n8_ n9_; (try clear hb); (try clear hb2); (try clear hk); (try clear hi); (try clear ho0); obtain ⟨Ao134, co134, eo134⟩ := Kd.R_slice HO242.out; subst eo134; obtain ⟨Ao135, co135, eo135⟩ := Kd.R_slice HO247.out; subst eo135) | ((with_reducible refine gate_callee (f := 33) rfl ?_); refine goesL_ (some 97) rfl rfl Try.func33 (by kernel_rfl) rfl #[.agg #[.slice Ao134 t240.length co134, .int .i64 t243, .int .i64 t244], .slice Ao135 t245.length co135] rfl (by (try simp only [List.map_toArray, List.map_cons, List.map_nil]); first | done | rfl) ?_; (with_reducible refine (impl_Grant.calls kj73 _ _ t240 t243 t244 _ _ t245 t248 t251 t252 t253 _ ?side1 ?side2 ?side3 ?side4 A120.out).mono ?_); (case side1 => repeat (first | exact (Kd.R_reads' HO242.out).2.2 | (with_reducible refine Kd.C_alloc ?_ _) | (with_reducible refine Kd.C_drewN ?_ _) | (with_reducible refine Kd.C_drew ?_))); (case side2 => exact (Kd.R_reads' HO242.out).2.1); (case side3 => repeat (first | exact (Kd.R_reads' HO247.out).2.2 | (with_reducible refine Kd.C_alloc ?_ _) | (with_reducible refine Kd.C_drewN ?_ _) | (with_reducible refine Kd.C_drew ?_))); (case side4 => exact (Kd.R_reads' HO247.out).2.1); rintro e w136 ⟨v249, rfl, ho0, hb⟩; refine ⟨_, rfl, ?_⟩; have n0_ := Aside0.mk (Kd.R_elder' (by (with_reducible repeat (first | apply Kd.R_alloc | apply Kd.R_drewN | apply Kd.R_drew)); exact HO_205000.out) (Kd.R_base ho0) hb); have n1_ := Aside0.mk (Kd.R_elder' (by (with_reducible repeat (first | apply Kd.R_alloc | apply Kd.R_drewN | apply Kd.R_drew)); exact HO_211000.out) (Kd.R_base ho0) hb); have n2_ := Aside0.mk (Kd.R_elder' (by (with_reducible repeat (first | apply Kd.R_alloc | apply Kd.R_drewN | apply Kd.R_drew)); exact HO_221000.out) (Kd.R_base ho0) hb); have n3_ := Aside0.mk (Kd.R_elder' (by (with_reducible repeat (first | apply Kd.R_alloc | apply Kd.R_drewN | apply Kd.R_drew)); exact HO242.out) (Kd.R_base ho0) hb); have n4_ := Aside0.mk (Kd.R_below (by (with_reducible repeat (first | apply Kd.R_alloc | apply Kd.R_drewN | apply Kd.R_drew)); exact HO247.out) hb); have n5_ := Aside0.mk (Kd.R_lower (Kd.R_new' (Kd.R_new' (Kd.R_new' (Kd.R_new' ho0 (Kd.R_lt (by (with_reducible repeat (first | apply Kd.R_alloc | apply Kd.R_drewN | apply Kd.R_drew)); exact HO_205000.out))) (Kd.R_lt (by (with_reducible repeat (first | apply Kd.R_alloc | apply Kd.R_drewN | apply Kd.R_drew)); exact HO_211000.out))) (Kd.R_lt (by (with_reducible repeat (first | apply Kd.R_alloc | apply Kd.R_drewN | apply Kd.R_drew)); exact HO_221000.out))) (Kd.R_lt (by (with_reducible repeat (first | apply Kd.R_alloc | apply Kd.R_drewN | apply Kd.R_drew)); exact HO242.out))) (below_size (by repeat (first | (with_reducible first | exact HB.out | apply below_alloc | apply pw_below_drewN | apply below_drew1 | refine below_set ?_ GE188.out | refine below_set ?_ GE204.out | refine below_set ?_ GE210.out | refine below_set ?_ GE220.out) | exact HB.out)))); have n6_ := Aside0.mk (blk_below (g := gb188) (o := .cells #[.slice A0_0 l0_0.length c0_0, .int .i64 a0_1, .int .i64 a0_2] 30 (0, 0)) (by (with_reducible repeat (first | apply blk_drewN | apply blk_drew | apply blk_alloc)); exact BK188.out) hb); have n7_ := Aside0.mk (blk_below (g := gb204) (o := .cells #[.slice Ao27 t198.length co27, .int .i64 t201, .int .i64 t202] 33 (0, 0)) (by (with_reducible repeat (first | apply blk_drewN | apply blk_drew | apply blk_alloc)); exact BK204.out) hb); have n8_ := Aside0.mk (blk_below (g := gb210) (o := .cells #[.slice Ao33 t233.length co33, .int .i64 t208, .int .i64 t209] 33 (0, 0)) (by (with_reducible repeat (first | apply blk_drewN | apply blk_drew | apply blk_alloc)); exact BK210.out) hb); have n9_ := Aside0.mk (blk_below (g := gb220) (o := .cells #[.slice Ao42 t214.length co42, .int .i64 t217, .int .i64 t218] 33 (0, 0)) (by (with_reducible repeat (first | apply blk_drewN | apply blk_drew | apply blk_alloc)); exact BK220.out) hb); have n10_ := Aside0.mk (below_step (by repeat (first | (with_reducible first | exact HB.out | apply below_alloc | apply pw_below_drewN | apply below_drew1 | refine below_set ?_ GE188.out | refine below_set ?_ GE204.out | refine below_set ?_ GE210.out | refine below_set ?_ GE220.out) | exact HB.out)) hb); clear HO_205000; clear HO_211000; clear HO_221000; clear HO242; clear HO247; clear BK188; clear BK204; clear BK210; clear BK220; clear HB; have HO_205000 := n0_; have HO_211000 := n1_; have HO_221000 := n2_; have HO242 := n3_; have HO247 := n4_; have HO250 := n5_; have BK188 := n6_; have BK204 := n7_; have BK210 := n8_; have BK220 := n9_; have HB := n10_; clear n0_ n1_ n2_ n3_ n4_ n5_ n6_ n7_ n8_ n9_ n10_; (try clear hb); (try clear hb2); (try clear hk); (try clear hi); (try clear ho0)) | ((with_reducible refine gate_dst (N := 15) rfl ?_); refine box_event ?hg (N := 15) ?hd (cs := #[.slice none 0 0, .int .i64 0, .int .i64 0]) (t := 33) ?hr ?_; (case hd => rfl); (case hg => rfl); (case hr => first | (go_simp; done) | (go_simp; rfl)); intro gb254 hg w137 hbox hb; have n0_ := Aside0.mk (Kd.R_below (by (with_reducible repeat (first | apply Kd.R_alloc | apply Kd.R_drewN | apply Kd.R_drew)); exact HO_205000.out) hb); have n1_ := Aside0.mk (Kd.R_below (by (with_reducible repeat (first | apply Kd.R_alloc | apply Kd.R_drewN | apply Kd.R_drew)); exact HO_211000.out) hb); have n2_ := Aside0.mk (Kd.R_below (by (with_reducible repeat (first | apply Kd.R_alloc | apply Kd.R_drewN | apply Kd.R_drew)); exact HO_221000.out) hb); have n3_ := Aside0.mk (Kd.R_below (by (with_reducible repeat (first | apply Kd.R_alloc | apply Kd.R_drewN | apply Kd.R_drew)); exact HO242.out) hb); have n4_ := Aside0.mk (Kd.R_below (by (with_reducible repeat (first | apply Kd.R_alloc | apply Kd.R_drewN | apply Kd.R_drew)); exact HO247.out) hb); have n5_ := Aside0.mk (Kd.R_below (by (with_reducible repeat (first | apply Kd.R_alloc | apply Kd.R_drewN | apply Kd.R_drew)); exact HO250.out) hb); have n6_ := Aside0.mk (blk_below (g := gb188) (o := .cells #[.slice A0_0 l0_0.length c0_0, .int .i64 a0_1, .int .i64 a0_2] 30 (0, 0)) (by (with_reducible repeat (first | apply blk_drewN | apply blk_drew | apply blk_alloc)); exact BK188.out) hb); have n7_ := Aside0.mk (blk_below (g := gb204) (o := .cells #[.slice Ao27 t198.length co27, .int .i64 t201, .int .i64 t202] 33 (0, 0)) (by (with_reducible repeat (first | apply blk_drewN | apply blk_drew | apply blk_alloc)); exact BK204.out) hb); have n8_ := Aside0.mk (blk_below (g := gb210) (o := .cells #[.slice Ao33 t233.length co33, .int .i64 t208, .int .i64 t209] 33 (0, 0)) (by (with_reducible repeat (first | apply blk_drewN | apply blk_drew | apply blk_alloc)); exact BK210.out) hb); have n9_ := Aside0.mk (blk_below (g := gb220) (o := .cells #[.slice Ao42 t214.length co42, .int .i64 t217, .int .i64 t218] 33 (0, 0)) (by (with_reducible repeat (first | apply blk_drewN | apply blk_drew | apply blk_alloc)); exact BK220.out) hb); have n10_ := Aside0.mk (below_step (by repeat (first | (with_reducible first | exact HB.out | apply below_alloc | apply pw_below_drewN | apply below_drew1 | refine below_set ?_ GE188.out | refine below_set ?_ GE204.out | refine below_set ?_ GE210.out | refine below_set ?_ GE220.out) | exact HB.out)) hb); have n11_ := Aside0.mk (hbox); have n12_ := Aside0.mk ((by rw [hg]; exact (below_size (by repeat (first | (with_reducible first | exact HB.out | apply below_alloc | apply pw_below_drewN | apply below_drew1 | refine below_set ?_ GE188.out | refine below_set ?_ GE204.out | refine below_set ?_ GE210.out | refine below_set ?_ GE220.out) | exact HB.out))) : w.heap.size ≤ gb254)); have n13_ := Aside0.mk ((by rw [hg]; exact (below_size (by repeat (first | (with_reducible first | exact HB.out | apply below_alloc | apply pw_below_drewN | apply below_drew1 | refine below_set ?_ GE188.out | refine below_set ?_ GE204.out | refine below_set ?_ GE210.out | refine below_set ?_ GE220.out) | exact HB.out))) : w.heap.size ≤ gb254)); have n14_ := Aside0.mk ((by rw [hg]; exact Nat.ne_of_lt (blk_lt (g := gb188) (o := .cells #[.slice A0_0 l0_0.length c0_0, .int .i64 a0_1, .int .i64 a0_2] 30 (0, 0)) (by (with_reducible repeat (first | apply blk_drewN | apply blk_drew | apply blk_alloc)); exact BK188.out)) : gb188 ≠ gb254)); have n15_ := Aside0.mk ((by rw [hg]; exact Nat.ne_of_gt (blk_lt (g := gb188) (o := .cells #[.slice A0_0 l0_0.length c0_0, .int .i64 a0_1, .int .i64 a0_2] 30 (0, 0)) (by (with_reducible repeat (first | apply blk_drewN | apply blk_drew | apply blk_alloc)); exact BK188.out)) : gb254 ≠ gb188)); have n16_ := Aside0.mk ((by rw [hg]; exact Nat.ne_of_lt (blk_lt (g := gb204) (o := .cells #[.slice Ao27 t198.length co27, .int .i64 t201, .int .i64 t202] 33 (0, 0)) (by (with_reducible repeat (first | apply blk_drewN | apply blk_drew | apply blk_alloc)); exact BK204.out)) : gb204 ≠ gb254)); have n17_ := Aside0.mk ((by rw [hg]; exact Nat.ne_of_gt (blk_lt (g := gb204) (o := .cells #[.slice Ao27 t198.length co27, .int .i64 t201, .int .i64 t202] 33 (0, 0)) (by (with_reducible repeat (first | apply blk_drewN | apply blk_drew | apply blk_alloc)); exact BK204.out)) : gb254 ≠ gb204)); have n18_ := Aside0.mk ((by rw [hg]; exact Nat.ne_of_lt (blk_lt (g := gb210) (o := .cells #[.slice Ao33 t233.length co33, .int .i64 t208, .int .i64 t209] 33 (0, 0)) (by (with_reducible repeat (first | apply blk_drewN | apply blk_drew | apply blk_alloc)); exact BK210.out)) : gb210 ≠ gb254)); have n19_ := Aside0.mk ((by rw [hg]; exact Nat.ne_of_gt (blk_lt (g := gb210) (o := .cells #[.slice Ao33 t233.length co33, .int .i64 t208, .int .i64 t209] 33 (0, 0)) (by (with_reducible repeat (first | apply blk_drewN | apply blk_drew | apply blk_alloc)); exact BK210.out)) : gb254 ≠ gb210)); have n20_ := Aside0.mk ((by rw [hg]; exact Nat.ne_of_lt (blk_lt (g := gb220) (o := .cells #[.slice Ao42 t214.length co42, .int .i64 t217, .int .i64 t218] 33 (0, 0)) (by (with_reducible repeat (first | apply blk_drewN | apply blk_drew | apply blk_alloc)); exact BK220.out)) : gb220 ≠ gb254)); have n21_ := Aside0.mk ((by rw [hg]; exact Nat.ne_of_gt (blk_lt (g := gb220) (o := .cells #[.slice Ao42 t214.length co42, .int .i64 t217, .int .i64 t218] 33 (0, 0)) (by (with_reducible repeat (first | apply blk_drewN | apply blk_drew | apply blk_alloc)); exact BK220.out)) : gb254 ≠ gb220)); clear HO_205000; clear HO_211000; clear HO_221000; clear HO242; clear HO247; clear HO250; clear BK188; clear BK204; clear BK210; clear BK220; clear HB; have HO_205000 := n0_; have HO_211000 := n1_; have HO_221000 := n2_; have HO242 := n3_; have HO247 := n4_; have HO250 := n5_; have BK188 := n6_; have BK204 := n7_; have BK210 := n8_; have BK220 := n9_; have HB := n10_; have BK254 := n11_; have GW254 := n12_; have GE254 := n13_; have NB188_254 := n14_; have NB254_188 := n15_; have NB204_254 := n16_; have NB254_204 := n17_; have NB210_254 := n18_; have NB254_210 := n19_; have NB220_254 := n20_; have NB254_220 := n21_; clear n0_ n1_ n2_ n3_ n4_ n5_ n6_ n7_ n8_ n9_ n10_ n11_ n12_ n13_ n14_ n15_ n16_ n17_ n18_ n19_ n20_ n21_; clear hb hbox hg; obtain ⟨Ao138, co138, eo138⟩ := Kd.R_slice HO250.out; subst eo138; have hnb139 := NB254_188.out; have hnc139 := NB188_254.out; have hnb140 := NB254_204.out; have hnc140 := NB204_254.out; have hnb141 := NB254_210.out; have hnc141 := NB210_254.out; have hnb142 := NB254_220.out; have hnc142 := NB220_254.out; have hcz143_0 : w137.cell? ⟨gb254, 0, none⟩ = some (.slice none 0 0) := (blk_cell BK254.out 0).trans rfl; have hcz143_1 : w137.cell? ⟨gb254, 1, none⟩ = some (.int .i64 0) := (blk_cell BK254.out 1).trans rfl; have hcz143_2 : w137.cell? ⟨gb254, 2, none⟩ = some (.int .i64 0) := (blk_cell BK254.out 2).trans rfl; have hfz143_0 := blk_frozen BK254.out 0; have hfz143_1 := blk_frozen BK254.out 1; have hfz143_2 := blk_frozen BK254.out 2))
                          (try simp only [Act.put, List.setIfInBounds_toArray, List.set_cons_zero, List.set_cons_succ])
                          go_cut [108] (fun v108 wc => ∃ (kq : Nat) (x108_120 : Bool), v108 = .bool x108_120 ∧ Aside0 (laws_FnExactGrant.j2 kq t237 x108_120 t238 t217 t218 = some r) ∧ Aside0 (kq ≤ kj73) ∧ Aside0 (Kd.R (Kd.int .i64) 3 wc w.heap.size (fun k_ => some k_ ≠ ((.slice Ao33 t233.length co33) : Value).ownBlock ∧ some k_ ≠ ((.slice Ao42 t214.length co42) : Value).ownBlock ∧ some k_ ≠ ((.slice Ao138 t248.length co138) : Value).ownBlock) (.slice Ao27 t198.length co27) t198) ∧ Aside0 (Kd.R (Kd.int .i64) 3 wc w.heap.size (fun k_ => some k_ ≠ ((.slice Ao27 t198.length co27) : Value).ownBlock ∧ some k_ ≠ ((.slice Ao42 t214.length co42) : Value).ownBlock ∧ some k_ ≠ ((.slice Ao138 t248.length co138) : Value).ownBlock) (.slice Ao33 t233.length co33) t233) ∧ Aside0 (Kd.R (Kd.int .i64) 3 wc w.heap.size (fun k_ => some k_ ≠ ((.slice Ao27 t198.length co27) : Value).ownBlock ∧ some k_ ≠ ((.slice Ao33 t233.length co33) : Value).ownBlock ∧ some k_ ≠ ((.slice Ao138 t248.length co138) : Value).ownBlock) (.slice Ao42 t214.length co42) t238) ∧ Aside0 (Kd.R (Kd.int .i64) 3 wc w.heap.size (fun k_ => some k_ ≠ ((.slice Ao27 t198.length co27) : Value).ownBlock ∧ some k_ ≠ ((.slice Ao33 t233.length co33) : Value).ownBlock ∧ some k_ ≠ ((.slice Ao42 t214.length co42) : Value).ownBlock) (.slice Ao138 t248.length co138) t248) ∧ Aside0 (wc.heap[gb188]? = some (.cells #[(.slice A0_0 l0_0.length c0_0), .int .i64 a0_1, .int .i64 a0_2] 30 (0, 0))) ∧ Aside0 (wc.heap[gb204]? = some (.cells #[(.slice Ao27 t198.length co27), .int .i64 t201, .int .i64 t202] 33 (0, 0))) ∧ Aside0 (wc.heap[gb210]? = some (.cells #[(.slice Ao33 t233.length co33), .int .i64 t208, .int .i64 t209] 33 (0, 0))) ∧ Aside0 (wc.heap[gb220]? = some (.cells #[(.slice Ao42 t214.length co42), .int .i64 t217, .int .i64 t218] 33 (0, 0))) ∧ Aside0 (wc.heap[gb254]? = some (.cells #[(.slice Ao138 t248.length co138), .int .i64 t251, .int .i64 t252] 33 (0, 0))) ∧ Aside0 (Below w.heap.size w wc))
                          case first =>
                            have H := HC121.out
                            clear HC121
                            replace H := Option.bind_eq_some_iff.mp H
                            obtain ⟨t255, A1440, H⟩ := H
                            replace H : (if t255 = true then (laws_FnExactGrant.j2 kj73 t237 (t253 != t203) t238 t217 t218) else (laws_FnExactGrant.j2 kj73 t237 true t238 t217 t218)) = some r := H
                            have A144 := Aside0.mk A1440
                            clear A1440
                            by_cases c145 : t255 = true
                            · subst c145
                              have H1 : (laws_FnExactGrant.j2 kj73 t237 (t253 != t203) t238 t217 t218) = some r := by rw [if_pos rfl] at H; exact H
                              clear H
                              have H := H1
                              clear H1
                              have H' := Aside0.mk H
                              clear H
                              have hnb146 := NB254_188.out
                              have hnc146 := NB188_254.out
                              have hnb147 := NB254_204.out
                              have hnc147 := NB204_254.out
                              have hnb148 := NB254_210.out
                              have hnc148 := NB210_254.out
                              have hnb149 := NB254_220.out
                              have hnc149 := NB220_254.out
                              have hcz150_0 : w137.cell? ⟨gb254, 0, none⟩ = some (.slice none 0 0) := (blk_cell BK254.out 0).trans rfl
                              have hcz150_1 : w137.cell? ⟨gb254, 1, none⟩ = some (.int .i64 0) := (blk_cell BK254.out 1).trans rfl
                              have hcz150_2 : w137.cell? ⟨gb254, 2, none⟩ = some (.int .i64 0) := (blk_cell BK254.out 2).trans rfl
                              have hfz150_0 := blk_frozen BK254.out 0
                              have hfz150_1 := blk_frozen BK254.out 1
                              have hfz150_2 := blk_frozen BK254.out 2
                              have hnb151 := NB204_188.out
                              have hnc151 := NB188_204.out
                              have hnb152 := NB204_210.out
                              have hnc152 := NB210_204.out
                              have hnb153 := NB204_220.out
                              have hnc153 := NB220_204.out
                              have hcz154_0 : w137.cell? ⟨gb204, 0, none⟩ = some (.slice Ao27 t198.length co27) := (blk_cell BK204.out 0).trans rfl
                              have hcz154_1 : w137.cell? ⟨gb204, 1, none⟩ = some (.int .i64 t201) := (blk_cell BK204.out 1).trans rfl
                              have hcz154_2 : w137.cell? ⟨gb204, 2, none⟩ = some (.int .i64 t202) := (blk_cell BK204.out 2).trans rfl
                              have hfz154_0 := blk_frozen BK204.out 0
                              have hfz154_1 := blk_frozen BK204.out 1
                              have hfz154_2 := blk_frozen BK204.out 2
                              go_wp2_with (first | ((with_reducible refine gate_callee (f := 24) rfl ?_); refine goesL_ (some 102) rfl rfl Try.func24 (by kernel_rfl) rfl #[.agg #[.slice Ao138 t248.length co138, .int .i64 t251, .int .i64 t252], .agg #[.slice Ao27 t198.length co27, .int .i64 t201, .int .i64 t202]] rfl (by (try simp only [List.map_toArray, List.map_cons, List.map_nil]); first | done | rfl) ?_; (with_reducible refine (laws_eqArbiter.calls kj73 _ _ t248 t251 t252 _ _ t198 t201 t202 true _ ?side1 ?side2 ?side3 ?side4 A144.out).mono ?_); (case side1 => refine (Kd.R_reads' (e := 3) (base := w.heap.size) (ok := fun k_ => ((((True ∧ some k_ ≠ (.slice Ao27 t198.length co27 : Value).ownBlock) ∧ some k_ ≠ (.slice Ao33 t233.length co33 : Value).ownBlock) ∧ some k_ ≠ (.slice Ao42 t214.length co42 : Value).ownBlock) ∧ some k_ ≠ (.slice Ao134 t240.length co134 : Value).ownBlock)) (n := t248.length) (c := co138) ?_).2.2; exact (by (with_reducible repeat (first | apply Kd.R_alloc | apply Kd.R_drewN | apply Kd.R_drew)); exact (Kd.R_mono (Kd.R_far (p := ⟨gb254, 2, none⟩) (Kd.R_far (p := ⟨gb254, 1, none⟩) (Kd.R_far (p := ⟨gb254, 0, none⟩) (Kd.R_types HO250.out BK254.out (by decide)) (fun _ hk => hk.2) (.slice Ao138 t248.length co138)) (fun _ hk => hk.2) (.int .i64 t251)) (fun _ hk => hk.2) (.int .i64 t252)) (fun _ h_ => h_.1)))); (case side2 => exact (Kd.R_reads' HO250.out).2.1); (case side3 => refine (Kd.R_reads' (e := 3) (base := w.heap.size) (ok := fun k_ => (((some k_ ≠ (.slice Ao33 t233.length co33 : Value).ownBlock ∧ some k_ ≠ (.slice Ao42 t214.length co42 : Value).ownBlock) ∧ some k_ ≠ (.slice Ao134 t240.length co134 : Value).ownBlock) ∧ some k_ ≠ (.slice Ao138 t248.length co138 : Value).ownBlock)) (n := t198.length) (c := co27) ?_).2.2; exact (by (with_reducible repeat (first | apply Kd.R_alloc | apply Kd.R_drewN | apply Kd.R_drew)); exact (Kd.R_mono (Kd.R_far (p := ⟨gb254, 2, none⟩) (Kd.R_far (p := ⟨gb254, 1, none⟩) (Kd.R_far (p := ⟨gb254, 0, none⟩) (Kd.R_types HO_205000.out BK254.out (by decide)) (fun _ hk => hk.2) (.slice Ao138 t248.length co138)) (fun _ hk => hk.2) (.int .i64 t251)) (fun _ hk => hk.2) (.int .i64 t252)) (fun _ h_ => h_.1)))); (case side4 => exact (Kd.R_reads' HO_205000.out).2.1); rintro e w155 ⟨rfl, hb⟩; refine ⟨_, rfl, ?_⟩; have n0_ := Aside0.mk (Kd.R_below (by (with_reducible repeat (first | apply Kd.R_alloc | apply Kd.R_drewN | apply Kd.R_drew)); exact (Kd.R_mono (Kd.R_far (p := ⟨gb254, 2, none⟩) (Kd.R_far (p := ⟨gb254, 1, none⟩) (Kd.R_far (p := ⟨gb254, 0, none⟩) (Kd.R_types HO_205000.out BK254.out (by decide)) (fun _ hk => hk.2) (.slice Ao138 t248.length co138)) (fun _ hk => hk.2) (.int .i64 t251)) (fun _ hk => hk.2) (.int .i64 t252)) (fun _ h_ => h_.1))) hb); have n1_ := Aside0.mk (Kd.R_below (by (with_reducible repeat (first | apply Kd.R_alloc | apply Kd.R_drewN | apply Kd.R_drew)); exact (Kd.R_mono (Kd.R_far (p := ⟨gb254, 2, none⟩) (Kd.R_far (p := ⟨gb254, 1, none⟩) (Kd.R_far (p := ⟨gb254, 0, none⟩) (Kd.R_types HO_211000.out BK254.out (by decide)) (fun _ hk => hk.2) (.slice Ao138 t248.length co138)) (fun _ hk => hk.2) (.int .i64 t251)) (fun _ hk => hk.2) (.int .i64 t252)) (fun _ h_ => h_.1))) hb); have n2_ := Aside0.mk (Kd.R_below (by (with_reducible repeat (first | apply Kd.R_alloc | apply Kd.R_drewN | apply Kd.R_drew)); exact (Kd.R_mono (Kd.R_far (p := ⟨gb254, 2, none⟩) (Kd.R_far (p := ⟨gb254, 1, none⟩) (Kd.R_far (p := ⟨gb254, 0, none⟩) (Kd.R_types HO_221000.out BK254.out (by decide)) (fun _ hk => hk.2) (.slice Ao138 t248.length co138)) (fun _ hk => hk.2) (.int .i64 t251)) (fun _ hk => hk.2) (.int .i64 t252)) (fun _ h_ => h_.1))) hb); have n3_ := Aside0.mk (Kd.R_below (by (with_reducible repeat (first | apply Kd.R_alloc | apply Kd.R_drewN | apply Kd.R_drew)); exact (Kd.R_mono (Kd.R_far (p := ⟨gb254, 2, none⟩) (Kd.R_far (p := ⟨gb254, 1, none⟩) (Kd.R_far (p := ⟨gb254, 0, none⟩) (Kd.R_types HO242.out BK254.out (by decide)) (fun _ hk => hk.2) (.slice Ao138 t248.length co138)) (fun _ hk => hk.2) (.int .i64 t251)) (fun _ hk => hk.2) (.int .i64 t252)) (fun _ h_ => h_.1))) hb); have n4_ := Aside0.mk (Kd.R_below (by (with_reducible repeat (first | apply Kd.R_alloc | apply Kd.R_drewN | apply Kd.R_drew)); exact (Kd.R_mono (Kd.R_far (p := ⟨gb254, 2, none⟩) (Kd.R_far (p := ⟨gb254, 1, none⟩) (Kd.R_far (p := ⟨gb254, 0, none⟩) (Kd.R_types HO247.out BK254.out (by decide)) (fun _ hk => hk.2) (.slice Ao138 t248.length co138)) (fun _ hk => hk.2) (.int .i64 t251)) (fun _ hk => hk.2) (.int .i64 t252)) (fun _ h_ => h_.1))) hb); have n5_ := Aside0.mk (Kd.R_below (by (with_reducible repeat (first | apply Kd.R_alloc | apply Kd.R_drewN | apply Kd.R_drew)); exact (Kd.R_mono (Kd.R_far (p := ⟨gb254, 2, none⟩) (Kd.R_far (p := ⟨gb254, 1, none⟩) (Kd.R_far (p := ⟨gb254, 0, none⟩) (Kd.R_types HO250.out BK254.out (by decide)) (fun _ hk => hk.2) (.slice Ao138 t248.length co138)) (fun _ hk => hk.2) (.int .i64 t251)) (fun _ hk => hk.2) (.int .i64 t252)) (fun _ h_ => h_.1))) hb); have n6_ := Aside0.mk (blk_below (g := gb188) (o := .cells #[.slice A0_0 l0_0.length c0_0, .int .i64 a0_1, .int .i64 a0_2] 30 (0, 0)) (by (with_reducible repeat (first | apply blk_drewN | apply blk_drew | apply blk_alloc)); refine blk_far ?_ NB188_254.out _; (with_reducible repeat (first | apply blk_drewN | apply blk_drew | apply blk_alloc)); refine blk_far ?_ NB188_254.out _; (with_reducible repeat (first | apply blk_drewN | apply blk_drew | apply blk_alloc)); refine blk_far ?_ NB188_254.out _; (with_reducible repeat (first | apply blk_drewN | apply blk_drew | apply blk_alloc)); exact BK188.out) hb); have n7_ := Aside0.mk (blk_below (g := gb204) (o := .cells #[.slice Ao27 t198.length co27, .int .i64 t201, .int .i64 t202] 33 (0, 0)) (by (with_reducible repeat (first | apply blk_drewN | apply blk_drew | apply blk_alloc)); refine blk_far ?_ NB204_254.out _; (with_reducible repeat (first | apply blk_drewN | apply blk_drew | apply blk_alloc)); refine blk_far ?_ NB204_254.out _; (with_reducible repeat (first | apply blk_drewN | apply blk_drew | apply blk_alloc)); refine blk_far ?_ NB204_254.out _; (with_reducible repeat (first | apply blk_drewN | apply blk_drew | apply blk_alloc)); exact BK204.out) hb); have n8_ := Aside0.mk (blk_below (g := gb210) (o := .cells #[.slice Ao33 t233.length co33, .int .i64 t208, .int .i64 t209] 33 (0, 0)) (by (with_reducible repeat (first | apply blk_drewN | apply blk_drew | apply blk_alloc)); refine blk_far ?_ NB210_254.out _; (with_reducible repeat (first | apply blk_drewN | apply blk_drew | apply blk_alloc)); refine blk_far ?_ NB210_254.out _; (with_reducible repeat (first | apply blk_drewN | apply blk_drew | apply blk_alloc)); refine blk_far ?_ NB210_254.out _; (with_reducible repeat (first | apply blk_drewN | apply blk_drew | apply blk_alloc)); exact BK210.out) hb); have n9_ := Aside0.mk (blk_below (g := gb220) (o := .cells #[.slice Ao42 t214.length co42, .int .i64 t217, .int .i64 t218] 33 (0, 0)) (by (with_reducible repeat (first | apply blk_drewN | apply blk_drew | apply blk_alloc)); refine blk_far ?_ NB220_254.out _; (with_reducible repeat (first | apply blk_drewN | apply blk_drew | apply blk_alloc)); refine blk_far ?_ NB220_254.out _; (with_reducible repeat (first | apply blk_drewN | apply blk_drew | apply blk_alloc)); refine blk_far ?_ NB220_254.out _; (with_reducible repeat (first | apply blk_drewN | apply blk_drew | apply blk_alloc)); exact BK220.out) hb); have n10_ := Aside0.mk (blk_below (g := gb254) (o := .cells #[.slice Ao138 t248.length co138, .int .i64 t251, .int .i64 t252] 33 (0, 0)) (by (with_reducible repeat (first | apply blk_drewN | apply blk_drew | apply blk_alloc)); refine blk_put (cs := #[.slice Ao138 t248.length co138, .int .i64 t251, .int .i64 0]) ?_ 2 _ rfl; (with_reducible repeat (first | apply blk_drewN | apply blk_drew | apply blk_alloc)); refine blk_put (cs := #[.slice Ao138 t248.length co138, .int .i64 0, .int .i64 0]) ?_ 1 _ rfl; (with_reducible repeat (first | apply blk_drewN | apply blk_drew | apply blk_alloc)); refine blk_put (cs := #[.slice none 0 0, .int .i64 0, .int .i64 0]) ?_ 0 _ rfl; (with_reducible repeat (first | apply blk_drewN | apply blk_drew | apply blk_alloc)); exact BK254.out) hb); have n11_ := Aside0.mk (below_step (by repeat (first | (with_reducible first | exact HB.out | apply below_alloc | apply pw_below_drewN | apply below_drew1 | refine below_set ?_ GE188.out | refine below_set ?_ GE204.out | refine below_set ?_ GE210.out | refine below_set ?_ GE220.out | refine below_set ?_ GE254.out) | exact HB.out)) hb); clear HO_205000; clear HO_211000; clear HO_221000; clear HO242; clear HO247; clear HO250; clear BK188; clear BK204; clear BK210; clear BK220; clear BK254; clear HB; have HO_205000 := n0_; have HO_211000 := n1_; have HO_221000 := n2_; have HO242 := n3_; have HO247 := n4_; have HO250 := n5_; have BK188 := n6_; have BK204 := n7_; have BK210 := n8_; have BK220 := n9_; have BK254 := n10_; have HB := n11_; clear n0_ n1_ n2_ n3_ n4_ n5_ n6_ n7_ n8_ n9_ n10_ n11_; (try clear hb); (try clear hb2); (try clear hk); (try clear hi)))
                              go_meet
                              case rel => exact ⟨_, ((t253 != t203)), (by first | rfl | (simp [*]; done)), H', ⟨by have := HJ15.out; have := HJ73.out; first | omega | exact Nat.le_refl _⟩, ⟨by (try simp only [hl211000_73]); (with_reducible repeat (first | apply Kd.R_alloc | apply Kd.R_drewN | apply Kd.R_drew)); exact Kd.R_mono HO_205000.out (fun _ hk => (And.intro (hk.1.1.1) ((And.intro (hk.1.1.2) (hk.2)))))⟩, ⟨by (try simp only [hl211000_73]); (with_reducible repeat (first | apply Kd.R_alloc | apply Kd.R_drewN | apply Kd.R_drew)); exact Kd.R_mono HO_211000.out (fun _ hk => (And.intro (hk.1.1.1) ((And.intro (hk.1.1.2) (hk.2)))))⟩, ⟨by (try simp only [hl211000_73]); (with_reducible repeat (first | apply Kd.R_alloc | apply Kd.R_drewN | apply Kd.R_drew)); exact Kd.R_mono HO_221000.out (fun _ hk => (And.intro (hk.1.1.1) ((And.intro (hk.1.1.2) (hk.2)))))⟩, ⟨by (try simp only [hl211000_73]); (with_reducible repeat (first | apply Kd.R_alloc | apply Kd.R_drewN | apply Kd.R_drew)); exact Kd.R_mono HO250.out (fun _ hk => (And.intro (hk.1.1.1.2) ((And.intro (hk.1.1.2) (hk.1.2)))))⟩, ⟨by (try simp only [hl211000_73]); (with_reducible repeat (first | apply blk_drewN | apply blk_drew | apply blk_alloc)); exact BK188.out⟩, ⟨by (try simp only [hl211000_73]); (with_reducible repeat (first | apply blk_drewN | apply blk_drew | apply blk_alloc)); exact BK204.out⟩, ⟨by (try simp only [hl211000_73]); (with_reducible repeat (first | apply blk_drewN | apply blk_drew | apply blk_alloc)); exact BK210.out⟩, ⟨by (try simp only [hl211000_73]); (with_reducible repeat (first | apply blk_drewN | apply blk_drew | apply blk_alloc)); exact BK220.out⟩, ⟨by (try simp only [hl211000_73]); (with_reducible repeat (first | apply blk_drewN | apply blk_drew | apply blk_alloc)); exact BK254.out⟩, ⟨by repeat (first | (with_reducible first | exact HB.out | apply below_alloc | apply pw_below_drewN | apply below_drew1 | refine below_set ?_ GE188.out | refine below_set ?_ GE204.out | refine below_set ?_ GE210.out | refine below_set ?_ GE220.out | refine below_set ?_ GE254.out) | exact HB.out)⟩⟩
                            · replace c145 := Bool.eq_false_iff.mpr c145
                              subst c145
                              have H1 : (laws_FnExactGrant.j2 kj73 t237 true t238 t217 t218) = some r := by rw [if_neg (show ¬ (false = true) by decide)] at H; exact H
                              clear H
                              have H := H1
                              clear H1
                              have H' := Aside0.mk H
                              clear H
                              have hnb156 := NB254_188.out
                              have hnc156 := NB188_254.out
                              have hnb157 := NB254_204.out
                              have hnc157 := NB204_254.out
                              have hnb158 := NB254_210.out
                              have hnc158 := NB210_254.out
                              have hnb159 := NB254_220.out
                              have hnc159 := NB220_254.out
                              have hcz160_0 : w137.cell? ⟨gb254, 0, none⟩ = some (.slice none 0 0) := (blk_cell BK254.out 0).trans rfl
                              have hcz160_1 : w137.cell? ⟨gb254, 1, none⟩ = some (.int .i64 0) := (blk_cell BK254.out 1).trans rfl
                              have hcz160_2 : w137.cell? ⟨gb254, 2, none⟩ = some (.int .i64 0) := (blk_cell BK254.out 2).trans rfl
                              have hfz160_0 := blk_frozen BK254.out 0
                              have hfz160_1 := blk_frozen BK254.out 1
                              have hfz160_2 := blk_frozen BK254.out 2
                              have hnb161 := NB204_188.out
                              have hnc161 := NB188_204.out
                              have hnb162 := NB204_210.out
                              have hnc162 := NB210_204.out
                              have hnb163 := NB204_220.out
                              have hnc163 := NB220_204.out
                              have hcz164_0 : w137.cell? ⟨gb204, 0, none⟩ = some (.slice Ao27 t198.length co27) := (blk_cell BK204.out 0).trans rfl
                              have hcz164_1 : w137.cell? ⟨gb204, 1, none⟩ = some (.int .i64 t201) := (blk_cell BK204.out 1).trans rfl
                              have hcz164_2 : w137.cell? ⟨gb204, 2, none⟩ = some (.int .i64 t202) := (blk_cell BK204.out 2).trans rfl
                              have hfz164_0 := blk_frozen BK204.out 0
                              have hfz164_1 := blk_frozen BK204.out 1
                              have hfz164_2 := blk_frozen BK204.out 2
                              go_wp2_with (first | ((with_reducible refine gate_callee (f := 24) rfl ?_); refine goesL_ (some 102) rfl rfl Try.func24 (by kernel_rfl) rfl #[.agg #[.slice Ao138 t248.length co138, .int .i64 t251, .int .i64 t252], .agg #[.slice Ao27 t198.length co27, .int .i64 t201, .int .i64 t202]] rfl (by (try simp only [List.map_toArray, List.map_cons, List.map_nil]); first | done | rfl) ?_; (with_reducible refine (laws_eqArbiter.calls kj73 _ _ t248 t251 t252 _ _ t198 t201 t202 false _ ?side1 ?side2 ?side3 ?side4 A144.out).mono ?_); (case side1 => refine (Kd.R_reads' (e := 3) (base := w.heap.size) (ok := fun k_ => ((((True ∧ some k_ ≠ (.slice Ao27 t198.length co27 : Value).ownBlock) ∧ some k_ ≠ (.slice Ao33 t233.length co33 : Value).ownBlock) ∧ some k_ ≠ (.slice Ao42 t214.length co42 : Value).ownBlock) ∧ some k_ ≠ (.slice Ao134 t240.length co134 : Value).ownBlock)) (n := t248.length) (c := co138) ?_).2.2; exact (by (with_reducible repeat (first | apply Kd.R_alloc | apply Kd.R_drewN | apply Kd.R_drew)); exact (Kd.R_mono (Kd.R_far (p := ⟨gb254, 2, none⟩) (Kd.R_far (p := ⟨gb254, 1, none⟩) (Kd.R_far (p := ⟨gb254, 0, none⟩) (Kd.R_types HO250.out BK254.out (by decide)) (fun _ hk => hk.2) (.slice Ao138 t248.length co138)) (fun _ hk => hk.2) (.int .i64 t251)) (fun _ hk => hk.2) (.int .i64 t252)) (fun _ h_ => h_.1)))); (case side2 => exact (Kd.R_reads' HO250.out).2.1); (case side3 => refine (Kd.R_reads' (e := 3) (base := w.heap.size) (ok := fun k_ => (((some k_ ≠ (.slice Ao33 t233.length co33 : Value).ownBlock ∧ some k_ ≠ (.slice Ao42 t214.length co42 : Value).ownBlock) ∧ some k_ ≠ (.slice Ao134 t240.length co134 : Value).ownBlock) ∧ some k_ ≠ (.slice Ao138 t248.length co138 : Value).ownBlock)) (n := t198.length) (c := co27) ?_).2.2; exact (by (with_reducible repeat (first | apply Kd.R_alloc | apply Kd.R_drewN | apply Kd.R_drew)); exact (Kd.R_mono (Kd.R_far (p := ⟨gb254, 2, none⟩) (Kd.R_far (p := ⟨gb254, 1, none⟩) (Kd.R_far (p := ⟨gb254, 0, none⟩) (Kd.R_types HO_205000.out BK254.out (by decide)) (fun _ hk => hk.2) (.slice Ao138 t248.length co138)) (fun _ hk => hk.2) (.int .i64 t251)) (fun _ hk => hk.2) (.int .i64 t252)) (fun _ h_ => h_.1)))); (case side4 => exact (Kd.R_reads' HO_205000.out).2.1); rintro e w165 ⟨rfl, hb⟩; refine ⟨_, rfl, ?_⟩; have n0_ := Aside0.mk (Kd.R_below (by (with_reducible repeat (first | apply Kd.R_alloc | apply Kd.R_drewN | apply Kd.R_drew)); exact (Kd.R_mono (Kd.R_far (p := ⟨gb254, 2, none⟩) (Kd.R_far (p := ⟨gb254, 1, none⟩) (Kd.R_far (p := ⟨gb254, 0, none⟩) (Kd.R_types HO_205000.out BK254.out (by decide)) (fun _ hk => hk.2) (.slice Ao138 t248.length co138)) (fun _ hk => hk.2) (.int .i64 t251)) (fun _ hk => hk.2) (.int .i64 t252)) (fun _ h_ => h_.1))) hb); have n1_ := Aside0.mk (Kd.R_below (by (with_reducible repeat (first | apply Kd.R_alloc | apply Kd.R_drewN | apply Kd.R_drew)); exact (Kd.R_mono (Kd.R_far (p := ⟨gb254, 2, none⟩) (Kd.R_far (p := ⟨gb254, 1, none⟩) (Kd.R_far (p := ⟨gb254, 0, none⟩) (Kd.R_types HO_211000.out BK254.out (by decide)) (fun _ hk => hk.2) (.slice Ao138 t248.length co138)) (fun _ hk => hk.2) (.int .i64 t251)) (fun _ hk => hk.2) (.int .i64 t252)) (fun _ h_ => h_.1))) hb); have n2_ := Aside0.mk (Kd.R_below (by (with_reducible repeat (first | apply Kd.R_alloc | apply Kd.R_drewN | apply Kd.R_drew)); exact (Kd.R_mono (Kd.R_far (p := ⟨gb254, 2, none⟩) (Kd.R_far (p := ⟨gb254, 1, none⟩) (Kd.R_far (p := ⟨gb254, 0, none⟩) (Kd.R_types HO_221000.out BK254.out (by decide)) (fun _ hk => hk.2) (.slice Ao138 t248.length co138)) (fun _ hk => hk.2) (.int .i64 t251)) (fun _ hk => hk.2) (.int .i64 t252)) (fun _ h_ => h_.1))) hb); have n3_ := Aside0.mk (Kd.R_below (by (with_reducible repeat (first | apply Kd.R_alloc | apply Kd.R_drewN | apply Kd.R_drew)); exact (Kd.R_mono (Kd.R_far (p := ⟨gb254, 2, none⟩) (Kd.R_far (p := ⟨gb254, 1, none⟩) (Kd.R_far (p := ⟨gb254, 0, none⟩) (Kd.R_types HO242.out BK254.out (by decide)) (fun _ hk => hk.2) (.slice Ao138 t248.length co138)) (fun _ hk => hk.2) (.int .i64 t251)) (fun _ hk => hk.2) (.int .i64 t252)) (fun _ h_ => h_.1))) hb); have n4_ := Aside0.mk (Kd.R_below (by (with_reducible repeat (first | apply Kd.R_alloc | apply Kd.R_drewN | apply Kd.R_drew)); exact (Kd.R_mono (Kd.R_far (p := ⟨gb254, 2, none⟩) (Kd.R_far (p := ⟨gb254, 1, none⟩) (Kd.R_far (p := ⟨gb254, 0, none⟩) (Kd.R_types HO247.out BK254.out (by decide)) (fun _ hk => hk.2) (.slice Ao138 t248.length co138)) (fun _ hk => hk.2) (.int .i64 t251)) (fun _ hk => hk.2) (.int .i64 t252)) (fun _ h_ => h_.1))) hb); have n5_ := Aside0.mk (Kd.R_below (by (with_reducible repeat (first | apply Kd.R_alloc | apply Kd.R_drewN | apply Kd.R_drew)); exact (Kd.R_mono (Kd.R_far (p := ⟨gb254, 2, none⟩) (Kd.R_far (p := ⟨gb254, 1, none⟩) (Kd.R_far (p := ⟨gb254, 0, none⟩) (Kd.R_types HO250.out BK254.out (by decide)) (fun _ hk => hk.2) (.slice Ao138 t248.length co138)) (fun _ hk => hk.2) (.int .i64 t251)) (fun _ hk => hk.2) (.int .i64 t252)) (fun _ h_ => h_.1))) hb); have n6_ := Aside0.mk (blk_below (g := gb188) (o := .cells #[.slice A0_0 l0_0.length c0_0, .int .i64 a0_1, .int .i64 a0_2] 30 (0, 0)) (by (with_reducible repeat (first | apply blk_drewN | apply blk_drew | apply blk_alloc)); refine blk_far ?_ NB188_254.out _; (with_reducible repeat (first | apply blk_drewN | apply blk_drew | apply blk_alloc)); refine blk_far ?_ NB188_254.out _; (with_reducible repeat (first | apply blk_drewN | apply blk_drew | apply blk_alloc)); refine blk_far ?_ NB188_254.out _; (with_reducible repeat (first | apply blk_drewN | apply blk_drew | apply blk_alloc)); exact BK188.out) hb); have n7_ := Aside0.mk (blk_below (g := gb204) (o := .cells #[.slice Ao27 t198.length co27, .int .i64 t201, .int .i64 t202] 33 (0, 0)) (by (with_reducible repeat (first | apply blk_drewN | apply blk_drew | apply blk_alloc)); refine blk_far ?_ NB204_254.out _; (with_reducible repeat (first | apply blk_drewN | apply blk_drew | apply blk_alloc)); refine blk_far ?_ NB204_254.out _; (with_reducible repeat (first | apply blk_drewN | apply blk_drew | apply blk_alloc)); refine blk_far ?_ NB204_254.out _; (with_reducible repeat (first | apply blk_drewN | apply blk_drew | apply blk_alloc)); exact BK204.out) hb); have n8_ := Aside0.mk (blk_below (g := gb210) (o := .cells #[.slice Ao33 t233.length co33, .int .i64 t208, .int .i64 t209] 33 (0, 0)) (by (with_reducible repeat (first | apply blk_drewN | apply blk_drew | apply blk_alloc)); refine blk_far ?_ NB210_254.out _; (with_reducible repeat (first | apply blk_drewN | apply blk_drew | apply blk_alloc)); refine blk_far ?_ NB210_254.out _; (with_reducible repeat (first | apply blk_drewN | apply blk_drew | apply blk_alloc)); refine blk_far ?_ NB210_254.out _; (with_reducible repeat (first | apply blk_drewN | apply blk_drew | apply blk_alloc)); exact BK210.out) hb); have n9_ := Aside0.mk (blk_below (g := gb220) (o := .cells #[.slice Ao42 t214.length co42, .int .i64 t217, .int .i64 t218] 33 (0, 0)) (by (with_reducible repeat (first | apply blk_drewN | apply blk_drew | apply blk_alloc)); refine blk_far ?_ NB220_254.out _; (with_reducible repeat (first | apply blk_drewN | apply blk_drew | apply blk_alloc)); refine blk_far ?_ NB220_254.out _; (with_reducible repeat (first | apply blk_drewN | apply blk_drew | apply blk_alloc)); refine blk_far ?_ NB220_254.out _; (with_reducible repeat (first | apply blk_drewN | apply blk_drew | apply blk_alloc)); exact BK220.out) hb); have n10_ := Aside0.mk (blk_below (g := gb254) (o := .cells #[.slice Ao138 t248.length co138, .int .i64 t251, .int .i64 t252] 33 (0, 0)) (by (with_reducible repeat (first | apply blk_drewN | apply blk_drew | apply blk_alloc)); refine blk_put (cs := #[.slice Ao138 t248.length co138, .int .i64 t251, .int .i64 0]) ?_ 2 _ rfl; (with_reducible repeat (first | apply blk_drewN | apply blk_drew | apply blk_alloc)); refine blk_put (cs := #[.slice Ao138 t248.length co138, .int .i64 0, .int .i64 0]) ?_ 1 _ rfl; (with_reducible repeat (first | apply blk_drewN | apply blk_drew | apply blk_alloc)); refine blk_put (cs := #[.slice none 0 0, .int .i64 0, .int .i64 0]) ?_ 0 _ rfl; (with_reducible repeat (first | apply blk_drewN | apply blk_drew | apply blk_alloc)); exact BK254.out) hb); have n11_ := Aside0.mk (below_step (by repeat (first | (with_reducible first | exact HB.out | apply below_alloc | apply pw_below_drewN | apply below_drew1 | refine below_set ?_ GE188.out | refine below_set ?_ GE204.out | refine below_set ?_ GE210.out | refine below_set ?_ GE220.out | refine below_set ?_ GE254.out) | exact HB.out)) hb); clear HO_205000; clear HO_211000; clear HO_221000; clear HO242; clear HO247; clear HO250; clear BK188; clear BK204; clear BK210; clear BK220; clear BK254; clear HB; have HO_205000 := n0_; have HO_211000 := n1_; have HO_221000 := n2_; have HO242 := n3_; have HO247 := n4_; have HO250 := n5_; have BK188 := n6_; have BK204 := n7_; have BK210 := n8_; have BK220 := n9_; have BK254 := n10_; have HB := n11_; clear n0_ n1_ n2_ n3_ n4_ n5_ n6_ n7_ n8_ n9_ n10_ n11_; (try clear hb); (try clear hb2); (try clear hk); (try clear hi)))
                              go_meet
                              case rel => exact ⟨_, (true), (by first | rfl | (simp [*]; done)), H', ⟨by have := HJ15.out; have := HJ73.out; first | omega | exact Nat.le_refl _⟩, ⟨by (try simp only [hl211000_73]); (with_reducible repeat (first | apply Kd.R_alloc | apply Kd.R_drewN | apply Kd.R_drew)); exact Kd.R_mono HO_205000.out (fun _ hk => (And.intro (hk.1.1.1) ((And.intro (hk.1.1.2) (hk.2)))))⟩, ⟨by (try simp only [hl211000_73]); (with_reducible repeat (first | apply Kd.R_alloc | apply Kd.R_drewN | apply Kd.R_drew)); exact Kd.R_mono HO_211000.out (fun _ hk => (And.intro (hk.1.1.1) ((And.intro (hk.1.1.2) (hk.2)))))⟩, ⟨by (try simp only [hl211000_73]); (with_reducible repeat (first | apply Kd.R_alloc | apply Kd.R_drewN | apply Kd.R_drew)); exact Kd.R_mono HO_221000.out (fun _ hk => (And.intro (hk.1.1.1) ((And.intro (hk.1.1.2) (hk.2)))))⟩, ⟨by (try simp only [hl211000_73]); (with_reducible repeat (first | apply Kd.R_alloc | apply Kd.R_drewN | apply Kd.R_drew)); exact Kd.R_mono HO250.out (fun _ hk => (And.intro (hk.1.1.1.2) ((And.intro (hk.1.1.2) (hk.1.2)))))⟩, ⟨by (try simp only [hl211000_73]); (with_reducible repeat (first | apply blk_drewN | apply blk_drew | apply blk_alloc)); exact BK188.out⟩, ⟨by (try simp only [hl211000_73]); (with_reducible repeat (first | apply blk_drewN | apply blk_drew | apply blk_alloc)); exact BK204.out⟩, ⟨by (try simp only [hl211000_73]); (with_reducible repeat (first | apply blk_drewN | apply blk_drew | apply blk_alloc)); exact BK210.out⟩, ⟨by (try simp only [hl211000_73]); (with_reducible repeat (first | apply blk_drewN | apply blk_drew | apply blk_alloc)); exact BK220.out⟩, ⟨by (try simp only [hl211000_73]); (with_reducible repeat (first | apply blk_drewN | apply blk_drew | apply blk_alloc)); exact BK254.out⟩, ⟨by repeat (first | (with_reducible first | exact HB.out | apply below_alloc | apply pw_below_drewN | apply below_drew1 | refine below_set ?_ GE188.out | refine below_set ?_ GE204.out | refine below_set ?_ GE210.out | refine below_set ?_ GE220.out | refine below_set ?_ GE254.out) | exact HB.out)⟩⟩
                          case rest =>
                            clear HC121
                            try clear c1
                            try clear c2
                            try clear p2
                            try clear c3
                            try clear c3b0
                            try clear c3b1
                            try clear c4
                            try clear c5
                            try clear c6
                            try clear c6b0
                            try clear c7
                            try clear c8
                            try clear c9
                            try clear c10
                            try clear c11
                            try clear c12
                            try clear c13
                            try clear c14
                            try clear c15
                            try clear c16
                            try clear c20
                            try clear c22
                            try clear c24
                            try clear c28
                            try clear c29
                            try clear c33
                            try clear c34
                            try clear c35
                            try clear c36
                            try clear c37
                            try clear c38
                            try clear c43
                            try clear c44
                            try clear c45
                            try clear c48
                            try clear c49
                            try clear c50
                            try clear c51
                            try clear c53
                            try clear c54
                            try clear c57
                            try clear c58
                            try clear c59
                            try clear c61
                            try clear c62
                            try clear c65
                            try clear c68
                            try clear c71
                            try clear c81
                            try clear c82
                            try clear c83
                            try clear c87
                            try clear c87b0
                            try clear c89
                            try clear c90
                            try clear c91
                            try clear c92
                            try clear c94
                            try clear c95
                            try clear c98
                            try clear c99
                            try clear c100
                            try clear c102
                            try clear c103
                            try clear c106
                            try clear c109
                            try clear c109b0
                            try clear c110
                            try clear c111
                            try clear c112
                            try clear c117
                            try clear c117b0
                            try clear c117b1
                            try clear c122
                            try clear c123
                            try clear c124
                            try clear c129
                            try clear c130
                            try clear c139
                            try clear c140
                            try clear c141
                            try clear c142
                            try clear c145
                            try clear c146
                            try clear c147
                            try clear c148
                            try clear c149
                            try clear c151
                            try clear c152
                            try clear c153
                            try clear c156
                            try clear c157
                            try clear c158
                            try clear c159
                            try clear c161
                            try clear c162
                            try clear c163
                            try clear hcz101_0
                            try clear hcz101_1
                            try clear hcz101_2
                            try clear hcz104_0
                            try clear hcz104_1
                            try clear hcz104_2
                            try clear hcz113_0
                            try clear hcz113_1
                            try clear hcz113_2
                            try clear hcz115_0
                            try clear hcz115_1
                            try clear hcz115_2
                            try clear hcz125_0
                            try clear hcz125_1
                            try clear hcz125_2
                            try clear hcz127_0
                            try clear hcz127_1
                            try clear hcz127_2
                            try clear hcz131_0
                            try clear hcz131_1
                            try clear hcz131_2
                            try clear hcz143_0
                            try clear hcz143_1
                            try clear hcz143_2
                            try clear hcz150_0
                            try clear hcz150_1
                            try clear hcz150_2
                            try clear hcz154_0
                            try clear hcz154_1
                            try clear hcz154_2
                            try clear hcz160_0
                            try clear hcz160_1
                            try clear hcz160_2
                            try clear hcz164_0
                            try clear hcz164_1
                            try clear hcz164_2
                            try clear hcz18_0
                            try clear hcz18_1
                            try clear hcz18_2
                            try clear hcz20_0
                            try clear hcz20_1
                            try clear hcz20_2
                            try clear hcz29_0
                            try clear hcz29_1
                            try clear hcz29_2
                            try clear hcz30_0
                            try clear hcz30_1
                            try clear hcz30_2
                            try clear hcz36_0
                            try clear hcz36_1
                            try clear hcz36_2
                            try clear hcz38_0
                            try clear hcz38_1
                            try clear hcz38_2
                            try clear hcz46_0
                            try clear hcz46_1
                            try clear hcz46_2
                            try clear hcz52_0
                            try clear hcz52_1
                            try clear hcz52_2
                            try clear hcz55_0
                            try clear hcz55_1
                            try clear hcz55_2
                            try clear hcz60_0
                            try clear hcz60_1
                            try clear hcz60_2
                            try clear hcz63_0
                            try clear hcz63_1
                            try clear hcz63_2
                            try clear hcz84_0
                            try clear hcz84_1
                            try clear hcz84_2
                            try clear hcz8_0
                            try clear hcz8_1
                            try clear hcz8_2
                            try clear hcz93_0
                            try clear hcz93_1
                            try clear hcz93_2
                            try clear hcz96_0
                            try clear hcz96_1
                            try clear hcz96_2
                            try clear hfz101_0
                            try clear hfz101_1
                            try clear hfz101_2
                            try clear hfz104_0
                            try clear hfz104_1
                            try clear hfz104_2
                            try clear hfz113_0
                            try clear hfz113_1
                            try clear hfz113_2
                            try clear hfz115_0
                            try clear hfz115_1
                            try clear hfz115_2
                            try clear hfz125_0
                            try clear hfz125_1
                            try clear hfz125_2
                            try clear hfz127_0
                            try clear hfz127_1
                            try clear hfz127_2
                            try clear hfz131_0
                            try clear hfz131_1
                            try clear hfz131_2
                            try clear hfz143_0
                            try clear hfz143_1
                            try clear hfz143_2
                            try clear hfz150_0
                            try clear hfz150_1
                            try clear hfz150_2
                            try clear hfz154_0
                            try clear hfz154_1
                            try clear hfz154_2
                            try clear hfz160_0
                            try clear hfz160_1
                            try clear hfz160_2
                            try clear hfz164_0
                            try clear hfz164_1
                            try clear hfz164_2
                            try clear hfz18_0
                            try clear hfz18_1
                            try clear hfz18_2
                            try clear hfz20_0
                            try clear hfz20_1
                            try clear hfz20_2
                            try clear hfz29_0
                            try clear hfz29_1
                            try clear hfz29_2
                            try clear hfz30_0
                            try clear hfz30_1
                            try clear hfz30_2
                            try clear hfz36_0
                            try clear hfz36_1
                            try clear hfz36_2
                            try clear hfz38_0
                            try clear hfz38_1
                            try clear hfz38_2
                            try clear hfz46_0
                            try clear hfz46_1
                            try clear hfz46_2
                            try clear hfz52_0
                            try clear hfz52_1
                            try clear hfz52_2
                            try clear hfz55_0
                            try clear hfz55_1
                            try clear hfz55_2
                            try clear hfz60_0
                            try clear hfz60_1
                            try clear hfz60_2
                            try clear hfz63_0
                            try clear hfz63_1
                            try clear hfz63_2
                            try clear hfz84_0
                            try clear hfz84_1
                            try clear hfz84_2
                            try clear hfz8_0
                            try clear hfz8_1
                            try clear hfz8_2
                            try clear hfz93_0
                            try clear hfz93_1
                            try clear hfz93_2
                            try clear hfz96_0
                            try clear hfz96_1
                            try clear hfz96_2
                            try clear p2
                            obtain ⟨kq, x108_120, rfl, HA, HJ120, HO_205000, HO_211000, HO_221000, HO_255000, BK188, BK204, BK210, BK220, BK254, HB⟩ := hcut
                            have hl221000_120 := (Kd.R_reads' HO_221000.out).1
                            rw [hl221000_120] at HO_221000
                            (try simp only [hl221000_120])
                            (try simp only [hl221000_120] at BK188)
                            (try simp only [hl221000_120] at BK204)
                            (try simp only [hl221000_120] at BK210)
                            (try simp only [hl221000_120] at BK220)
                            (try simp only [hl221000_120] at BK254)
                            (try simp only [hl221000_120] at HO_205000)
                            (try simp only [hl221000_120] at HO_211000)
                            (try simp only [hl221000_120] at HO_255000)
                            cases kq with
                            | zero => exact absurd HA.out (by simp [laws_FnExactGrant.j2])
                            | succ kj120 =>
                              have H := HA.out
                              clear HA
                              simp only [laws_FnExactGrant.j2] at H
                              by_cases c166 : x108_120 = true
                              · subst c166
                                have H1 : (some false) = some r := by rw [if_pos rfl] at H; exact H
                                clear H
                                have H := H1
                                clear H1
                                obtain rfl := Option.some.inj H
                                go_wp2
                                go_ret
                                exact ⟨by first | rfl | (simp [*] <;> rfl), by repeat (first | (with_reducible first | exact HB.out | apply below_alloc | apply pw_below_drewN | apply below_drew1 | refine below_set ?_ GE188.out | refine below_set ?_ GE204.out | refine below_set ?_ GE210.out | refine below_set ?_ GE220.out | refine below_set ?_ GE254.out) | exact HB.out)⟩
                              · replace c166 := Bool.eq_false_iff.mpr c166
                                subst c166
                                have H1 : ((laws_heldArbiter.f kj120 t238 t217 t218 1).bind fun t256 => (if t256 < 0 then (some false) else (if t256 = t237 then (some true) else (some false)))) = some r := by rw [if_neg (show ¬ (false = true) by decide)] at H; exact H
                                clear H
                                have H := H1
                                clear H1
                                replace H := Option.bind_eq_some_iff.mp H
                                obtain ⟨t256, A1670, H⟩ := H
                                replace H : (if t256 < 0 then (some false) else (if t256 = t237 then (some true) else (some false))) = some r := H
                                have A167 := Aside0.mk A1670
                                clear A1670
                                by_cases c168 : t256 < 0
                                · rw [if_pos c168] at H
                                  have c168b0 : decide (t256 < 0) = true := decide_eq_true c168
                                  clear c168
                                  obtain rfl := Option.some.inj H
                                  have hnb169 := NB220_188.out
                                  have hnc169 := NB188_220.out
                                  have hnb170 := NB220_204.out
                                  have hnc170 := NB204_220.out
                                  have hnb171 := NB220_210.out
                                  have hnc171 := NB210_220.out
                                  have hnb172 := NB220_254.out
                                  have hnc172 := NB254_220.out
                                  have hcz173_0 : wc.cell? ⟨gb220, 0, none⟩ = some (.slice Ao42 t238.length co42) := (blk_cell BK220.out 0).trans rfl
                                  have hcz173_1 : wc.cell? ⟨gb220, 1, none⟩ = some (.int .i64 t217) := (blk_cell BK220.out 1).trans rfl
                                  have hcz173_2 : wc.cell? ⟨gb220, 2, none⟩ = some (.int .i64 t218) := (blk_cell BK220.out 2).trans rfl
                                  have hfz173_0 := blk_frozen BK220.out 0
                                  have hfz173_1 := blk_frozen BK220.out 1
                                  have hfz173_2 := blk_frozen BK220.out 2
                                  go_wp2_with (first | ((with_reducible refine gate_callee (f := 29) rfl ?_); refine goesL_ (some 111) rfl rfl Try.func29 (by kernel_rfl) rfl #[.agg #[.slice Ao42 t238.length co42, .int .i64 t217, .int .i64 t218], .int .i64 1] rfl (by (try simp only [List.map_toArray, List.map_cons, List.map_nil]); first | done | rfl) ?_; (with_reducible refine (laws_heldArbiter.calls kj120 _ _ t238 t217 t218 1 t256 _ ?side1 ?side2 A167.out).mono ?_); (case side1 => repeat (first | exact (Kd.R_reads' HO_221000.out).2.2 | (with_reducible refine Kd.C_alloc ?_ _) | (with_reducible refine Kd.C_drewN ?_ _) | (with_reducible refine Kd.C_drew ?_))); (case side2 => exact (Kd.R_reads' HO_221000.out).2.1); rintro e w174 ⟨rfl, hb⟩; refine ⟨_, rfl, ?_⟩; have n0_ := Aside0.mk (Kd.R_below (by (with_reducible repeat (first | apply Kd.R_alloc | apply Kd.R_drewN | apply Kd.R_drew)); exact HO_205000.out) hb); have n1_ := Aside0.mk (Kd.R_below (by (with_reducible repeat (first | apply Kd.R_alloc | apply Kd.R_drewN | apply Kd.R_drew)); exact HO_211000.out) hb); have n2_ := Aside0.mk (Kd.R_below (by (with_reducible repeat (first | apply Kd.R_alloc | apply Kd.R_drewN | apply Kd.R_drew)); exact HO_221000.out) hb); have n3_ := Aside0.mk (Kd.R_below (by (with_reducible repeat (first | apply Kd.R_alloc | apply Kd.R_drewN | apply Kd.R_drew)); exact HO_255000.out) hb); have n4_ := Aside0.mk (blk_below (g := gb188) (o := .cells #[.slice A0_0 l0_0.length c0_0, .int .i64 a0_1, .int .i64 a0_2] 30 (0, 0)) (by (with_reducible repeat (first | apply blk_drewN | apply blk_drew | apply blk_alloc)); exact BK188.out) hb); have n5_ := Aside0.mk (blk_below (g := gb204) (o := .cells #[.slice Ao27 t198.length co27, .int .i64 t201, .int .i64 t202] 33 (0, 0)) (by (with_reducible repeat (first | apply blk_drewN | apply blk_drew | apply blk_alloc)); exact BK204.out) hb); have n6_ := Aside0.mk (blk_below (g := gb210) (o := .cells #[.slice Ao33 t233.length co33, .int .i64 t208, .int .i64 t209] 33 (0, 0)) (by (with_reducible repeat (first | apply blk_drewN | apply blk_drew | apply blk_alloc)); exact BK210.out) hb); have n7_ := Aside0.mk (blk_below (g := gb220) (o := .cells #[.slice Ao42 t238.length co42, .int .i64 t217, .int .i64 t218] 33 (0, 0)) (by (with_reducible repeat (first | apply blk_drewN | apply blk_drew | apply blk_alloc)); exact BK220.out) hb); have n8_ := Aside0.mk (blk_below (g := gb254) (o := .cells #[.slice Ao138 t248.length co138, .int .i64 t251, .int .i64 t252] 33 (0, 0)) (by (with_reducible repeat (first | apply blk_drewN | apply blk_drew | apply blk_alloc)); exact BK254.out) hb); have n9_ := Aside0.mk (below_step (by repeat (first | (with_reducible first | exact HB.out | apply below_alloc | apply pw_below_drewN | apply below_drew1 | refine below_set ?_ GE188.out | refine below_set ?_ GE204.out | refine below_set ?_ GE210.out | refine below_set ?_ GE220.out | refine below_set ?_ GE254.out) | exact HB.out)) hb); clear HO_205000; clear HO_211000; clear HO_221000; clear HO_255000; clear BK188; clear BK204; clear BK210; clear BK220; clear BK254; clear HB; have HO_205000 := n0_; have HO_211000 := n1_; have HO_221000 := n2_; have HO_255000 := n3_; have BK188 := n4_; have BK204 := n5_; have BK210 := n6_; have BK220 := n7_; have BK254 := n8_; have HB := n9_; clear n0_ n1_ n2_ n3_ n4_ n5_ n6_ n7_ n8_ n9_; (try clear hb); (try clear hb2); (try clear hk); (try clear hi)))
                                  go_ret
                                  exact ⟨by first | rfl | (simp [*] <;> rfl), by repeat (first | (with_reducible first | exact HB.out | apply below_alloc | apply pw_below_drewN | apply below_drew1 | refine below_set ?_ GE188.out | refine below_set ?_ GE204.out | refine below_set ?_ GE210.out | refine below_set ?_ GE220.out | refine below_set ?_ GE254.out) | exact HB.out)⟩
                                · rw [if_neg c168] at H
                                  have c168b0 : decide (t256 < 0) = false := decide_eq_false c168
                                  clear c168
                                  by_cases c175 : t256 = t237
                                  · rw [if_pos c175] at H
                                    have c175b0 : (t256 == t237) = true := beq_iff_eq.mpr c175
                                    have c175b1 : (t256 != t237) = false := bne_eq_false_iff_eq.mpr c175
                                    clear c175
                                    obtain rfl := Option.some.inj H
                                    have hnb176 := NB220_188.out
                                    have hnc176 := NB188_220.out
                                    have hnb177 := NB220_204.out
                                    have hnc177 := NB204_220.out
                                    have hnb178 := NB220_210.out
                                    have hnc178 := NB210_220.out
                                    have hnb179 := NB220_254.out
                                    have hnc179 := NB254_220.out
                                    have hcz180_0 : wc.cell? ⟨gb220, 0, none⟩ = some (.slice Ao42 t238.length co42) := (blk_cell BK220.out 0).trans rfl
                                    have hcz180_1 : wc.cell? ⟨gb220, 1, none⟩ = some (.int .i64 t217) := (blk_cell BK220.out 1).trans rfl
                                    have hcz180_2 : wc.cell? ⟨gb220, 2, none⟩ = some (.int .i64 t218) := (blk_cell BK220.out 2).trans rfl
                                    have hfz180_0 := blk_frozen BK220.out 0
                                    have hfz180_1 := blk_frozen BK220.out 1
                                    have hfz180_2 := blk_frozen BK220.out 2
                                    go_wp2_with (first | ((with_reducible refine gate_callee (f := 29) rfl ?_); refine goesL_ (some 111) rfl rfl Try.func29 (by kernel_rfl) rfl #[.agg #[.slice Ao42 t238.length co42, .int .i64 t217, .int .i64 t218], .int .i64 1] rfl (by (try simp only [List.map_toArray, List.map_cons, List.map_nil]); first | done | rfl) ?_; (with_reducible refine (laws_heldArbiter.calls kj120 _ _ t238 t217 t218 1 t256 _ ?side1 ?side2 A167.out).mono ?_); (case side1 => repeat (first | exact (Kd.R_reads' HO_221000.out).2.2 | (with_reducible refine Kd.C_alloc ?_ _) | (with_reducible refine Kd.C_drewN ?_ _) | (with_reducible refine Kd.C_drew ?_))); (case side2 => exact (Kd.R_reads' HO_221000.out).2.1); rintro e w181 ⟨rfl, hb⟩; refine ⟨_, rfl, ?_⟩; have n0_ := Aside0.mk (Kd.R_below (by (with_reducible repeat (first | apply Kd.R_alloc | apply Kd.R_drewN | apply Kd.R_drew)); exact HO_205000.out) hb); have n1_ := Aside0.mk (Kd.R_below (by (with_reducible repeat (first | apply Kd.R_alloc | apply Kd.R_drewN | apply Kd.R_drew)); exact HO_211000.out) hb); have n2_ := Aside0.mk (Kd.R_below (by (with_reducible repeat (first | apply Kd.R_alloc | apply Kd.R_drewN | apply Kd.R_drew)); exact HO_221000.out) hb); have n3_ := Aside0.mk (Kd.R_below (by (with_reducible repeat (first | apply Kd.R_alloc | apply Kd.R_drewN | apply Kd.R_drew)); exact HO_255000.out) hb); have n4_ := Aside0.mk (blk_below (g := gb188) (o := .cells #[.slice A0_0 l0_0.length c0_0, .int .i64 a0_1, .int .i64 a0_2] 30 (0, 0)) (by (with_reducible repeat (first | apply blk_drewN | apply blk_drew | apply blk_alloc)); exact BK188.out) hb); have n5_ := Aside0.mk (blk_below (g := gb204) (o := .cells #[.slice Ao27 t198.length co27, .int .i64 t201, .int .i64 t202] 33 (0, 0)) (by (with_reducible repeat (first | apply blk_drewN | apply blk_drew | apply blk_alloc)); exact BK204.out) hb); have n6_ := Aside0.mk (blk_below (g := gb210) (o := .cells #[.slice Ao33 t233.length co33, .int .i64 t208, .int .i64 t209] 33 (0, 0)) (by (with_reducible repeat (first | apply blk_drewN | apply blk_drew | apply blk_alloc)); exact BK210.out) hb); have n7_ := Aside0.mk (blk_below (g := gb220) (o := .cells #[.slice Ao42 t238.length co42, .int .i64 t217, .int .i64 t218] 33 (0, 0)) (by (with_reducible repeat (first | apply blk_drewN | apply blk_drew | apply blk_alloc)); exact BK220.out) hb); have n8_ := Aside0.mk (blk_below (g := gb254) (o := .cells #[.slice Ao138 t248.length co138, .int .i64 t251, .int .i64 t252] 33 (0, 0)) (by (with_reducible repeat (first | apply blk_drewN | apply blk_drew | apply blk_alloc)); exact BK254.out) hb); have n9_ := Aside0.mk (below_step (by repeat (first | (with_reducible first | exact HB.out | apply below_alloc | apply pw_below_drewN | apply below_drew1 | refine below_set ?_ GE188.out | refine below_set ?_ GE204.out | refine below_set ?_ GE210.out | refine below_set ?_ GE220.out | refine below_set ?_ GE254.out) | exact HB.out)) hb); clear HO_205000; clear HO_211000; clear HO_221000; clear HO_255000; clear BK188; clear BK204; clear BK210; clear BK220; clear BK254; clear HB; have HO_205000 := n0_; have HO_211000 := n1_; have HO_221000 := n2_; have HO_255000 := n3_; have BK188 := n4_; have BK204 := n5_; have BK210 := n6_; have BK220 := n7_; have BK254 := n8_; have HB := n9_; clear n0_ n1_ n2_ n3_ n4_ n5_ n6_ n7_ n8_ n9_; (try clear hb); (try clear hb2); (try clear hk); (try clear hi)))
                                    go_ret
                                    exact ⟨by first | rfl | (simp [*] <;> rfl), by repeat (first | (with_reducible first | exact HB.out | apply below_alloc | apply pw_below_drewN | apply below_drew1 | refine below_set ?_ GE188.out | refine below_set ?_ GE204.out | refine below_set ?_ GE210.out | refine below_set ?_ GE220.out | refine below_set ?_ GE254.out) | exact HB.out)⟩
                                  · rw [if_neg c175] at H
                                    have c175b0 : (t256 == t237) = false := beq_eq_false_iff_ne.mpr c175
                                    have c175b1 : (t256 != t237) = true := bne_iff_ne.mpr c175
                                    obtain rfl := Option.some.inj H
                                    have hnb182 := NB220_188.out
                                    have hnc182 := NB188_220.out
                                    have hnb183 := NB220_204.out
                                    have hnc183 := NB204_220.out
                                    have hnb184 := NB220_210.out
                                    have hnc184 := NB210_220.out
                                    have hnb185 := NB220_254.out
                                    have hnc185 := NB254_220.out
                                    have hcz186_0 : wc.cell? ⟨gb220, 0, none⟩ = some (.slice Ao42 t238.length co42) := (blk_cell BK220.out 0).trans rfl
                                    have hcz186_1 : wc.cell? ⟨gb220, 1, none⟩ = some (.int .i64 t217) := (blk_cell BK220.out 1).trans rfl
                                    have hcz186_2 : wc.cell? ⟨gb220, 2, none⟩ = some (.int .i64 t218) := (blk_cell BK220.out 2).trans rfl
                                    have hfz186_0 := blk_frozen BK220.out 0
                                    have hfz186_1 := blk_frozen BK220.out 1
                                    have hfz186_2 := blk_frozen BK220.out 2
                                    go_wp2_with (first | ((with_reducible refine gate_callee (f := 29) rfl ?_); refine goesL_ (some 111) rfl rfl Try.func29 (by kernel_rfl) rfl #[.agg #[.slice Ao42 t238.length co42, .int .i64 t217, .int .i64 t218], .int .i64 1] rfl (by (try simp only [List.map_toArray, List.map_cons, List.map_nil]); first | done | rfl) ?_; (with_reducible refine (laws_heldArbiter.calls kj120 _ _ t238 t217 t218 1 t256 _ ?side1 ?side2 A167.out).mono ?_); (case side1 => repeat (first | exact (Kd.R_reads' HO_221000.out).2.2 | (with_reducible refine Kd.C_alloc ?_ _) | (with_reducible refine Kd.C_drewN ?_ _) | (with_reducible refine Kd.C_drew ?_))); (case side2 => exact (Kd.R_reads' HO_221000.out).2.1); rintro e w187 ⟨rfl, hb⟩; refine ⟨_, rfl, ?_⟩; have n0_ := Aside0.mk (Kd.R_below (by (with_reducible repeat (first | apply Kd.R_alloc | apply Kd.R_drewN | apply Kd.R_drew)); exact HO_205000.out) hb); have n1_ := Aside0.mk (Kd.R_below (by (with_reducible repeat (first | apply Kd.R_alloc | apply Kd.R_drewN | apply Kd.R_drew)); exact HO_211000.out) hb); have n2_ := Aside0.mk (Kd.R_below (by (with_reducible repeat (first | apply Kd.R_alloc | apply Kd.R_drewN | apply Kd.R_drew)); exact HO_221000.out) hb); have n3_ := Aside0.mk (Kd.R_below (by (with_reducible repeat (first | apply Kd.R_alloc | apply Kd.R_drewN | apply Kd.R_drew)); exact HO_255000.out) hb); have n4_ := Aside0.mk (blk_below (g := gb188) (o := .cells #[.slice A0_0 l0_0.length c0_0, .int .i64 a0_1, .int .i64 a0_2] 30 (0, 0)) (by (with_reducible repeat (first | apply blk_drewN | apply blk_drew | apply blk_alloc)); exact BK188.out) hb); have n5_ := Aside0.mk (blk_below (g := gb204) (o := .cells #[.slice Ao27 t198.length co27, .int .i64 t201, .int .i64 t202] 33 (0, 0)) (by (with_reducible repeat (first | apply blk_drewN | apply blk_drew | apply blk_alloc)); exact BK204.out) hb); have n6_ := Aside0.mk (blk_below (g := gb210) (o := .cells #[.slice Ao33 t233.length co33, .int .i64 t208, .int .i64 t209] 33 (0, 0)) (by (with_reducible repeat (first | apply blk_drewN | apply blk_drew | apply blk_alloc)); exact BK210.out) hb); have n7_ := Aside0.mk (blk_below (g := gb220) (o := .cells #[.slice Ao42 t238.length co42, .int .i64 t217, .int .i64 t218] 33 (0, 0)) (by (with_reducible repeat (first | apply blk_drewN | apply blk_drew | apply blk_alloc)); exact BK220.out) hb); have n8_ := Aside0.mk (blk_below (g := gb254) (o := .cells #[.slice Ao138 t248.length co138, .int .i64 t251, .int .i64 t252] 33 (0, 0)) (by (with_reducible repeat (first | apply blk_drewN | apply blk_drew | apply blk_alloc)); exact BK254.out) hb); have n9_ := Aside0.mk (below_step (by repeat (first | (with_reducible first | exact HB.out | apply below_alloc | apply pw_below_drewN | apply below_drew1 | refine below_set ?_ GE188.out | refine below_set ?_ GE204.out | refine below_set ?_ GE210.out | refine below_set ?_ GE220.out | refine below_set ?_ GE254.out) | exact HB.out)) hb); clear HO_205000; clear HO_211000; clear HO_221000; clear HO_255000; clear BK188; clear BK204; clear BK210; clear BK220; clear BK254; clear HB; have HO_205000 := n0_; have HO_211000 := n1_; have HO_221000 := n2_; have HO_255000 := n3_; have BK188 := n4_; have BK204 := n5_; have BK210 := n6_; have BK220 := n7_; have BK254 := n8_; have HB := n9_; clear n0_ n1_ n2_ n3_ n4_ n5_ n6_ n7_ n8_ n9_; (try clear hb); (try clear hb2); (try clear hk); (try clear hi)))
                                    go_ret
                                    exact ⟨by first | rfl | (simp [*] <;> rfl), by repeat (first | (with_reducible first | exact HB.out | apply below_alloc | apply pw_below_drewN | apply below_drew1 | refine below_set ?_ GE188.out | refine below_set ?_ GE204.out | refine below_set ?_ GE210.out | refine below_set ?_ GE220.out | refine below_set ?_ GE254.out) | exact HB.out)⟩
                        · rw [if_neg c117] at H
                          have c117b0 : (t239 == t237) = false := beq_eq_false_iff_ne.mpr c117
                          have c117b1 : (t239 != t237) = true := bne_iff_ne.mpr c117
                          obtain rfl := Option.some.inj H
                          have hnb188 := NB220_188.out
                          have hnc188 := NB188_220.out
                          have hnb189 := NB220_204.out
                          have hnc189 := NB204_220.out
                          have hnb190 := NB220_210.out
                          have hnc190 := NB210_220.out
                          have hcz191_0 : wc.cell? ⟨gb220, 0, none⟩ = some (.slice Ao42 t214.length co42) := (blk_cell BK220.out 0).trans rfl
                          have hcz191_1 : wc.cell? ⟨gb220, 1, none⟩ = some (.int .i64 t217) := (blk_cell BK220.out 1).trans rfl
                          have hcz191_2 : wc.cell? ⟨gb220, 2, none⟩ = some (.int .i64 t218) := (blk_cell BK220.out 2).trans rfl
                          have hfz191_0 := blk_frozen BK220.out 0
                          have hfz191_1 := blk_frozen BK220.out 1
                          have hfz191_2 := blk_frozen BK220.out 2
                          go_wp2_with (first | ((with_reducible refine gate_callee (f := 28) rfl ?_); refine goesL_ (some 83) rfl rfl Try.func28 (by kernel_rfl) rfl #[.agg #[.slice Ao42 t214.length co42, .int .i64 t217, .int .i64 t218], .int .i64 1] rfl (by (try simp only [List.map_toArray, List.map_cons, List.map_nil]); first | done | rfl) ?_; (with_reducible refine (laws_markArbiter.calls kj73 (fun k_ => some k_ = (.slice Ao42 t214.length co42 : Value).ownBlock) (.slice Ao42 t214.length co42) t214 t217 t218 1 t237 t238 w _ ?side1 ?side2 A107.out).mono ?_); (case side1 => repeat (first | (with_reducible first | exact HB.out | apply below_alloc | apply pw_below_drewN | apply below_drew1 | refine below_set ?_ GE188.out | refine below_set ?_ GE204.out | refine below_set ?_ GE210.out | refine below_set ?_ GE220.out) | exact HB.out)); (case side2 => exact Kd.R_tight rfl HO_221000.out); rintro e w192 ⟨rfl, hy0, hb, hkp⟩; refine ⟨_, rfl, ?_⟩; have n0_ := Aside0.mk (Kd.R_mono (ok' := fun k_ => some k_ ≠ (.slice Ao33 t233.length co33 : Value).ownBlock ∧ some k_ ≠ (.slice Ao42 t214.length co42 : Value).ownBlock) (Kd.R_keptB (HO_205000.out) hkp (fun k_ hk_ hs_ => by first | exact (hk_.2) hs_ | (revert hs_; simp only [ne_eq, hk_, false_imp_iff]))) (fun k_ hk_ => by first | exact ⟨hk_.1.1, hk_.1.2⟩ | simp only [ne_eq, hk_, not_false_eq_true, and_self, true_and, and_true])); have n1_ := Aside0.mk (Kd.R_mono (ok' := fun k_ => some k_ ≠ (.slice Ao27 t198.length co27 : Value).ownBlock ∧ some k_ ≠ (.slice Ao42 t214.length co42 : Value).ownBlock) (Kd.R_keptB (HO_211000.out) hkp (fun k_ hk_ hs_ => by first | exact (hk_.2) hs_ | (revert hs_; simp only [ne_eq, hk_, false_imp_iff]))) (fun k_ hk_ => by first | exact ⟨hk_.1.1, hk_.1.2⟩ | simp only [ne_eq, hk_, not_false_eq_true, and_self, true_and, and_true])); have n2_ := Aside0.mk (Kd.R_reok rfl hy0 (fun k_ e_ => HO_221000.out.1 k_ e_)); have n3_ := Aside0.mk (blk_kept (by (with_reducible repeat (first | apply blk_drewN | apply blk_drew | apply blk_alloc)); exact BK188.out) hkp (fun hs_ => (fun e_ => (Kd.R_ne HO_221000.out BK188.out (by decide)) e_) hs_)); have n4_ := Aside0.mk (blk_kept (by (with_reducible repeat (first | apply blk_drewN | apply blk_drew | apply blk_alloc)); exact BK204.out) hkp (fun hs_ => (fun e_ => (Kd.R_ne HO_221000.out BK204.out (by decide)) e_) hs_)); have n5_ := Aside0.mk (blk_kept (by (with_reducible repeat (first | apply blk_drewN | apply blk_drew | apply blk_alloc)); exact BK210.out) hkp (fun hs_ => (fun e_ => (Kd.R_ne HO_221000.out BK210.out (by decide)) e_) hs_)); have n6_ := Aside0.mk (blk_kept (by (with_reducible repeat (first | apply blk_drewN | apply blk_drew | apply blk_alloc)); exact BK220.out) hkp (fun hs_ => (fun e_ => (Kd.R_ne HO_221000.out BK220.out (by decide)) e_) hs_)); have n7_ := Aside0.mk (hb); clear HO_205000; clear HO_211000; clear HO_221000; clear BK188; clear BK204; clear BK210; clear BK220; clear HB; have HO_205000 := n0_; have HO_211000 := n1_; have HO_221000 := n2_; have BK188 := n3_; have BK204 := n4_; have BK210 := n5_; have BK220 := n6_; have HB := n7_; clear n0_ n1_ n2_ n3_ n4_ n5_ n6_ n7_; (try clear hb); (try clear hkp); (try clear hy0); have hcz193_0 : w192.cell? ⟨gb220, 0, none⟩ = some (.slice Ao42 t214.length co42) := (blk_cell BK220.out 0).trans rfl; have hcz193_1 : w192.cell? ⟨gb220, 1, none⟩ = some (.int .i64 t217) := (blk_cell BK220.out 1).trans rfl; have hcz193_2 : w192.cell? ⟨gb220, 2, none⟩ = some (.int .i64 t218) := (blk_cell BK220.out 2).trans rfl; have hfz193_0 := blk_frozen BK220.out 0; have hfz193_1 := blk_frozen BK220.out 1; have hfz193_2 := blk_frozen BK220.out 2) | ((with_reducible refine gate_callee (f := 29) rfl ?_); refine goesL_ (some 86) rfl rfl Try.func29 (by kernel_rfl) rfl #[.agg #[.slice Ao42 t238.length co42, .int .i64 t217, .int .i64 t218], .int .i64 1] rfl (by (try simp only [List.map_toArray, List.map_cons, List.map_nil]); first | done | (rw [show t238.length = t214.length from (Kd.R_reads' HO_221000.out).1.symm] <;> rfl) | rfl | (simp only [List.length_drop, List.length_take]; rfl)) ?_; (with_reducible refine (laws_heldArbiter.calls kj73 _ _ t238 t217 t218 1 t239 _ ?side1 ?side2 A108.out).mono ?_); (case side1 => repeat (first | exact (Kd.R_reads' HO_221000.out).2.2 | (with_reducible refine Kd.C_alloc ?_ _) | (with_reducible refine Kd.C_drewN ?_ _) | (with_reducible refine Kd.C_drew ?_))); (case side2 => rw [show t238.length = t214.length from (Kd.R_reads' HO_221000.out).1.symm]; exact (Kd.R_reads' HO_221000.out).2.1); rintro e w194 ⟨rfl, hb⟩; refine ⟨_, rfl, ?_⟩; have n0_ := Aside0.mk (Kd.R_below (by (with_reducible repeat (first | apply Kd.R_alloc | apply Kd.R_drewN | apply Kd.R_drew)); exact HO_205000.out) hb); have n1_ := Aside0.mk (Kd.R_below (by (with_reducible repeat (first | apply Kd.R_alloc | apply Kd.R_drewN | apply Kd.R_drew)); exact HO_211000.out) hb); have n2_ := Aside0.mk (Kd.R_below (by (with_reducible repeat (first | apply Kd.R_alloc | apply Kd.R_drewN | apply Kd.R_drew)); exact HO_221000.out) hb); have n3_ := Aside0.mk (blk_below (g := gb188) (o := .cells #[.slice A0_0 l0_0.length c0_0, .int .i64 a0_1, .int .i64 a0_2] 30 (0, 0)) (by (with_reducible repeat (first | apply blk_drewN | apply blk_drew | apply blk_alloc)); exact BK188.out) hb); have n4_ := Aside0.mk (blk_below (g := gb204) (o := .cells #[.slice Ao27 t198.length co27, .int .i64 t201, .int .i64 t202] 33 (0, 0)) (by (with_reducible repeat (first | apply blk_drewN | apply blk_drew | apply blk_alloc)); exact BK204.out) hb); have n5_ := Aside0.mk (blk_below (g := gb210) (o := .cells #[.slice Ao33 t233.length co33, .int .i64 t208, .int .i64 t209] 33 (0, 0)) (by (with_reducible repeat (first | apply blk_drewN | apply blk_drew | apply blk_alloc)); exact BK210.out) hb); have n6_ := Aside0.mk (blk_below (g := gb220) (o := .cells #[.slice Ao42 t214.length co42, .int .i64 t217, .int .i64 t218] 33 (0, 0)) (by (with_reducible repeat (first | apply blk_drewN | apply blk_drew | apply blk_alloc)); exact BK220.out) hb); have n7_ := Aside0.mk (below_step (by repeat (first | (with_reducible first | exact HB.out | apply below_alloc | apply pw_below_drewN | apply below_drew1 | refine below_set ?_ GE188.out | refine below_set ?_ GE204.out | refine below_set ?_ GE210.out | refine below_set ?_ GE220.out) | exact HB.out)) hb); clear HO_205000; clear HO_211000; clear HO_221000; clear BK188; clear BK204; clear BK210; clear BK220; clear HB; have HO_205000 := n0_; have HO_211000 := n1_; have HO_221000 := n2_; have BK188 := n3_; have BK204 := n4_; have BK210 := n5_; have BK220 := n6_; have HB := n7_; clear n0_ n1_ n2_ n3_ n4_ n5_ n6_ n7_; (try clear hb); (try clear hb2); (try clear hk); (try clear hi)))
                          go_ret
                          exact ⟨by first | rfl | (simp [*] <;> rfl), by repeat (first | (with_reducible first | exact HB.out | apply below_alloc | apply pw_below_drewN | apply below_drew1 | refine below_set ?_ GE188.out | refine below_set ?_ GE204.out | refine below_set ?_ GE210.out | refine below_set ?_ GE220.out) | exact HB.out)⟩
              · replace c71 := Bool.eq_false_iff.mpr c71
                subst c71
                have H1 : (some false) = some r := by rw [if_neg (show ¬ (false = true) by decide)] at H; exact H
                clear H
                have H := H1
                clear H1
                obtain rfl := Option.some.inj H
                try go_wp2
                have n0_ := Aside0.mk (Kd.R_drew HO_9.out)
                have n1_ := Aside0.mk (Kd.R_drew HO_205000.out)
                have n2_ := Aside0.mk (Kd.R_drew HO_211000.out)
                have n3_ := Aside0.mk (Kd.R_drew HO_221000.out)
                have n4_ := Aside0.mk (blk_drew BK188.out)
                have n5_ := Aside0.mk (blk_drew BK204.out)
                have n6_ := Aside0.mk (blk_drew BK210.out)
                have n7_ := Aside0.mk (blk_drew BK220.out)
                have n8_ := Aside0.mk (below_drew1 HB.out)
                clear HO_9
                clear HO_205000
                clear HO_211000
                clear HO_221000
                clear BK188
                clear BK204
                clear BK210
                clear BK220
                clear HB
                have HO_9 := n0_
                have HO_205000 := n1_
                have HO_211000 := n2_
                have HO_221000 := n3_
                have BK188 := n4_
                have BK204 := n5_
                have BK210 := n6_
                have BK220 := n7_
                have HB := n8_
                clear n0_ n1_ n2_ n3_ n4_ n5_ n6_ n7_ n8_
                refine start_ (n := 5) (S := fun w' => w'.cell? ⟨gb210, 0, none⟩ = some (.slice Ao33 t205.length co33) ∧ w'.cell? ⟨gb210, 1, none⟩ = some (.int .i64 t208) ∧ w'.cell? ⟨gb210, 2, none⟩ = some (.int .i64 t209) ∧ w'.cell? ⟨gb188, 0, none⟩ = some (.slice A0_0 l0_0.length c0_0) ∧ w'.cell? ⟨gb188, 1, none⟩ = some (.int .i64 a0_1) ∧ w'.cell? ⟨gb188, 2, none⟩ = some (.int .i64 a0_2)) (ds := []) #[false, false, false, false, false] (by kernel_rfl) rfl rfl ⟨(blk_cell BK210.out 0).trans rfl, (blk_cell BK210.out 1).trans rfl, (blk_cell BK210.out 2).trans rfl, (blk_cell BK188.out 0).trans rfl, (blk_cell BK188.out 1).trans rfl, (blk_cell BK188.out 2).trans rfl⟩ (fun hHeld => ?_)
                generalize wc.drew = w195 at HO_9 HO_205000 HO_211000 HO_221000 BK188 BK204 BK210 BK220 HB hHeld ⊢
                refine take_ (i := 0) (N := some 52) (v := ?_) (a' := ?_) #[true, false, false, false, false] rfl rfl (by kernel_rfl) (fun _ _ _ h => h) (Or.inl ⟨by rfl, ?_⟩) hHeld ?_ ?_
                rotate_left
                · rintro w' ⟨s0, s1, s2, s3, s4, s5⟩
                  go_simp
                  with_reducible rfl
                rotate_left
                · simp only [Act.put, List.setIfInBounds_toArray, List.set_cons_zero, List.set_cons_succ, i64_w, i32_w]
                  rfl
                refine take_ (i := 1) (N := some 53) (v := ?_) (a' := ?_) #[true, true, false, false, false] rfl rfl (by kernel_rfl) (fun _ _ _ h => h) (Or.inl ⟨by rfl, ?_⟩) hHeld ?_ ?_
                rotate_left
                · rintro w' ⟨s0, s1, s2, s3, s4, s5⟩
                  go_simp
                  with_reducible rfl
                rotate_left
                · simp only [Act.put, List.setIfInBounds_toArray, List.set_cons_zero, List.set_cons_succ, i64_w, i32_w]
                  rfl
                refine one_ (i := 2) (N := some 54) #[true, true, true, false, false] rfl rfl (by kernel_rfl) (by decide) (fun K hK => ?_)
                refine goes_ Try.func22 (by kernel_rfl) rfl #[.agg #[.slice A0_0 l0_0.length c0_0, .int .i64 a0_1, .int .i64 a0_2]] (by rfl) rfl rfl (by (try simp only [List.map_toArray, List.map_cons, List.map_nil]); first | done | rfl) ?_
                with_reducible refine (laws_toArbiter.calls kj15 _ _ l0_0 a0_1 a0_2 t222 t225 t226 _ ?side1 ?side2 A66.out).mono ?_
                (case side1 => repeat (first | exact (Kd.C_below HR0_0.out HB.out) | (with_reducible refine Kd.C_alloc ?_ _) | (with_reducible refine Kd.C_drewN ?_ _) | (with_reducible refine Kd.C_drew ?_)))
                (case side2 => exact HC0_0.out)
                rintro e w196 ⟨v223, rfl, ho0, hb⟩
                refine ⟨_, rfl, ?_⟩
                have n0_ := Aside0.mk (Kd.R_below (by (with_reducible repeat (first | apply Kd.R_alloc | apply Kd.R_drewN | apply Kd.R_drew)); exact HO_9.out) hb)
                have n1_ := Aside0.mk (Kd.R_elder' (by (with_reducible repeat (first | apply Kd.R_alloc | apply Kd.R_drewN | apply Kd.R_drew)); exact HO_205000.out) (Kd.R_base ho0) hb)
                have n2_ := Aside0.mk (Kd.R_elder' (by (with_reducible repeat (first | apply Kd.R_alloc | apply Kd.R_drewN | apply Kd.R_drew)); exact HO_211000.out) (Kd.R_base ho0) hb)
                have n3_ := Aside0.mk (Kd.R_elder' (by (with_reducible repeat (first | apply Kd.R_alloc | apply Kd.R_drewN | apply Kd.R_drew)); exact HO_221000.out) (Kd.R_base ho0) hb)
                have n4_ := Aside0.mk (Kd.R_lower (Kd.R_new' (Kd.R_new' (Kd.R_new' ho0 (Kd.R_lt (by (with_reducible repeat (first | apply Kd.R_alloc | apply Kd.R_drewN | apply Kd.R_drew)); exact HO_205000.out))) (Kd.R_lt (by (with_reducible repeat (first | apply Kd.R_alloc | apply Kd.R_drewN | apply Kd.R_drew)); exact HO_211000.out))) (Kd.R_lt (by (with_reducible repeat (first | apply Kd.R_alloc | apply Kd.R_drewN | apply Kd.R_drew)); exact HO_221000.out))) (below_size (by repeat (first | (with_reducible first | exact HB.out | apply below_alloc | apply pw_below_drewN | apply below_drew1 | refine below_set ?_ GE188.out | refine below_set ?_ GE204.out | refine below_set ?_ GE210.out | refine below_set ?_ GE220.out) | exact HB.out))))
                have n5_ := Aside0.mk (blk_below (g := gb188) (o := .cells #[.slice A0_0 l0_0.length c0_0, .int .i64 a0_1, .int .i64 a0_2] 30 (0, 0)) (by (with_reducible repeat (first | apply blk_drewN | apply blk_drew | apply blk_alloc)); exact BK188.out) hb)
                have n6_ := Aside0.mk (blk_below (g := gb204) (o := .cells #[.slice Ao27 t198.length co27, .int .i64 t201, .int .i64 t202] 33 (0, 0)) (by (with_reducible repeat (first | apply blk_drewN | apply blk_drew | apply blk_alloc)); exact BK204.out) hb)
                have n7_ := Aside0.mk (blk_below (g := gb210) (o := .cells #[.slice Ao33 t205.length co33, .int .i64 t208, .int .i64 t209] 33 (0, 0)) (by (with_reducible repeat (first | apply blk_drewN | apply blk_drew | apply blk_alloc)); exact BK210.out) hb)
                have n8_ := Aside0.mk (blk_below (g := gb220) (o := .cells #[.slice Ao42 t214.length co42, .int .i64 t217, .int .i64 t218] 33 (0, 0)) (by (with_reducible repeat (first | apply blk_drewN | apply blk_drew | apply blk_alloc)); exact BK220.out) hb)
                have n9_ := Aside0.mk (below_step (by repeat (first | (with_reducible first | exact HB.out | apply below_alloc | apply pw_below_drewN | apply below_drew1 | refine below_set ?_ GE188.out | refine below_set ?_ GE204.out | refine below_set ?_ GE210.out | refine below_set ?_ GE220.out) | exact HB.out)) hb)
                clear HO_9
                clear HO_205000
                clear HO_211000
                clear HO_221000
                clear BK188
                clear BK204
                clear BK210
                clear BK220
                clear HB
                have HO_9 := n0_
                have HO_205000 := n1_
                have HO_211000 := n2_
                have HO_221000 := n3_
                have HO224 := n4_
                have BK188 := n5_
                have BK204 := n6_
                have BK210 := n7_
                have BK220 := n8_
                have HB := n9_
                clear n0_ n1_ n2_ n3_ n4_ n5_ n6_ n7_ n8_ n9_
                (try clear hb)
                (try clear hb2)
                (try clear hk)
                (try clear hi)
                (try clear ho0)
                obtain ⟨Ao197, co197, eo197⟩ := Kd.R_slice HO224.out
                (first | subst eo197 | (injection eo197 with f1_ f2_ f3_; have f4_ := f1_.symm; have f5_ := f3_.symm; clear f1_ f2_ f3_; subst f4_; subst f5_))
                refine hK.out _ _ ⟨(blk_cell BK210.out 0).trans rfl, (blk_cell BK210.out 1).trans rfl, (blk_cell BK210.out 2).trans rfl, (blk_cell BK188.out 0).trans rfl, (blk_cell BK188.out 1).trans rfl, (blk_cell BK188.out 2).trans rfl⟩ (fun hHeld => ?_)
                clear hK K
                refine norm_ (a' := ?_) ?_ ?_
                rotate_left
                · show Act.put _ (some 54) _ = _
                  simp only [Act.put, List.setIfInBounds_toArray, List.set_cons_zero, List.set_cons_succ, i64_w, i32_w]
                  rfl
                refine one_ (i := 3) (N := some 55) #[true, true, true, true, false] rfl rfl (by kernel_rfl) (by decide) (fun K hK => ?_)
                refine goes_ Try.func24 (by kernel_rfl) rfl #[.agg #[.slice Ao33 t205.length co33, .int .i64 t208, .int .i64 t209], .agg #[.slice Ao197 t222.length co197, .int .i64 t225, .int .i64 t226]] (by rfl) rfl rfl (by (try simp only [List.map_toArray, List.map_cons, List.map_nil]); first | done | rfl) ?_
                with_reducible refine (laws_eqArbiter.calls kj15 _ _ t205 t208 t209 _ _ t222 t225 t226 true _ ?side1 ?side2 ?side3 ?side4 A67.out).mono ?_
                (case side1 => repeat (first | exact (Kd.R_reads' HO_211000.out).2.2 | (with_reducible refine Kd.C_alloc ?_ _) | (with_reducible refine Kd.C_drewN ?_ _) | (with_reducible refine Kd.C_drew ?_)))
                (case side2 => exact (Kd.R_reads' HO_211000.out).2.1)
                (case side3 => repeat (first | exact (Kd.R_reads' HO224.out).2.2 | (with_reducible refine Kd.C_alloc ?_ _) | (with_reducible refine Kd.C_drewN ?_ _) | (with_reducible refine Kd.C_drew ?_)))
                (case side4 => exact (Kd.R_reads' HO224.out).2.1)
                rintro e w198 ⟨rfl, hb⟩
                refine ⟨_, rfl, ?_⟩
                have n0_ := Aside0.mk (Kd.R_below (by (with_reducible repeat (first | apply Kd.R_alloc | apply Kd.R_drewN | apply Kd.R_drew)); exact HO_9.out) hb)
                have n1_ := Aside0.mk (Kd.R_below (by (with_reducible repeat (first | apply Kd.R_alloc | apply Kd.R_drewN | apply Kd.R_drew)); exact HO_205000.out) hb)
                have n2_ := Aside0.mk (Kd.R_below (by (with_reducible repeat (first | apply Kd.R_alloc | apply Kd.R_drewN | apply Kd.R_drew)); exact HO_211000.out) hb)
                have n3_ := Aside0.mk (Kd.R_below (by (with_reducible repeat (first | apply Kd.R_alloc | apply Kd.R_drewN | apply Kd.R_drew)); exact HO_221000.out) hb)
                have n4_ := Aside0.mk (Kd.R_below (by (with_reducible repeat (first | apply Kd.R_alloc | apply Kd.R_drewN | apply Kd.R_drew)); exact HO224.out) hb)
                have n5_ := Aside0.mk (blk_below (g := gb188) (o := .cells #[.slice A0_0 l0_0.length c0_0, .int .i64 a0_1, .int .i64 a0_2] 30 (0, 0)) (by (with_reducible repeat (first | apply blk_drewN | apply blk_drew | apply blk_alloc)); exact BK188.out) hb)
                have n6_ := Aside0.mk (blk_below (g := gb204) (o := .cells #[.slice Ao27 t198.length co27, .int .i64 t201, .int .i64 t202] 33 (0, 0)) (by (with_reducible repeat (first | apply blk_drewN | apply blk_drew | apply blk_alloc)); exact BK204.out) hb)
                have n7_ := Aside0.mk (blk_below (g := gb210) (o := .cells #[.slice Ao33 t205.length co33, .int .i64 t208, .int .i64 t209] 33 (0, 0)) (by (with_reducible repeat (first | apply blk_drewN | apply blk_drew | apply blk_alloc)); exact BK210.out) hb)
                have n8_ := Aside0.mk (blk_below (g := gb220) (o := .cells #[.slice Ao42 t214.length co42, .int .i64 t217, .int .i64 t218] 33 (0, 0)) (by (with_reducible repeat (first | apply blk_drewN | apply blk_drew | apply blk_alloc)); exact BK220.out) hb)
                have n9_ := Aside0.mk (below_step (by repeat (first | (with_reducible first | exact HB.out | apply below_alloc | apply pw_below_drewN | apply below_drew1 | refine below_set ?_ GE188.out | refine below_set ?_ GE204.out | refine below_set ?_ GE210.out | refine below_set ?_ GE220.out) | exact HB.out)) hb)
                clear HO_9
                clear HO_205000
                clear HO_211000
                clear HO_221000
                clear HO224
                clear BK188
                clear BK204
                clear BK210
                clear BK220
                clear HB
                have HO_9 := n0_
                have HO_205000 := n1_
                have HO_211000 := n2_
                have HO_221000 := n3_
                have HO224 := n4_
                have BK188 := n5_
                have BK204 := n6_
                have BK210 := n7_
                have BK220 := n8_
                have HB := n9_
                clear n0_ n1_ n2_ n3_ n4_ n5_ n6_ n7_ n8_ n9_
                (try clear hb)
                (try clear hb2)
                (try clear hk)
                (try clear hi)
                refine hK.out _ _ ⟨(blk_cell BK210.out 0).trans rfl, (blk_cell BK210.out 1).trans rfl, (blk_cell BK210.out 2).trans rfl, (blk_cell BK188.out 0).trans rfl, (blk_cell BK188.out 1).trans rfl, (blk_cell BK188.out 2).trans rfl⟩ (fun hHeld => ?_)
                clear hK K
                refine norm_ (a' := ?_) ?_ ?_
                rotate_left
                · show Act.put _ (some 55) _ = _
                  simp only [Act.put, List.setIfInBounds_toArray, List.set_cons_zero, List.set_cons_succ, i64_w, i32_w]
                  rfl
                refine pure_ (i := 4) (N := some 56) (v := ?_) (a' := ?_) #[true, true, true, true, true] rfl rfl (by kernel_rfl) (fun _ _ _ h => h) (Or.inl ⟨by rfl, ?_⟩) ?_ ?_
                rotate_left
                · intro w'
                  go_simp
                  with_reducible rfl
                rotate_left
                · simp only [Act.put, List.setIfInBounds_toArray, List.set_cons_zero, List.set_cons_succ, i64_w, i32_w]
                  rfl
                refine done_ (by kernel_rfl) ?_
                try go_wp2_with (first | ((with_reducible refine gate_callee (f := 36) rfl ?_); refine goesL_ (some 59) rfl rfl Try.func36 (by kernel_rfl) rfl #[.slice A1 l1.length c1] rfl (by (try simp only [List.map_toArray, List.map_cons, List.map_nil]); first | done | rfl) ?_; (with_reducible refine (laws_toBoolS.calls kj15 _ _ l1 t228 _ ?side1 ?side2 A69.out).mono ?_); (case side1 => repeat (first | exact (Kd.C_below HR1.out HB.out) | (with_reducible refine Kd.C_alloc ?_ _) | (with_reducible refine Kd.C_drewN ?_ _) | (with_reducible refine Kd.C_drew ?_))); (case side2 => exact HC1.out); rintro e w199 ⟨v229, rfl, ho0, hb⟩; refine ⟨_, rfl, ?_⟩; have n0_ := Aside0.mk (Kd.R_elder' (by (with_reducible repeat (first | apply Kd.R_alloc | apply Kd.R_drewN | apply Kd.R_drew)); exact HO_9.out) (Kd.R_base ho0) hb); have n1_ := Aside0.mk (Kd.R_below (by (with_reducible repeat (first | apply Kd.R_alloc | apply Kd.R_drewN | apply Kd.R_drew)); exact HO_205000.out) hb); have n2_ := Aside0.mk (Kd.R_below (by (with_reducible repeat (first | apply Kd.R_alloc | apply Kd.R_drewN | apply Kd.R_drew)); exact HO_211000.out) hb); have n3_ := Aside0.mk (Kd.R_below (by (with_reducible repeat (first | apply Kd.R_alloc | apply Kd.R_drewN | apply Kd.R_drew)); exact HO_221000.out) hb); have n4_ := Aside0.mk (Kd.R_below (by (with_reducible repeat (first | apply Kd.R_alloc | apply Kd.R_drewN | apply Kd.R_drew)); exact HO224.out) hb); have n5_ := Aside0.mk (Kd.R_lower (Kd.R_new' ho0 (Kd.R_lt (by (with_reducible repeat (first | apply Kd.R_alloc | apply Kd.R_drewN | apply Kd.R_drew)); exact HO_9.out))) (below_size (by repeat (first | (with_reducible first | exact HB.out | apply below_alloc | apply pw_below_drewN | apply below_drew1 | refine below_set ?_ GE188.out | refine below_set ?_ GE204.out | refine below_set ?_ GE210.out | refine below_set ?_ GE220.out) | exact HB.out)))); have n6_ := Aside0.mk (blk_below (g := gb188) (o := .cells #[.slice A0_0 l0_0.length c0_0, .int .i64 a0_1, .int .i64 a0_2] 30 (0, 0)) (by (with_reducible repeat (first | apply blk_drewN | apply blk_drew | apply blk_alloc)); exact BK188.out) hb); have n7_ := Aside0.mk (blk_below (g := gb204) (o := .cells #[.slice Ao27 t198.length co27, .int .i64 t201, .int .i64 t202] 33 (0, 0)) (by (with_reducible repeat (first | apply blk_drewN | apply blk_drew | apply blk_alloc)); exact BK204.out) hb); have n8_ := Aside0.mk (blk_below (g := gb210) (o := .cells #[.slice Ao33 t205.length co33, .int .i64 t208, .int .i64 t209] 33 (0, 0)) (by (with_reducible repeat (first | apply blk_drewN | apply blk_drew | apply blk_alloc)); exact BK210.out) hb); have n9_ := Aside0.mk (blk_below (g := gb220) (o := .cells #[.slice Ao42 t214.length co42, .int .i64 t217, .int .i64 t218] 33 (0, 0)) (by (with_reducible repeat (first | apply blk_drewN | apply blk_drew | apply blk_alloc)); exact BK220.out) hb); have n10_ := Aside0.mk (below_step (by repeat (first | (with_reducible first | exact HB.out | apply below_alloc | apply pw_below_drewN | apply below_drew1 | refine below_set ?_ GE188.out | refine below_set ?_ GE204.out | refine below_set ?_ GE210.out | refine below_set ?_ GE220.out) | exact HB.out)) hb); clear HO_9; clear HO_205000; clear HO_211000; clear HO_221000; clear HO224; clear BK188; clear BK204; clear BK210; clear BK220; clear HB; have HO_9 := n0_; have HO_205000 := n1_; have HO_211000 := n2_; have HO_221000 := n3_; have HO224 := n4_; have HO230 := n5_; have BK188 := n6_; have BK204 := n7_; have BK210 := n8_; have BK220 := n9_; have HB := n10_; clear n0_ n1_ n2_ n3_ n4_ n5_ n6_ n7_ n8_ n9_ n10_; (try clear hb); (try clear hb2); (try clear hk); (try clear hi); (try clear ho0); obtain ⟨Ao200, co200, eo200⟩ := Kd.R_slice HO230.out; subst eo200) | ((with_reducible refine gate_callee (f := 37) rfl ?_); refine goesL_ (some 60) rfl rfl Try.func37 (by kernel_rfl) rfl #[.slice Ao39 t211.length co39, .slice Ao200 t228.length co200] rfl (by (try simp only [List.map_toArray, List.map_cons, List.map_nil]); first | done | rfl) ?_; (with_reducible refine (laws_eqBoolS.calls kj15 _ _ t211 _ _ t228 false _ ?side1 ?side2 ?side3 ?side4 A70.out).mono ?_); (case side1 => repeat (first | exact (Kd.R_reads' HO_9.out).2.2 | (with_reducible refine Kd.C_alloc ?_ _) | (with_reducible refine Kd.C_drewN ?_ _) | (with_reducible refine Kd.C_drew ?_))); (case side2 => exact (Kd.R_reads' HO_9.out).2.1); (case side3 => repeat (first | exact (Kd.R_reads' HO230.out).2.2 | (with_reducible refine Kd.C_alloc ?_ _) | (with_reducible refine Kd.C_drewN ?_ _) | (with_reducible refine Kd.C_drew ?_))); (case side4 => exact (Kd.R_reads' HO230.out).2.1); rintro e w' ⟨rfl, ⟨nd, rfl⟩⟩; refine ⟨_, rfl, ?_⟩))
                go_ret
                exact ⟨by first | rfl | (simp [*] <;> rfl), by repeat (first | (with_reducible first | exact HB.out | apply below_alloc | apply pw_below_drewN | apply below_drew1 | refine below_set ?_ GE188.out | refine below_set ?_ GE204.out | refine below_set ?_ GE210.out | refine below_set ?_ GE220.out) | exact HB.out)⟩
            · replace c68 := Bool.eq_false_iff.mpr c68
              subst c68
              have H1 : (some false) = some r := by rw [if_neg (show ¬ (false = true) by decide)] at H; exact H
              clear H
              have H := H1
              clear H1
              obtain rfl := Option.some.inj H
              try go_wp2
              have n0_ := Aside0.mk (Kd.R_drew HO_9.out)
              have n1_ := Aside0.mk (Kd.R_drew HO_205000.out)
              have n2_ := Aside0.mk (Kd.R_drew HO_211000.out)
              have n3_ := Aside0.mk (Kd.R_drew HO_221000.out)
              have n4_ := Aside0.mk (blk_drew BK188.out)
              have n5_ := Aside0.mk (blk_drew BK204.out)
              have n6_ := Aside0.mk (blk_drew BK210.out)
              have n7_ := Aside0.mk (blk_drew BK220.out)
              have n8_ := Aside0.mk (below_drew1 HB.out)
              clear HO_9
              clear HO_205000
              clear HO_211000
              clear HO_221000
              clear BK188
              clear BK204
              clear BK210
              clear BK220
              clear HB
              have HO_9 := n0_
              have HO_205000 := n1_
              have HO_211000 := n2_
              have HO_221000 := n3_
              have BK188 := n4_
              have BK204 := n5_
              have BK210 := n6_
              have BK220 := n7_
              have HB := n8_
              clear n0_ n1_ n2_ n3_ n4_ n5_ n6_ n7_ n8_
              refine start_ (n := 5) (S := fun w' => w'.cell? ⟨gb210, 0, none⟩ = some (.slice Ao33 t205.length co33) ∧ w'.cell? ⟨gb210, 1, none⟩ = some (.int .i64 t208) ∧ w'.cell? ⟨gb210, 2, none⟩ = some (.int .i64 t209) ∧ w'.cell? ⟨gb188, 0, none⟩ = some (.slice A0_0 l0_0.length c0_0) ∧ w'.cell? ⟨gb188, 1, none⟩ = some (.int .i64 a0_1) ∧ w'.cell? ⟨gb188, 2, none⟩ = some (.int .i64 a0_2)) (ds := []) #[false, false, false, false, false] (by kernel_rfl) rfl rfl ⟨(blk_cell BK210.out 0).trans rfl, (blk_cell BK210.out 1).trans rfl, (blk_cell BK210.out 2).trans rfl, (blk_cell BK188.out 0).trans rfl, (blk_cell BK188.out 1).trans rfl, (blk_cell BK188.out 2).trans rfl⟩ (fun hHeld => ?_)
              generalize wc.drew = w201 at HO_9 HO_205000 HO_211000 HO_221000 BK188 BK204 BK210 BK220 HB hHeld ⊢
              refine take_ (i := 0) (N := some 52) (v := ?_) (a' := ?_) #[true, false, false, false, false] rfl rfl (by kernel_rfl) (fun _ _ _ h => h) (Or.inl ⟨by rfl, ?_⟩) hHeld ?_ ?_
              rotate_left
              · rintro w' ⟨s0, s1, s2, s3, s4, s5⟩
                go_simp
                with_reducible rfl
              rotate_left
              · simp only [Act.put, List.setIfInBounds_toArray, List.set_cons_zero, List.set_cons_succ, i64_w, i32_w]
                rfl
              refine take_ (i := 1) (N := some 53) (v := ?_) (a' := ?_) #[true, true, false, false, false] rfl rfl (by kernel_rfl) (fun _ _ _ h => h) (Or.inl ⟨by rfl, ?_⟩) hHeld ?_ ?_
              rotate_left
              · rintro w' ⟨s0, s1, s2, s3, s4, s5⟩
                go_simp
                with_reducible rfl
              rotate_left
              · simp only [Act.put, List.setIfInBounds_toArray, List.set_cons_zero, List.set_cons_succ, i64_w, i32_w]
                rfl
              refine one_ (i := 2) (N := some 54) #[true, true, true, false, false] rfl rfl (by kernel_rfl) (by decide) (fun K hK => ?_)
              refine goes_ Try.func22 (by kernel_rfl) rfl #[.agg #[.slice A0_0 l0_0.length c0_0, .int .i64 a0_1, .int .i64 a0_2]] (by rfl) rfl rfl (by (try simp only [List.map_toArray, List.map_cons, List.map_nil]); first | done | rfl) ?_
              with_reducible refine (laws_toArbiter.calls kj15 _ _ l0_0 a0_1 a0_2 t222 t225 t226 _ ?side1 ?side2 A66.out).mono ?_
              (case side1 => repeat (first | exact (Kd.C_below HR0_0.out HB.out) | (with_reducible refine Kd.C_alloc ?_ _) | (with_reducible refine Kd.C_drewN ?_ _) | (with_reducible refine Kd.C_drew ?_)))
              (case side2 => exact HC0_0.out)
              rintro e w202 ⟨v223, rfl, ho0, hb⟩
              refine ⟨_, rfl, ?_⟩
              have n0_ := Aside0.mk (Kd.R_below (by (with_reducible repeat (first | apply Kd.R_alloc | apply Kd.R_drewN | apply Kd.R_drew)); exact HO_9.out) hb)
              have n1_ := Aside0.mk (Kd.R_elder' (by (with_reducible repeat (first | apply Kd.R_alloc | apply Kd.R_drewN | apply Kd.R_drew)); exact HO_205000.out) (Kd.R_base ho0) hb)
              have n2_ := Aside0.mk (Kd.R_elder' (by (with_reducible repeat (first | apply Kd.R_alloc | apply Kd.R_drewN | apply Kd.R_drew)); exact HO_211000.out) (Kd.R_base ho0) hb)
              have n3_ := Aside0.mk (Kd.R_elder' (by (with_reducible repeat (first | apply Kd.R_alloc | apply Kd.R_drewN | apply Kd.R_drew)); exact HO_221000.out) (Kd.R_base ho0) hb)
              have n4_ := Aside0.mk (Kd.R_lower (Kd.R_new' (Kd.R_new' (Kd.R_new' ho0 (Kd.R_lt (by (with_reducible repeat (first | apply Kd.R_alloc | apply Kd.R_drewN | apply Kd.R_drew)); exact HO_205000.out))) (Kd.R_lt (by (with_reducible repeat (first | apply Kd.R_alloc | apply Kd.R_drewN | apply Kd.R_drew)); exact HO_211000.out))) (Kd.R_lt (by (with_reducible repeat (first | apply Kd.R_alloc | apply Kd.R_drewN | apply Kd.R_drew)); exact HO_221000.out))) (below_size (by repeat (first | (with_reducible first | exact HB.out | apply below_alloc | apply pw_below_drewN | apply below_drew1 | refine below_set ?_ GE188.out | refine below_set ?_ GE204.out | refine below_set ?_ GE210.out | refine below_set ?_ GE220.out) | exact HB.out))))
              have n5_ := Aside0.mk (blk_below (g := gb188) (o := .cells #[.slice A0_0 l0_0.length c0_0, .int .i64 a0_1, .int .i64 a0_2] 30 (0, 0)) (by (with_reducible repeat (first | apply blk_drewN | apply blk_drew | apply blk_alloc)); exact BK188.out) hb)
              have n6_ := Aside0.mk (blk_below (g := gb204) (o := .cells #[.slice Ao27 t198.length co27, .int .i64 t201, .int .i64 t202] 33 (0, 0)) (by (with_reducible repeat (first | apply blk_drewN | apply blk_drew | apply blk_alloc)); exact BK204.out) hb)
              have n7_ := Aside0.mk (blk_below (g := gb210) (o := .cells #[.slice Ao33 t205.length co33, .int .i64 t208, .int .i64 t209] 33 (0, 0)) (by (with_reducible repeat (first | apply blk_drewN | apply blk_drew | apply blk_alloc)); exact BK210.out) hb)
              have n8_ := Aside0.mk (blk_below (g := gb220) (o := .cells #[.slice Ao42 t214.length co42, .int .i64 t217, .int .i64 t218] 33 (0, 0)) (by (with_reducible repeat (first | apply blk_drewN | apply blk_drew | apply blk_alloc)); exact BK220.out) hb)
              have n9_ := Aside0.mk (below_step (by repeat (first | (with_reducible first | exact HB.out | apply below_alloc | apply pw_below_drewN | apply below_drew1 | refine below_set ?_ GE188.out | refine below_set ?_ GE204.out | refine below_set ?_ GE210.out | refine below_set ?_ GE220.out) | exact HB.out)) hb)
              clear HO_9
              clear HO_205000
              clear HO_211000
              clear HO_221000
              clear BK188
              clear BK204
              clear BK210
              clear BK220
              clear HB
              have HO_9 := n0_
              have HO_205000 := n1_
              have HO_211000 := n2_
              have HO_221000 := n3_
              have HO224 := n4_
              have BK188 := n5_
              have BK204 := n6_
              have BK210 := n7_
              have BK220 := n8_
              have HB := n9_
              clear n0_ n1_ n2_ n3_ n4_ n5_ n6_ n7_ n8_ n9_
              (try clear hb)
              (try clear hb2)
              (try clear hk)
              (try clear hi)
              (try clear ho0)
              obtain ⟨Ao203, co203, eo203⟩ := Kd.R_slice HO224.out
              (first | subst eo203 | (injection eo203 with f1_ f2_ f3_; have f4_ := f1_.symm; have f5_ := f3_.symm; clear f1_ f2_ f3_; subst f4_; subst f5_))
              refine hK.out _ _ ⟨(blk_cell BK210.out 0).trans rfl, (blk_cell BK210.out 1).trans rfl, (blk_cell BK210.out 2).trans rfl, (blk_cell BK188.out 0).trans rfl, (blk_cell BK188.out 1).trans rfl, (blk_cell BK188.out 2).trans rfl⟩ (fun hHeld => ?_)
              clear hK K
              refine norm_ (a' := ?_) ?_ ?_
              rotate_left
              · show Act.put _ (some 54) _ = _
                simp only [Act.put, List.setIfInBounds_toArray, List.set_cons_zero, List.set_cons_succ, i64_w, i32_w]
                rfl
              refine one_ (i := 3) (N := some 55) #[true, true, true, true, false] rfl rfl (by kernel_rfl) (by decide) (fun K hK => ?_)
              refine goes_ Try.func24 (by kernel_rfl) rfl #[.agg #[.slice Ao33 t205.length co33, .int .i64 t208, .int .i64 t209], .agg #[.slice Ao203 t222.length co203, .int .i64 t225, .int .i64 t226]] (by rfl) rfl rfl (by (try simp only [List.map_toArray, List.map_cons, List.map_nil]); first | done | rfl) ?_
              with_reducible refine (laws_eqArbiter.calls kj15 _ _ t205 t208 t209 _ _ t222 t225 t226 false _ ?side1 ?side2 ?side3 ?side4 A67.out).mono ?_
              (case side1 => repeat (first | exact (Kd.R_reads' HO_211000.out).2.2 | (with_reducible refine Kd.C_alloc ?_ _) | (with_reducible refine Kd.C_drewN ?_ _) | (with_reducible refine Kd.C_drew ?_)))
              (case side2 => exact (Kd.R_reads' HO_211000.out).2.1)
              (case side3 => repeat (first | exact (Kd.R_reads' HO224.out).2.2 | (with_reducible refine Kd.C_alloc ?_ _) | (with_reducible refine Kd.C_drewN ?_ _) | (with_reducible refine Kd.C_drew ?_)))
              (case side4 => exact (Kd.R_reads' HO224.out).2.1)
              rintro e w204 ⟨rfl, hb⟩
              refine ⟨_, rfl, ?_⟩
              have n0_ := Aside0.mk (Kd.R_below (by (with_reducible repeat (first | apply Kd.R_alloc | apply Kd.R_drewN | apply Kd.R_drew)); exact HO_9.out) hb)
              have n1_ := Aside0.mk (Kd.R_below (by (with_reducible repeat (first | apply Kd.R_alloc | apply Kd.R_drewN | apply Kd.R_drew)); exact HO_205000.out) hb)
              have n2_ := Aside0.mk (Kd.R_below (by (with_reducible repeat (first | apply Kd.R_alloc | apply Kd.R_drewN | apply Kd.R_drew)); exact HO_211000.out) hb)
              have n3_ := Aside0.mk (Kd.R_below (by (with_reducible repeat (first | apply Kd.R_alloc | apply Kd.R_drewN | apply Kd.R_drew)); exact HO_221000.out) hb)
              have n4_ := Aside0.mk (Kd.R_below (by (with_reducible repeat (first | apply Kd.R_alloc | apply Kd.R_drewN | apply Kd.R_drew)); exact HO224.out) hb)
              have n5_ := Aside0.mk (blk_below (g := gb188) (o := .cells #[.slice A0_0 l0_0.length c0_0, .int .i64 a0_1, .int .i64 a0_2] 30 (0, 0)) (by (with_reducible repeat (first | apply blk_drewN | apply blk_drew | apply blk_alloc)); exact BK188.out) hb)
              have n6_ := Aside0.mk (blk_below (g := gb204) (o := .cells #[.slice Ao27 t198.length co27, .int .i64 t201, .int .i64 t202] 33 (0, 0)) (by (with_reducible repeat (first | apply blk_drewN | apply blk_drew | apply blk_alloc)); exact BK204.out) hb)
              have n7_ := Aside0.mk (blk_below (g := gb210) (o := .cells #[.slice Ao33 t205.length co33, .int .i64 t208, .int .i64 t209] 33 (0, 0)) (by (with_reducible repeat (first | apply blk_drewN | apply blk_drew | apply blk_alloc)); exact BK210.out) hb)
              have n8_ := Aside0.mk (blk_below (g := gb220) (o := .cells #[.slice Ao42 t214.length co42, .int .i64 t217, .int .i64 t218] 33 (0, 0)) (by (with_reducible repeat (first | apply blk_drewN | apply blk_drew | apply blk_alloc)); exact BK220.out) hb)
              have n9_ := Aside0.mk (below_step (by repeat (first | (with_reducible first | exact HB.out | apply below_alloc | apply pw_below_drewN | apply below_drew1 | refine below_set ?_ GE188.out | refine below_set ?_ GE204.out | refine below_set ?_ GE210.out | refine below_set ?_ GE220.out) | exact HB.out)) hb)
              clear HO_9
              clear HO_205000
              clear HO_211000
              clear HO_221000
              clear HO224
              clear BK188
              clear BK204
              clear BK210
              clear BK220
              clear HB
              have HO_9 := n0_
              have HO_205000 := n1_
              have HO_211000 := n2_
              have HO_221000 := n3_
              have HO224 := n4_
              have BK188 := n5_
              have BK204 := n6_
              have BK210 := n7_
              have BK220 := n8_
              have HB := n9_
              clear n0_ n1_ n2_ n3_ n4_ n5_ n6_ n7_ n8_ n9_
              (try clear hb)
              (try clear hb2)
              (try clear hk)
              (try clear hi)
              refine hK.out _ _ ⟨(blk_cell BK210.out 0).trans rfl, (blk_cell BK210.out 1).trans rfl, (blk_cell BK210.out 2).trans rfl, (blk_cell BK188.out 0).trans rfl, (blk_cell BK188.out 1).trans rfl, (blk_cell BK188.out 2).trans rfl⟩ (fun hHeld => ?_)
              clear hK K
              refine norm_ (a' := ?_) ?_ ?_
              rotate_left
              · show Act.put _ (some 55) _ = _
                simp only [Act.put, List.setIfInBounds_toArray, List.set_cons_zero, List.set_cons_succ, i64_w, i32_w]
                rfl
              refine pure_ (i := 4) (N := some 56) (v := ?_) (a' := ?_) #[true, true, true, true, true] rfl rfl (by kernel_rfl) (fun _ _ _ h => h) (Or.inl ⟨by rfl, ?_⟩) ?_ ?_
              rotate_left
              · intro w'
                go_simp
                with_reducible rfl
              rotate_left
              · simp only [Act.put, List.setIfInBounds_toArray, List.set_cons_zero, List.set_cons_succ, i64_w, i32_w]
                rfl
              refine done_ (by kernel_rfl) ?_
              try go_wp2
              go_ret
              exact ⟨by first | rfl | (simp [*] <;> rfl), by repeat (first | (with_reducible first | exact HB.out | apply below_alloc | apply pw_below_drewN | apply below_drew1 | refine below_set ?_ GE188.out | refine below_set ?_ GE204.out | refine below_set ?_ GE210.out | refine below_set ?_ GE220.out) | exact HB.out)⟩

end Go.Proofs.Ytphlfmmhpmhjfaa.PFnExactGrant
