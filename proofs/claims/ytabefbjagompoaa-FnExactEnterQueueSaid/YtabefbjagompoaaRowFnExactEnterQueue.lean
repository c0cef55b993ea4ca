/- The row of FnExactEnterQueue: whatever the input, the law returns true; out of its printed contract and its pure statement. -/
import Derived.Test.YtabefbjagompoaaRows
import Derived.Test.YtabefbjagompoaaPFnExactEnterQueuex16
import Derived.Test.YtabefbjagompoaaPureFnExactEnterQueue
import Derived.Test.YtabefbjagompoaaOpens
import Derived.WalkKit
import Derived.ProofKit
import Derived.OpenShut
import Derived.ShutString
import Derived.ChangeOld
import Derived.Below
import Derived.SizedLaws
namespace Go.Proofs.Ytabefbjagompoaa.fnExactEnterQueue
open Go.ChangeShapes Go.WideShapes Go.ChangeAt Go.RowKit
open Go.Proofs.YtabefbjagompoaaW.PrintWords Go.Proofs.Ytabefbjagompoaa.PFnExactEnterQueue Go.Proofs.Ytabefbjagompoaa.Opens
set_option linter.unusedVariables false
theorem own : ownKnob Try.prog.godebug = none := by kernel_rfl
theorem laidOut : laidOutB Try.prog = true := by kernel_rfl
theorem opens46 : Opens Try.prog 46 k46 (fun x => ((Lit.int .i64 x.f0).wf = true) ∧ ((Lit.int .i64 x.f1).wf = true) ∧ ((Lit.int .i64 x.f2).wf = true) ∧ ((Lit.int .i64 x.f3).wf = true) ∧ ((Lit.int .i64 x.f4).wf = true) ∧ ((Lit.int .i64 x.f5).wf = true) ∧ ((Lit.int .i64 x.f6).wf = true) ∧ (x.f7.length ≤ 9223372036854775807 ∧ ∀ y1 ∈ x.f7, (Lit.int .i64 y1).wf = true)) := by
  have h := Opens.struct Try.underlying46 (Fields.cons (Opens.int Try.underlying3 (by kernel_rfl)) rfl (Fields.cons (Opens.int Try.underlying3 (by kernel_rfl)) rfl (Fields.cons (Opens.int Try.underlying3 (by kernel_rfl)) rfl (Fields.cons (Opens.int Try.underlying3 (by kernel_rfl)) rfl (Fields.cons (Opens.int Try.underlying3 (by kernel_rfl)) rfl (Fields.cons (Opens.int Try.underlying3 (by kernel_rfl)) rfl (Fields.cons (Opens.int Try.underlying3 (by kernel_rfl)) rfl (Fields.one (Opens.slice Try.underlying25 (by kernel_rfl) (Opens.int Try.underlying3 (by kernel_rfl))) rfl)))))))) (by kernel_rfl) (fun x : S46 => (x.f0, x.f1, x.f2, x.f3, x.f4, x.f5, x.f6, x.f7)) (fun a => ⟨a.1, a.2.1, a.2.2.1, a.2.2.2.1, a.2.2.2.2.1, a.2.2.2.2.2.1, a.2.2.2.2.2.2.1, a.2.2.2.2.2.2.2⟩) (fun _ => rfl)
  exact h
set_option maxRecDepth 100000 in
theorem lifted (os : Os) (started : os.Started) (H : Type) (enc : TypeId × Value → H) :
    ReturnsInHanded {} Try.checked os 6 .any (Rows.fnExactEnterQueueSpec.pre6 enc Try.prog Try.f6 Rows.fnExactEnterQueueRow.domain false) (Rows.fnExactEnterQueueSpec.post enc Try.prog Try.f6 false true false false) := by
  refine returnsInHanded_of_change_sized (C := Try.checked) own started (by kernel_rfl) Try.func6
    (ChangeSpec.witness6 (enc := enc) (C := Try.checked) false ⟨#[], #[.agg #[.slice none 0 0, .slice none 0 0, .slice none 0 0, .slice none 0 0], .agg #[.int .i64 0, .int .i64 0, .int .i64 0, .int .i64 0, .int .i64 0, .int .i64 0, .int .i64 0, .slice none 0 0]], []⟩ 8 (by kernel_rfl) (by kernel_rfl) (by kernel_rfl) (by kernel_rfl)) ?_
  intro W base args ds gs before hval0 hW hcnd hsz0 _
  have hval : ∀ (j : Nat) t v, Try.f6.params[j]? = some t → args[j]? = some v → Value.okWide Try.prog W .any base t v := hval0
  have hW' := hW
  obtain ⟨p, q, hA0, hV, rfl, hfz, hnd⟩ := hW
  have hA : DataW.TrodAll enc Try.prog W 0 (fun _ => true) true Try.f6.params.toList args.toList ds p := hA0
  rw [Try.params6] at hA hval
  obtain ⟨v0, vs0, d0, ds0, p0, q0, hargs, rfl, rfl, h0, r0⟩ := trodAll_cons hA
  obtain ⟨v1, vs1, d1, ds1, p1, q1, rfl, rfl, rfl, h1, r1⟩ := trodAll_cons r0
  obtain ⟨rfl, rfl, rfl⟩ := trodAll_nil r1
  obtain rfl : args = #[v0, v1] := by cases args; simp_all
  obtain ⟨rfl, rfl⟩ := trodVars_none hV
  have k0 := h0
  have lt0 : ∀ x ∈ p0, x.block < W.heap.size := by obtain ⟨m, hm⟩ := k0; exact DataW.trod_lt m _ _ _ hm
  obtain ⟨cs0, rfl, hs0⟩ := okWide_struct Try.underlying40 (hval 0 40 v0 rfl rfl)
  obtain ⟨fuel0, hf0⟩ := h0
  obtain ⟨⟨l0_0, ⟨⟨l0_1, l0_2⟩, l0_3⟩⟩, hK0, hv0⟩ := (Opens.struct' Try.underlying40 (Fields.cons (Opens.slice Try.underlying37 (by kernel_rfl) opens46) rfl (Fields.cons (Opens.struct' Try.underlying38 (Fields.cons (Opens.slice Try.underlying25 (by kernel_rfl) (Opens.int Try.underlying3 (by kernel_rfl))) rfl (Fields.one (Opens.slice Try.underlying25 (by kernel_rfl) (Opens.int Try.underlying3 (by kernel_rfl))) rfl)) (by kernel_rfl)) rfl (Fields.one (Opens.slice Try.underlying37 (by kernel_rfl) opens46) rfl))) (by kernel_rfl)).op hf0
  obtain ⟨_, _, he0, ⟨A0_0, c0_0, rfl, hc0_0, hr0_0⟩, ⟨_, _, rfl, ⟨_, _, rfl, ⟨A0_1, c0_1, rfl, hc0_1, hr0_1⟩, ⟨A0_2, c0_2, rfl, hc0_2, hr0_2⟩⟩, ⟨A0_3, c0_3, rfl, hc0_3, hr0_3⟩⟩⟩ := hK0
  obtain rfl : cs0 = #[.slice A0_0 l0_0.length c0_0, .slice A0_1 l0_1.length c0_1, .slice A0_2 l0_2.length c0_2, .slice A0_3 l0_3.length c0_3] := by apply Array.ext'; simpa [Value.cells] using he0
  have k1 := h1
  have lt1 : ∀ x ∈ p1, x.block < W.heap.size := by obtain ⟨m, hm⟩ := k1; exact DataW.trod_lt m _ _ _ hm
  obtain ⟨cs1, rfl, hs1⟩ := okWide_struct Try.underlying46 (hval 1 46 v1 rfl rfl)
  obtain ⟨fuel1, hf1⟩ := h1
  obtain ⟨⟨a1_0, ⟨a1_1, ⟨a1_2, ⟨a1_3, ⟨a1_4, ⟨a1_5, ⟨a1_6, l1_7⟩⟩⟩⟩⟩⟩⟩, hK1, hv1⟩ := (Opens.struct' Try.underlying46 (Fields.cons (Opens.int Try.underlying3 (by kernel_rfl)) rfl (Fields.cons (Opens.int Try.underlying3 (by kernel_rfl)) rfl (Fields.cons (Opens.int Try.underlying3 (by kernel_rfl)) rfl (Fields.cons (Opens.int Try.underlying3 (by kernel_rfl)) rfl (Fields.cons (Opens.int Try.underlying3 (by kernel_rfl)) rfl (Fields.cons (Opens.int Try.underlying3 (by kernel_rfl)) rfl (Fields.cons (Opens.int Try.underlying3 (by kernel_rfl)) rfl (Fields.one (Opens.slice Try.underlying25 (by kernel_rfl) (Opens.int Try.underlying3 (by kernel_rfl))) rfl)))))))) (by kernel_rfl)).op hf1
  obtain ⟨_, _, he1, rfl, ⟨_, _, rfl, rfl, ⟨_, _, rfl, rfl, ⟨_, _, rfl, rfl, ⟨_, _, rfl, rfl, ⟨_, _, rfl, rfl, ⟨_, _, rfl, rfl, ⟨A1_7, c1_7, rfl, hc1_7, hr1_7⟩⟩⟩⟩⟩⟩⟩⟩ := hK1
  obtain rfl : cs1 = #[.int .i64 a1_0, .int .i64 a1_1, .int .i64 a1_2, .int .i64 a1_3, .int .i64 a1_4, .int .i64 a1_5, .int .i64 a1_6, .slice A1_7 l1_7.length c1_7] := by apply Array.ext'; simpa [Value.cells] using he1
  clear hA0 hval0 hsz0
  obtain ⟨k, hP⟩ := Pure.FnExactEnterQueue l0_0 l0_1 l0_2 l0_3 a1_0 a1_1 a1_2 a1_3 a1_4 a1_5 a1_6 l1_7 hv0.1.1 hv0.1.2 hv0.2.1.1.1 hv0.2.1.1.2 hv0.2.1.2.1 hv0.2.1.2.2 hv0.2.2.1 hv0.2.2.2 hv1.1 hv1.2.1 hv1.2.2.1 hv1.2.2.2.1 hv1.2.2.2.2.1 hv1.2.2.2.2.2.1 hv1.2.2.2.2.2.2.1 hv1.2.2.2.2.2.2.2.1 hv1.2.2.2.2.2.2.2.2
  refine (laws_FnExactEnterQueue.calls k A0_0 c0_0 l0_0 A0_1 c0_1 l0_1 A0_2 c0_2 l0_2 A0_3 c0_3 l0_3 a1_0 a1_1 a1_2 a1_3 a1_4 a1_5 a1_6 A1_7 c1_7 l1_7 true W hr0_0 hc0_0 hr0_1 hc0_1 hr0_2 hc0_2 hr0_3 hc0_3 hr1_7 hc1_7 hP).mono fun e W' ⟨he, bel0⟩ => ?_
  have bel : Below W.heap.size W W' := bel0
  subst he
  exact ⟨_, rfl, _, _, _, [], _, [], hW', trodAll_mk1 (shut_bool Try.underlying4 _), (trodAll_cons_mk (Below.trod laidOut (by kernel_rfl) (of_decide_eq_true (by kernel_rfl)) k0 bel lt0) (trodAll_cons_mk (Below.trod laidOut (by kernel_rfl) (of_decide_eq_true (by kernel_rfl)) k1 bel lt1) trodAll_mk0)), rfl, bel.frame _, fun h => by cases h⟩
theorem ov1 : Try.pinned.checked.prog.funcNamed Rows.fnExactEnterQueueRow.func = some 6 := by kernel_rfl
theorem ov2 : joinedFacts Try.pinned.checked.prog 6 Try.f6 Rows.fnExactEnterQueueSpec Rows.fnExactEnterQueueRow = true := by kernel_rfl
theorem ov3 : Try.f6.isInstance Try.pinned.checked.prog Rows.fnExactEnterQueueRow.origin Rows.fnExactEnterQueueRow.targs := of_decide_eq_true (by kernel_rfl)
theorem ov4 : Try.f6.isWrapper Try.pinned.checked.prog Rows.fnExactEnterQueueRow.wrapper Rows.fnExactEnterQueueRow.mainSum := by unfold Func.isWrapper; first | (rw [if_pos (by decide +kernel)]; kernel_rfl) | (rw [if_neg (by decide +kernel)]; exact ⟨rfl, rfl⟩)
theorem over : Rows.fnExactEnterQueueRow.holds Try.pinned (OpenSpec.ofChange Rows.fnExactEnterQueueSpec) :=
  OpenClaim.holds_of_wide 6 Try.f6 rfl rfl rfl rfl rfl rfl rfl ⟨rfl, rfl, rfl, rfl, rfl⟩ rfl rfl rfl rfl rfl ov1 Try.func6 ov2 ov3 ov4 (fun os started H enc _ => lifted os started H enc)
theorem proved : Rows.FnExactEnterQueueSaid := over
#print axioms proved
end Go.Proofs.Ytabefbjagompoaa.fnExactEnterQueue
namespace Go.Proofs.Ytabefbjagompoaa
/-- The row, under a short name, for the claim. -/
theorem fnExactEnterQueue_holds : Rows.FnExactEnterQueueSaid := fnExactEnterQueue.proved
end Go.Proofs.Ytabefbjagompoaa
