/- The row of FnExactBarsOverlap: whatever the input, the law returns true; out of its printed contract and its pure statement. -/
import Derived.Test.YtcofbfjnkodpmaaRows
import Derived.Test.YtcofbfjnkodpmaaPFnExactBarsOverlapx2
import Derived.Test.YtcofbfjnkodpmaaPureFnExactBarsOverlap
import Derived.Test.YtcofbfjnkodpmaaOpens
import Derived.WalkKit
import Derived.ProofKit
import Derived.OpenShut
import Derived.ShutString
import Derived.ChangeOld
import Derived.Below
import Derived.SizedLaws
namespace Go.Proofs.Ytcofbfjnkodpmaa.fnExactBarsOverlap
open Go.ChangeShapes Go.WideShapes Go.ChangeAt Go.RowKit
open Go.Proofs.YtcofbfjnkodpmaaW.PrintWords Go.Proofs.Ytcofbfjnkodpmaa.PFnExactBarsOverlap Go.Proofs.Ytcofbfjnkodpmaa.Opens
set_option linter.unusedVariables false
theorem own : ownKnob Try.prog.godebug = none := by kernel_rfl
theorem laidOut : laidOutB Try.prog = true := by kernel_rfl
set_option maxRecDepth 100000 in
theorem lifted (os : Os) (started : os.Started) (H : Type) (enc : TypeId × Value → H) :
    ReturnsInHanded {} Try.checked os 8 .any (Rows.fnExactBarsOverlapSpec.pre6 enc Try.prog Try.f8 Rows.fnExactBarsOverlapRow.domain false) (Rows.fnExactBarsOverlapSpec.post enc Try.prog Try.f8 false true false false) := by
  refine returnsInHanded_of_change_sized (C := Try.checked) own started (by kernel_rfl) Try.func8
    (ChangeSpec.witness6 (enc := enc) (C := Try.checked) false ⟨#[], #[.agg #[.int .i64 0, .int .i64 0], .agg #[.int .i64 0, .int .i64 0]], []⟩ 8 (by kernel_rfl) (by kernel_rfl) (by kernel_rfl) (by kernel_rfl)) ?_
  intro W base args ds gs before hval0 hW hcnd hsz0 _
  have hval : ∀ (j : Nat) t v, Try.f8.params[j]? = some t → args[j]? = some v → Value.okWide Try.prog W .any base t v := hval0
  have hW' := hW
  obtain ⟨p, q, hA0, hV, rfl, hfz, hnd⟩ := hW
  have hA : DataW.TrodAll enc Try.prog W 0 (fun _ => true) true Try.f8.params.toList args.toList ds p := hA0
  rw [Try.params8] at hA hval
  obtain ⟨v0, vs0, d0, ds0, p0, q0, hargs, rfl, rfl, h0, r0⟩ := trodAll_cons hA
  obtain ⟨v1, vs1, d1, ds1, p1, q1, rfl, rfl, rfl, h1, r1⟩ := trodAll_cons r0
  obtain ⟨rfl, rfl, rfl⟩ := trodAll_nil r1
  obtain rfl : args = #[v0, v1] := by cases args; simp_all
  obtain ⟨rfl, rfl⟩ := trodVars_none hV
  have k0 := h0
  have lt0 : ∀ x ∈ p0, x.block < W.heap.size := by obtain ⟨m, hm⟩ := k0; exact DataW.trod_lt m _ _ _ hm
  obtain ⟨cs0, rfl, hs0⟩ := okWide_struct Try.underlying39 (hval 0 39 v0 rfl rfl)
  obtain ⟨fuel0, hf0⟩ := h0
  obtain ⟨⟨a0_0, a0_1⟩, hK0, hv0⟩ := (Opens.struct' Try.underlying39 (Fields.cons (Opens.int Try.underlying3 (by kernel_rfl)) rfl (Fields.one (Opens.int Try.underlying3 (by kernel_rfl)) rfl)) (by kernel_rfl)).op hf0
  obtain ⟨_, _, he0, rfl, rfl⟩ := hK0
  obtain rfl : cs0 = #[.int .i64 a0_0, .int .i64 a0_1] := by apply Array.ext'; simpa [Value.cells] using he0
  have k1 := h1
  have lt1 : ∀ x ∈ p1, x.block < W.heap.size := by obtain ⟨m, hm⟩ := k1; exact DataW.trod_lt m _ _ _ hm
  obtain ⟨cs1, rfl, hs1⟩ := okWide_struct Try.underlying39 (hval 1 39 v1 rfl rfl)
  obtain ⟨fuel1, hf1⟩ := h1
  obtain ⟨⟨a1_0, a1_1⟩, hK1, hv1⟩ := (Opens.struct' Try.underlying39 (Fields.cons (Opens.int Try.underlying3 (by kernel_rfl)) rfl (Fields.one (Opens.int Try.underlying3 (by kernel_rfl)) rfl)) (by kernel_rfl)).op hf1
  obtain ⟨_, _, he1, rfl, rfl⟩ := hK1
  obtain rfl : cs1 = #[.int .i64 a1_0, .int .i64 a1_1] := by apply Array.ext'; simpa [Value.cells] using he1
  clear hA0 hval0 hsz0
  obtain ⟨k, hP⟩ := Pure.FnExactBarsOverlap a0_0 a0_1 a1_0 a1_1 hv0.1 hv0.2 hv1.1 hv1.2
  refine (laws_FnExactBarsOverlap.calls k a0_0 a0_1 a1_0 a1_1 true W  hP).mono fun e W' ⟨he, bel0⟩ => ?_
  have bel : Below W.heap.size W W' := bel0
  subst he
  exact ⟨_, rfl, _, _, _, [], _, [], hW', trodAll_mk1 (shut_bool Try.underlying4 _), (trodAll_cons_mk (Below.trod laidOut (by kernel_rfl) (of_decide_eq_true (by kernel_rfl)) k0 bel lt0) (trodAll_cons_mk (Below.trod laidOut (by kernel_rfl) (of_decide_eq_true (by kernel_rfl)) k1 bel lt1) trodAll_mk0)), rfl, bel.frame _, fun h => by cases h⟩
theorem over : Rows.fnExactBarsOverlapRow.holds Try.pinned (OpenSpec.ofChange Rows.fnExactBarsOverlapSpec) :=
  OpenClaim.holds_of_wide 8 Try.f8 rfl rfl rfl rfl rfl rfl rfl ⟨rfl, rfl, rfl, rfl, rfl⟩ rfl rfl rfl rfl rfl (by kernel_rfl) Try.func8 (by kernel_rfl)
    (of_decide_eq_true (by kernel_rfl)) (by unfold Func.isWrapper; first | (rw [if_pos (by decide +kernel)]; kernel_rfl) | (rw [if_neg (by decide +kernel)]; exact ⟨rfl, rfl⟩))
    (fun os started H enc _ => lifted os started H enc)
theorem proved : Rows.FnExactBarsOverlapSaid := over
#print axioms proved
end Go.Proofs.Ytcofbfjnkodpmaa.fnExactBarsOverlap
namespace Go.Proofs.Ytcofbfjnkodpmaa
/-- The row, under a short name, for the claim. -/
theorem fnExactBarsOverlap_holds : Rows.FnExactBarsOverlapSaid := fnExactBarsOverlap.proved
end Go.Proofs.Ytcofbfjnkodpmaa
