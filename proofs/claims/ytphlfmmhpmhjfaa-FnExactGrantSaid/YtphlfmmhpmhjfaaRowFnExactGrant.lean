/- The row of FnExactGrant: whatever the input, the law returns true; out of its printed contract and its pure statement. -/
import Derived.Test.YtphlfmmhpmhjfaaRows
import Derived.Test.YtphlfmmhpmhjfaaPFnExactGrantx9
import Derived.Test.YtphlfmmhpmhjfaaPureFnExactGrant
import Derived.Test.YtphlfmmhpmhjfaaOpens
import Derived.WalkKit
import Derived.ProofKit
import Derived.OpenShut
import Derived.ShutString
import Derived.ChangeOld
import Derived.Below
import Derived.SizedLaws
namespace Go.Proofs.Ytphlfmmhpmhjfaa.fnExactGrant
open Go.ChangeShapes Go.WideShapes Go.ChangeAt Go.RowKit
open Go.Proofs.YtphlfmmhpmhjfaaW.PrintWords Go.Proofs.Ytphlfmmhpmhjfaa.PFnExactGrant Go.Proofs.Ytphlfmmhpmhjfaa.Opens
set_option linter.unusedVariables false
theorem own : ownKnob Try.prog.godebug = none := by kernel_rfl
theorem laidOut : laidOutB Try.prog = true := by kernel_rfl
set_option maxRecDepth 100000 in
theorem lifted (os : Os) (started : os.Started) (H : Type) (enc : TypeId × Value → H) :
    ReturnsInHanded {} Try.checked os 10 .any (Rows.fnExactGrantSpec.pre6 enc Try.prog Try.f10 Rows.fnExactGrantRow.domain false) (Rows.fnExactGrantSpec.post enc Try.prog Try.f10 false true false false) := by
  refine returnsInHanded_of_change_sized (C := Try.checked) own started (by kernel_rfl) Try.func10
    (ChangeSpec.witness6 (enc := enc) (C := Try.checked) false ⟨#[], #[.agg #[.slice none 0 0, .int .i64 0, .int .i64 0], .slice none 0 0], []⟩ 8 (by kernel_rfl) (by kernel_rfl) (by kernel_rfl) (by kernel_rfl)) ?_
  intro W base args ds gs before hval0 hW hcnd hsz0 _
  have hval : ∀ (j : Nat) t v, Try.f10.params[j]? = some t → args[j]? = some v → Value.okWide Try.prog W .any base t v := hval0
  have hW' := hW
  obtain ⟨p, q, hA0, hV, rfl, hfz, hnd⟩ := hW
  have hA : DataW.TrodAll enc Try.prog W 0 (fun _ => true) true Try.f10.params.toList args.toList ds p := hA0
  rw [Try.params10] at hA hval
  obtain ⟨v0, vs0, d0, ds0, p0, q0, hargs, rfl, rfl, h0, r0⟩ := trodAll_cons hA
  obtain ⟨v1, vs1, d1, ds1, p1, q1, rfl, rfl, rfl, h1, r1⟩ := trodAll_cons r0
  obtain ⟨rfl, rfl, rfl⟩ := trodAll_nil r1
  obtain rfl : args = #[v0, v1] := by cases args; simp_all
  obtain ⟨rfl, rfl⟩ := trodVars_none hV
  have k0 := h0
  have lt0 : ∀ x ∈ p0, x.block < W.heap.size := by obtain ⟨m, hm⟩ := k0; exact DataW.trod_lt m _ _ _ hm
  obtain ⟨cs0, rfl, hs0⟩ := okWide_struct Try.underlying30 (hval 0 30 v0 rfl rfl)
  obtain ⟨fuel0, hf0⟩ := h0
  obtain ⟨⟨l0_0, ⟨a0_1, a0_2⟩⟩, hK0, hv0⟩ := (Opens.struct' Try.underlying30 (Fields.cons (Opens.slice Try.underlying22 (by kernel_rfl) (Opens.int Try.underlying3 (by kernel_rfl))) rfl (Fields.cons (Opens.int Try.underlying3 (by kernel_rfl)) rfl (Fields.one (Opens.int Try.underlying3 (by kernel_rfl)) rfl))) (by kernel_rfl)).op hf0
  obtain ⟨_, _, he0, ⟨A0_0, c0_0, rfl, hc0_0, hr0_0⟩, ⟨_, _, rfl, rfl, rfl⟩⟩ := hK0
  obtain rfl : cs0 = #[.slice A0_0 l0_0.length c0_0, .int .i64 a0_1, .int .i64 a0_2] := by apply Array.ext'; simpa [Value.cells] using he0
  have k1 := h1
  have lt1 : ∀ x ∈ p1, x.block < W.heap.size := by obtain ⟨m, hm⟩ := k1; exact DataW.trod_lt m _ _ _ hm
  obtain ⟨b1, len1, cap1, rfl⟩ := okWide_slice Try.underlying44 (hval 1 44 v1 rfl rfl)
  obtain ⟨fuel1, hf1⟩ := h1
  obtain ⟨l1, hK1, hv1⟩ := (Opens.slice Try.underlying44 (by kernel_rfl) (Opens.bool Try.underlying4 (by kernel_rfl))).op hf1
  obtain ⟨A1, c1, he1, hc1, hr1⟩ := hK1
  obtain ⟨rfl, rfl, rfl⟩ : A1 = b1 ∧ l1.length = len1 ∧ c1 = cap1 := by simpa [Value.cells, eq_comm] using he1
  clear hA0 hval0 hsz0
  obtain ⟨k, hP⟩ := Pure.FnExactGrant l0_0 a0_1 a0_2 l1 hv0.1.1 hv0.1.2 hv0.2.1 hv0.2.2 hv1.1
  refine (laws_FnExactGrant.calls k A0_0 c0_0 l0_0 a0_1 a0_2 A1 c1 l1 true W hr0_0 hc0_0 hr1 hc1 hP).mono fun e W' ⟨he, bel0⟩ => ?_
  have bel : Below W.heap.size W W' := bel0
  subst he
  exact ⟨_, rfl, _, _, _, [], _, [], hW', trodAll_mk1 (shut_bool Try.underlying4 _), (trodAll_cons_mk (Below.trod laidOut (by kernel_rfl) (of_decide_eq_true (by kernel_rfl)) k0 bel lt0) (trodAll_cons_mk (Below.trod laidOut (by kernel_rfl) (of_decide_eq_true (by kernel_rfl)) k1 bel lt1) trodAll_mk0)), rfl, bel.frame _, fun h => by cases h⟩
theorem over : Rows.fnExactGrantRow.holds Try.pinned (OpenSpec.ofChange Rows.fnExactGrantSpec) :=
  OpenClaim.holds_of_wide 10 Try.f10 rfl rfl rfl rfl rfl rfl rfl ⟨rfl, rfl, rfl, rfl, rfl⟩ rfl rfl rfl rfl rfl (by kernel_rfl) Try.func10 (by kernel_rfl)
    (of_decide_eq_true (by kernel_rfl)) (by unfold Func.isWrapper; first | (rw [if_pos (by decide +kernel)]; kernel_rfl) | (rw [if_neg (by decide +kernel)]; exact ⟨rfl, rfl⟩))
    (fun os started H enc _ => lifted os started H enc)
theorem proved : Rows.FnExactGrantSaid := over
#print axioms proved
end Go.Proofs.Ytphlfmmhpmhjfaa.fnExactGrant
namespace Go.Proofs.Ytphlfmmhpmhjfaa
/-- The row, under a short name, for the claim. -/
theorem fnExactGrant_holds : Rows.FnExactGrantSaid := fnExactGrant.proved
end Go.Proofs.Ytphlfmmhpmhjfaa
