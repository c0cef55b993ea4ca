/- The row of FnExactAllocate: whatever the input, the law returns true; out of its printed contract and its pure statement. -/
import Derived.Test.YtbbppknnkghkjaaRows
import Derived.Test.YtbbppknnkghkjaaPFnExactAllocatex12
import Derived.Test.YtbbppknnkghkjaaPureFnExactAllocate
import Derived.Test.YtbbppknnkghkjaaOpens
import Derived.WalkKit
import Derived.ProofKit
import Derived.OpenShut
import Derived.ShutString
import Derived.ChangeOld
import Derived.Below
import Derived.SizedLaws
namespace Go.Proofs.Ytbbppknnkghkjaa.fnExactAllocate
open Go.ChangeShapes Go.WideShapes Go.ChangeAt Go.RowKit
open Go.Proofs.YtbbppknnkghkjaaW.PrintWords Go.Proofs.Ytbbppknnkghkjaa.PFnExactAllocate Go.Proofs.Ytbbppknnkghkjaa.Opens
set_option linter.unusedVariables false
theorem own : ownKnob Try.prog.godebug = none := by kernel_rfl
theorem laidOut : laidOutB Try.prog = true := by kernel_rfl
theorem opens83 : Opens Try.prog 83 k83 (fun x => ((Lit.int .i64 x.f0).wf = true) ∧ ((Lit.int .i64 x.f1).wf = true) ∧ ((Lit.int .i64 x.f2).wf = true)) := by
  have h := Opens.struct Try.underlying83 (Fields.cons (Opens.int Try.underlying3 (by kernel_rfl)) rfl (Fields.cons (Opens.int Try.underlying3 (by kernel_rfl)) rfl (Fields.one (Opens.int Try.underlying3 (by kernel_rfl)) rfl))) (by kernel_rfl) (fun x : S83 => (x.f0, x.f1, x.f2)) (fun a => ⟨a.1, a.2.1, a.2.2⟩) (fun _ => rfl)
  exact h
set_option maxRecDepth 100000 in
theorem lifted (os : Os) (started : os.Started) (H : Type) (enc : TypeId × Value → H) :
    ReturnsInHanded {} Try.checked os 16 .any (Rows.fnExactAllocateSpec.pre6 enc Try.prog Try.f16 Rows.fnExactAllocateRow.domain false) (Rows.fnExactAllocateSpec.post enc Try.prog Try.f16 false true false false) := by
  refine returnsInHanded_of_change_sized (C := Try.checked) own started (by kernel_rfl) Try.func16
    (ChangeSpec.witness6 (enc := enc) (C := Try.checked) false ⟨#[], #[.slice none 0 0, .slice none 0 0], []⟩ 8 (by kernel_rfl) (by kernel_rfl) (by kernel_rfl) (by kernel_rfl)) ?_
  intro W base args ds gs before hval0 hW hcnd hsz0 _
  have hval : ∀ (j : Nat) t v, Try.f16.params[j]? = some t → args[j]? = some v → Value.okWide Try.prog W .any base t v := hval0
  have hW' := hW
  obtain ⟨p, q, hA0, hV, rfl, hfz, hnd⟩ := hW
  have hA : DataW.TrodAll enc Try.prog W 0 (fun _ => true) true Try.f16.params.toList args.toList ds p := hA0
  rw [Try.params16] at hA hval
  obtain ⟨v0, vs0, d0, ds0, p0, q0, hargs, rfl, rfl, h0, r0⟩ := trodAll_cons hA
  obtain ⟨v1, vs1, d1, ds1, p1, q1, rfl, rfl, rfl, h1, r1⟩ := trodAll_cons r0
  obtain ⟨rfl, rfl, rfl⟩ := trodAll_nil r1
  obtain rfl : args = #[v0, v1] := by cases args; simp_all
  obtain ⟨rfl, rfl⟩ := trodVars_none hV
  have k0 := h0
  have lt0 : ∀ x ∈ p0, x.block < W.heap.size := by obtain ⟨m, hm⟩ := k0; exact DataW.trod_lt m _ _ _ hm
  obtain ⟨b0, len0, cap0, rfl⟩ := okWide_slice Try.underlying22 (hval 0 22 v0 rfl rfl)
  obtain ⟨fuel0, hf0⟩ := h0
  obtain ⟨l0, hK0, hv0⟩ := (Opens.slice Try.underlying22 (by kernel_rfl) opens83).op hf0
  obtain ⟨A0, c0, he0, hc0, hr0⟩ := hK0
  obtain ⟨rfl, rfl, rfl⟩ : A0 = b0 ∧ l0.length = len0 ∧ c0 = cap0 := by simpa [Value.cells, eq_comm] using he0
  have k1 := h1
  have lt1 : ∀ x ∈ p1, x.block < W.heap.size := by obtain ⟨m, hm⟩ := k1; exact DataW.trod_lt m _ _ _ hm
  obtain ⟨b1, len1, cap1, rfl⟩ := okWide_slice Try.underlying23 (hval 1 23 v1 rfl rfl)
  obtain ⟨fuel1, hf1⟩ := h1
  obtain ⟨l1, hK1, hv1⟩ := (Opens.slice Try.underlying23 (by kernel_rfl) (Opens.int Try.underlying3 (by kernel_rfl))).op hf1
  obtain ⟨A1, c1, he1, hc1, hr1⟩ := hK1
  obtain ⟨rfl, rfl, rfl⟩ : A1 = b1 ∧ l1.length = len1 ∧ c1 = cap1 := by simpa [Value.cells, eq_comm] using he1
  clear hA0 hval0 hsz0
  obtain ⟨k, hP⟩ := Pure.FnExactAllocate l0 l1 hv0.1 hv0.2 hv1.1 hv1.2
  refine (laws_FnExactAllocate.calls k A0 c0 l0 A1 c1 l1 true W hr0 hc0 hr1 hc1 hP).mono fun e W' ⟨he, bel0⟩ => ?_
  have bel : Below W.heap.size W W' := bel0
  subst he
  exact ⟨_, rfl, _, _, _, [], _, [], hW', trodAll_mk1 (shut_bool Try.underlying4 _), (trodAll_cons_mk (Below.trod laidOut (by kernel_rfl) (of_decide_eq_true (by kernel_rfl)) k0 bel lt0) (trodAll_cons_mk (Below.trod laidOut (by kernel_rfl) (of_decide_eq_true (by kernel_rfl)) k1 bel lt1) trodAll_mk0)), rfl, bel.frame _, fun h => by cases h⟩
theorem ov1 : Try.pinned.checked.prog.funcNamed Rows.fnExactAllocateRow.func = some 16 := by kernel_rfl
theorem ov2 : joinedFacts Try.pinned.checked.prog 16 Try.f16 Rows.fnExactAllocateSpec Rows.fnExactAllocateRow = true := by kernel_rfl
theorem ov3 : Try.f16.isInstance Try.pinned.checked.prog Rows.fnExactAllocateRow.origin Rows.fnExactAllocateRow.targs := of_decide_eq_true (by kernel_rfl)
theorem ov4 : Try.f16.isWrapper Try.pinned.checked.prog Rows.fnExactAllocateRow.wrapper Rows.fnExactAllocateRow.mainSum := by unfold Func.isWrapper; first | (rw [if_pos (by decide +kernel)]; kernel_rfl) | (rw [if_neg (by decide +kernel)]; exact ⟨rfl, rfl⟩)
theorem over : Rows.fnExactAllocateRow.holds Try.pinned (OpenSpec.ofChange Rows.fnExactAllocateSpec) :=
  OpenClaim.holds_of_wide 16 Try.f16 rfl rfl rfl rfl rfl rfl rfl ⟨rfl, rfl, rfl, rfl, rfl⟩ rfl rfl rfl rfl rfl ov1 Try.func16 ov2 ov3 ov4 (fun os started H enc _ => lifted os started H enc)
theorem proved : Rows.FnExactAllocateSaid := over
#print axioms proved
end Go.Proofs.Ytbbppknnkghkjaa.fnExactAllocate
namespace Go.Proofs.Ytbbppknnkghkjaa
/-- The row, under a short name, for the claim. -/
theorem fnExactAllocate_holds : Rows.FnExactAllocateSaid := fnExactAllocate.proved
end Go.Proofs.Ytbbppknnkghkjaa
