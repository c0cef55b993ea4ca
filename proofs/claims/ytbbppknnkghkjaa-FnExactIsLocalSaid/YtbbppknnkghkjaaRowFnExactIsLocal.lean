/- The row of FnExactIsLocal: whatever the input, the law returns true; out of its printed contract and its pure statement. -/
import Derived.Test.YtbbppknnkghkjaaRows
import Derived.Test.YtbbppknnkghkjaaPFnExactIsLocalx22
import Derived.Test.YtbbppknnkghkjaaPureFnExactIsLocal
import Derived.Test.YtbbppknnkghkjaaOpens
import Derived.WalkKit
import Derived.ProofKit
import Derived.OpenShut
import Derived.ShutString
import Derived.ChangeOld
import Derived.Below
import Derived.SizedLaws
namespace Go.Proofs.Ytbbppknnkghkjaa.fnExactIsLocal
open Go.ChangeShapes Go.WideShapes Go.ChangeAt Go.RowKit
open Go.Proofs.YtbbppknnkghkjaaW.PrintWords Go.Proofs.Ytbbppknnkghkjaa.PFnExactIsLocal Go.Proofs.Ytbbppknnkghkjaa.Opens
set_option linter.unusedVariables false
theorem own : ownKnob Try.prog.godebug = none := by kernel_rfl
theorem laidOut : laidOutB Try.prog = true := by kernel_rfl
theorem opens83 : Opens Try.prog 83 k83 (fun x => ((Lit.int .i64 x.f0).wf = true) ∧ ((Lit.int .i64 x.f1).wf = true) ∧ ((Lit.int .i64 x.f2).wf = true)) := by
  have h := Opens.struct Try.underlying83 (Fields.cons (Opens.int Try.underlying3 (by kernel_rfl)) rfl (Fields.cons (Opens.int Try.underlying3 (by kernel_rfl)) rfl (Fields.one (Opens.int Try.underlying3 (by kernel_rfl)) rfl))) (by kernel_rfl) (fun x : S83 => (x.f0, x.f1, x.f2)) (fun a => ⟨a.1, a.2.1, a.2.2⟩) (fun _ => rfl)
  exact h
set_option maxRecDepth 100000 in
theorem lifted (os : Os) (started : os.Started) (H : Type) (enc : TypeId × Value → H) :
    ReturnsInHanded {} Try.checked os 5 .any (Rows.fnExactIsLocalSpec.pre6 enc Try.prog Try.f5 Rows.fnExactIsLocalRow.domain false) (Rows.fnExactIsLocalSpec.post enc Try.prog Try.f5 false true false false) := by
  refine returnsInHanded_of_change_sized (C := Try.checked) own started (by kernel_rfl) Try.func5
    (ChangeSpec.witness6 (enc := enc) (C := Try.checked) false ⟨#[], #[.slice none 0 0, .agg #[.slice none 0 0, .slice none 0 0, .slice none 0 0], .int .i64 0, .int .i64 0], []⟩ 8 (by kernel_rfl) (by kernel_rfl) (by kernel_rfl) (by kernel_rfl)) ?_
  intro W base args ds gs before hval0 hW hcnd hsz0 _
  have hval : ∀ (j : Nat) t v, Try.f5.params[j]? = some t → args[j]? = some v → Value.okWide Try.prog W .any base t v := hval0
  have hW' := hW
  obtain ⟨p, q, hA0, hV, rfl, hfz, hnd⟩ := hW
  have hA : DataW.TrodAll enc Try.prog W 0 (fun _ => true) true Try.f5.params.toList args.toList ds p := hA0
  rw [Try.params5] at hA hval
  obtain ⟨v0, vs0, d0, ds0, p0, q0, hargs, rfl, rfl, h0, r0⟩ := trodAll_cons hA
  obtain ⟨v1, vs1, d1, ds1, p1, q1, rfl, rfl, rfl, h1, r1⟩ := trodAll_cons r0
  obtain ⟨v2, vs2, d2, ds2, p2, q2, rfl, rfl, rfl, h2, r2⟩ := trodAll_cons r1
  obtain ⟨v3, vs3, d3, ds3, p3, q3, rfl, rfl, rfl, h3, r3⟩ := trodAll_cons r2
  obtain ⟨rfl, rfl, rfl⟩ := trodAll_nil r3
  obtain rfl : args = #[v0, v1, v2, v3] := by cases args; simp_all
  obtain ⟨rfl, rfl⟩ := trodVars_none hV
  have k0 := h0
  have lt0 : ∀ x ∈ p0, x.block < W.heap.size := by obtain ⟨m, hm⟩ := k0; exact DataW.trod_lt m _ _ _ hm
  obtain ⟨b0, len0, cap0, rfl⟩ := okWide_slice Try.underlying22 (hval 0 22 v0 rfl rfl)
  obtain ⟨fuel0, hf0⟩ := h0
  obtain ⟨l0, hK0, hv0⟩ := (Opens.slice Try.underlying22 (by kernel_rfl) opens83).op hf0
  obtain ⟨A0, c0, he0, hc0, hr0⟩ := hK0
  obtain ⟨rfl, rfl, rfl⟩ : A0 = b0 ∧ l0.length = len0 ∧ c0 = cap0 := by simpa [Value.cells, eq_comm] using he0
  have k1 := h1
  have lt1 : ∀ x ∈ p1, x.block < W.heap.size := by obtain ⟨m, hm⟩ := k1; exact DataW.trod_lt m _ _ _ hm
  obtain ⟨cs1, rfl, hs1⟩ := okWide_struct Try.underlying25 (hval 1 25 v1 rfl rfl)
  obtain ⟨fuel1, hf1⟩ := h1
  obtain ⟨⟨l1_0, ⟨l1_1, l1_2⟩⟩, hK1, hv1⟩ := (Opens.struct' Try.underlying25 (Fields.cons (Opens.slice Try.underlying23 (by kernel_rfl) (Opens.int Try.underlying3 (by kernel_rfl))) rfl (Fields.cons (Opens.slice Try.underlying23 (by kernel_rfl) (Opens.int Try.underlying3 (by kernel_rfl))) rfl (Fields.one (Opens.slice Try.underlying23 (by kernel_rfl) (Opens.int Try.underlying3 (by kernel_rfl))) rfl))) (by kernel_rfl)).op hf1
  obtain ⟨_, _, he1, ⟨A1_0, c1_0, rfl, hc1_0, hr1_0⟩, ⟨_, _, rfl, ⟨A1_1, c1_1, rfl, hc1_1, hr1_1⟩, ⟨A1_2, c1_2, rfl, hc1_2, hr1_2⟩⟩⟩ := hK1
  obtain rfl : cs1 = #[.slice A1_0 l1_0.length c1_0, .slice A1_1 l1_1.length c1_1, .slice A1_2 l1_2.length c1_2] := by apply Array.ext'; simpa [Value.cells] using he1
  obtain ⟨a2, rfl, rfl, rfl, w2⟩ := open_int Try.underlying3 (hval 2 3 v2 rfl rfl) h2
  obtain ⟨a3, rfl, rfl, rfl, w3⟩ := open_int Try.underlying3 (hval 3 3 v3 rfl rfl) h3
  clear hA0 hval0 hsz0
  obtain ⟨k, hP⟩ := Pure.FnExactIsLocal l0 l1_0 l1_1 l1_2 a2 a3 hv0.1 hv0.2 hv1.1.1 hv1.1.2 hv1.2.1.1 hv1.2.1.2 hv1.2.2.1 hv1.2.2.2 w2 w3
  refine (laws_FnExactIsLocal.calls k A0 c0 l0 A1_0 c1_0 l1_0 A1_1 c1_1 l1_1 A1_2 c1_2 l1_2 a2 a3 true W hr0 hc0 hr1_0 hc1_0 hr1_1 hc1_1 hr1_2 hc1_2 hP).mono fun e W' ⟨he, bel0⟩ => ?_
  have bel : Below W.heap.size W W' := bel0
  subst he
  exact ⟨_, rfl, _, _, _, [], _, [], hW', trodAll_mk1 (shut_bool Try.underlying4 _), (trodAll_cons_mk (Below.trod laidOut (by kernel_rfl) (of_decide_eq_true (by kernel_rfl)) k0 bel lt0) (trodAll_cons_mk (Below.trod laidOut (by kernel_rfl) (of_decide_eq_true (by kernel_rfl)) k1 bel lt1) (trodAll_cons_mk (shut_int Try.underlying3 w2) (trodAll_cons_mk (shut_int Try.underlying3 w3) trodAll_mk0)))), rfl, bel.frame _, fun h => by cases h⟩
theorem ov1 : Try.pinned.checked.prog.funcNamed Rows.fnExactIsLocalRow.func = some 5 := by kernel_rfl
theorem ov2 : joinedFacts Try.pinned.checked.prog 5 Try.f5 Rows.fnExactIsLocalSpec Rows.fnExactIsLocalRow = true := by kernel_rfl
theorem ov3 : Try.f5.isInstance Try.pinned.checked.prog Rows.fnExactIsLocalRow.origin Rows.fnExactIsLocalRow.targs := of_decide_eq_true (by kernel_rfl)
theorem ov4 : Try.f5.isWrapper Try.pinned.checked.prog Rows.fnExactIsLocalRow.wrapper Rows.fnExactIsLocalRow.mainSum := by unfold Func.isWrapper; first | (rw [if_pos (by decide +kernel)]; kernel_rfl) | (rw [if_neg (by decide +kernel)]; exact ⟨rfl, rfl⟩)
theorem over : Rows.fnExactIsLocalRow.holds Try.pinned (OpenSpec.ofChange Rows.fnExactIsLocalSpec) :=
  OpenClaim.holds_of_wide 5 Try.f5 rfl rfl rfl rfl rfl rfl rfl ⟨rfl, rfl, rfl, rfl, rfl⟩ rfl rfl rfl rfl rfl ov1 Try.func5 ov2 ov3 ov4 (fun os started H enc _ => lifted os started H enc)
theorem proved : Rows.FnExactIsLocalSaid := over
#print axioms proved
end Go.Proofs.Ytbbppknnkghkjaa.fnExactIsLocal
namespace Go.Proofs.Ytbbppknnkghkjaa
/-- The row, under a short name, for the claim. -/
theorem fnExactIsLocal_holds : Rows.FnExactIsLocalSaid := fnExactIsLocal.proved
end Go.Proofs.Ytbbppknnkghkjaa
