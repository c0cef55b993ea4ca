/- Printed: each Go function as a Lean function, with the proof that Go comes to just its answer (squeezed) -/
import Derived.Test.YtbbppknnkghkjaaPFnExactAllocatex0
namespace Go.Proofs.Ytbbppknnkghkjaa.PFnExactAllocate
open Go.RowKit Go.Proofs.YtbbppknnkghkjaaW.PrintWords Go.Proofs.YtbbppknnkghkjaaW.PrintLast Go.Proofs.YtbbppknnkghkjaaW.PrintMore Go.Proofs.Ytbbppknnkghkjaa.Kit Go.Proofs.Ytbbppknnkghkjaa.Kit3
open Go.Proofs.YtbbppknnkghkjaaW.PrintWords.Kd (R_below R_mono R_far R_types R_elder' R_base R_lower R_new' R_newB R_lt R_after R_slice R_drew R_drewN R_alloc R_reads' R_bound R_append R_ne R_step C_below C_alloc C_drew C_drewN)
attribute [local go_sem] max2_int min2_int max_two min_two max_three min_three max_four min_four   -- for this text's walks alone
set_option linter.unusedVariables false
set_option linter.unusedSimpArgs false

theorem eqA50 (d : Nat) (w : World) (x0 y0 : Int) (x1 y1 : Int) (x2 y2 : Int) :
  (Op.equalIn (d + 2) 50 (.agg #[.int .i64 x0, .int .i64 x1, .int .i64 x2]) (.agg #[.int .i64 y0, .int .i64 y1, .int .i64 y2])).run Try.prog w = .ok (x0 == y0 && (x1 == y1 && (x2 == y2))) w := by
 refine eqA_of Try.underlying50 (by kernel_rfl) ?_
 refine eqf_cons (by rfl) (by go_simp; rfl) (by go_simp; rfl) (by go_simp) ?_
 refine eqf_cons (by rfl) (by go_simp; rfl) (by go_simp; rfl) (by go_simp) ?_
 exact eqf_last (by rfl) (by go_simp; rfl) (by go_simp; rfl) (by go_simp)
end Go.Proofs.Ytbbppknnkghkjaa.PFnExactAllocate
