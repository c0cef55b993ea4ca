/- Still more short words for the printed walks. -/
import Derived.Test.YtabefbjagompoaaKit2
namespace Go.Proofs.Ytabefbjagompoaa.Kit3
open Go.RowKit Go.Proofs.YtabefbjagompoaaW.PrintWords Go.Proofs.Ytabefbjagompoaa.Kit Go.Proofs.Ytabefbjagompoaa.Kit2
set_option linter.unusedVariables false
section
variable {α : Type} {d : Kd α} {e : Nat} {w : World} {b : Nat} {ok : Nat → Prop} {v : Value} {xs : List α} {g t : Nat} {cells : Array Value}
theorem rf1 (h : Aside0 (d.R e w b ok v xs)) (hb : Aside0 (w.heap[g]? = some (.cells cells t (0, 0)))) (v0 : Value) (ht : ∀ q, q ∈ e :: d.E → q ≠ t := by decide) : d.R e (w.setCell ⟨g, 0, none⟩ v0) b (fun k => ok k ∧ k ≠ g) v xs :=
  Kd.R_far (p := ⟨g, 0, none⟩) (Kd.R_types h.out hb.out ht) (fun _ h => h.2) v0
theorem rf2 (h : Aside0 (d.R e w b ok v xs)) (hb : Aside0 (w.heap[g]? = some (.cells cells t (0, 0)))) (v0 v1 : Value) (ht : ∀ q, q ∈ e :: d.E → q ≠ t := by decide) : d.R e ((w.setCell ⟨g, 0, none⟩ v0).setCell ⟨g, 1, none⟩ v1) b (fun k => ok k ∧ k ≠ g) v xs :=
  Kd.R_far (p := ⟨g, 1, none⟩) (rf1 h hb v0 ht) (fun _ h => h.2) v1
theorem rf3 (h : Aside0 (d.R e w b ok v xs)) (hb : Aside0 (w.heap[g]? = some (.cells cells t (0, 0)))) (v0 v1 v2 : Value) (ht : ∀ q, q ∈ e :: d.E → q ≠ t := by decide) : d.R e (((w.setCell ⟨g, 0, none⟩ v0).setCell ⟨g, 1, none⟩ v1).setCell ⟨g, 2, none⟩ v2) b (fun k => ok k ∧ k ≠ g) v xs :=
  Kd.R_far (p := ⟨g, 2, none⟩) (rf2 h hb v0 v1 ht) (fun _ h => h.2) v2
theorem rf4 (h : Aside0 (d.R e w b ok v xs)) (hb : Aside0 (w.heap[g]? = some (.cells cells t (0, 0)))) (v0 v1 v2 v3 : Value) (ht : ∀ q, q ∈ e :: d.E → q ≠ t := by decide) : d.R e ((((w.setCell ⟨g, 0, none⟩ v0).setCell ⟨g, 1, none⟩ v1).setCell ⟨g, 2, none⟩ v2).setCell ⟨g, 3, none⟩ v3) b (fun k => ok k ∧ k ≠ g) v xs :=
  Kd.R_far (p := ⟨g, 3, none⟩) (rf3 h hb v0 v1 v2 ht) (fun _ h => h.2) v3
end
theorem nf {p q : Nat → Prop} (h : ∀ k, p k → q k → False := by intro k_ hk_ hs_; first | (revert hs_; simp only [ne_eq, hk_, false_imp_iff]) | (simp_all)) : ∀ k, p k → q k → False := h
theorem fq2 {p q : Nat → Prop} (h : ∀ k, p k → q k := by intro k_ hk_; first | simp only [ne_eq, hk_, not_false_eq_true, and_self, true_and, and_true] | (simp_all)) : ∀ k, p k → q k := h
theorem hr_ {p : Prop} (h : p := by first | (go_simp; done) | (go_simp; rfl)) : p := h
theorem sd_ {p : Prop} (h : p := by first | rfl | (simp; done) | (simp [*]; done)) : p := h
theorem ds_ {w W : World} (h : Drawn0 w W := by repeat (first | exact Drawn0.refl _ | apply Drawn0.step)) : Drawn0 w W := h
theorem bs_ {α β : Type} {a : α} {f : α → Option β} {x : Option β} (h : (some a).bind f = x) : f a = x := (Option.bind_some _ _).symm.trans h
end Go.Proofs.Ytabefbjagompoaa.Kit3
