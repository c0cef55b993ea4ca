/- Of every list of grants and port: the program's SharesOf and the reference's are one function, and the copy reads as before. -/
import Derived.Test.YtphlfmmhpmhjfaaPFnExactSharesOfx1
import Derived.Test.YtphlfmmhpmhjfaaCom
namespace Go.Proofs.Ytphlfmmhpmhjfaa.Pure
open Go.RowKit Go.Proofs.Ytphlfmmhpmhjfaa.PFnExactSharesOf Go.Proofs.YtphlfmmhpmhjfaaW.PrintWords Go.Proofs.YtphlfmmhpmhjfaaW.PrintLast Go.Proofs.YtphlfmmhpmhjfaaW.PrintMore Go.Proofs.Ytphlfmmhpmhjfaa.Com
set_option linter.unusedVariables false
set_option linter.unusedSimpArgs false

theorem toIntS_eq (k : Nat) (l : List Int) (hl : l.length ≤ 1048576) (hk : l.length < k) : laws_toIntS.f k l = some l := by
  unfold laws_toIntS.f
  rw [if_pos (by omega), if_pos (by omega)]
  have h := copy_loop laws_toIntS.l0 (fun x => x) l hl (fun k x3 i h h3 => by
      simp only [laws_toIntS.l0]
      rw [if_pos (by omega), if_pos (by omega), if_pos (by omega), rd_nat _ _ h, wr _ (by omega) (by omega)]
      rfl) (fun k x3 h3 => by
      simp only [laws_toIntS.l0]
      rw [if_neg (by omega)]) l.length k (List.replicate ((l.length : Int)).toNat 0) 0 (by omega) hk (by simp) (fun j hj => by omega)
  simpa using h

theorem eqIntS_eq (k : Nat) (a b : List Int) (hl : a.length ≤ 1048576) (hk : a.length < k) : laws_eqIntS.f k a b = some (decide (a = b)) := by
  unfold laws_eqIntS.f
  by_cases e : b.length = a.length
  · rw [if_pos (by omega)]
    have h := eq_loop laws_eqIntS.l0 a b hl e (fun k i h hx => by
        simp only [laws_eqIntS.l0]
        rw [if_pos (by omega), if_pos (by omega), if_pos (by omega), rd_nat _ _ h, rd_nat _ _ (by omega), if_neg hx]) (fun k i h hx => by
        simp only [laws_eqIntS.l0]
        rw [if_pos (by omega), if_pos (by omega), if_pos (by omega), rd_nat _ _ h, rd_nat _ _ (by omega), if_pos hx, wr _ (by omega) (by omega)]
        rfl) (fun k => by
        simp only [laws_eqIntS.l0]
        rw [if_neg (by omega)]) a.length k 0 (by omega) hk
    simpa using h
  · rw [if_neg (by omega)]
    congr 1
    symm
    rw [decide_eq_false_iff_not]
    rintro rfl
    exact e rfl

def shr_ (l : List Int) (p : Int) : Int := l.foldl (fun s x => if x = p then wrap64 (s + 1) else s) 0
theorem ishr_eq (k : Nat) (l : List Int) (p : Int) (hl : l.length ≤ 1048576) (hk : l.length < k) : impl_SharesOf.f k l p = some (shr_ l p) := by
  have h := fold_loop (fun k s i => impl_SharesOf.l0 k p s l (l.length : Int) i) l (fun s x => if x = p then wrap64 (s + 1) else s) id (fun k s i h => by
      simp only [impl_SharesOf.l0]
      rw [if_pos (by omega), if_pos (by omega), if_pos (by omega), rd_nat _ _ h, wr ((i : Int) + 1) (by omega) (by omega)]
      split <;> rfl) (fun k s => by
      simp only [impl_SharesOf.l0]
      rw [if_neg (by omega)]; rfl) l.length k 0 0 (by omega) hk
  exact h

theorem sshr_eq (k : Nat) (l : List Int) (p : Int) (hl : l.length ≤ 1048576) (hk : l.length < k) : spec_SharesOf.f k l p = some (shr_ l p) := by
  have h := fold_loop (fun k s i => spec_SharesOf.l0 k l p s i) l (fun s x => if x = p then wrap64 (s + 1) else s) id (fun k s i h => by
      simp only [spec_SharesOf.l0]
      rw [if_pos (by omega), if_pos (by omega), rd_nat _ _ h, wr ((i : Int) + 1) (by omega) (by omega)]
      split <;> rfl) (fun k s => by
      simp only [spec_SharesOf.l0]
      rw [if_neg (by omega)]; rfl) l.length k 0 0 (by omega) hk
  exact h
theorem FnExactSharesOf : laws_FnExactSharesOf.Pure := by
  intro l p h1 h2 hw hp
  obtain ⟨k, hk⟩ : ∃ k : Nat, 1048576 < k := ⟨1048577, by omega⟩
  refine ⟨k, ?_⟩
  unfold laws_FnExactSharesOf.f
  by_cases hb : (l.length : Int) > 1048576
  · rw [if_pos hb]
  · rw [if_neg hb]
    simp only [toIntS_eq k l (by omega) (by omega), Option.bind_some, sshr_eq k l p (by omega) (by omega), ishr_eq k l p (by omega) (by omega), eqIntS_eq k l l (by omega) (by omega), if_true, decide_true]

end Go.Proofs.Ytphlfmmhpmhjfaa.Pure
