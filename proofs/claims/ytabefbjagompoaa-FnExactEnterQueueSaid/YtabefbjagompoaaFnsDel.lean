/- The contract of slices.Delete over a row of packets of the call's own, for one element that is taken out. -/
import Derived.Test.YtabefbjagompoaaFns
import Derived.Test.YtabefbjagompoaaWApart
import Derived.Deep.RegionLaw
import Derived.Shelf.RegionOpenPlain
import Derived.Lib.SliceRun
namespace Go.Proofs.Ytabefbjagompoaa.Fns
open Go.RowKit Go.Proofs.YtabefbjagompoaaW.PrintWords
set_option linter.unusedVariables false
set_option linter.unusedSimpArgs false

def zero_pk : Value := .agg #[.int .i64 0, .int .i64 0, .int .i64 0, .int .i64 0, .int .i64 0, .int .i64 0, .int .i64 0, .slice none 0 0]
theorem R_cap {α : Type} {d : Kd α} {e g n c : Nat} {w : World} {base : Nat} {ok : Nat → Prop} {xs : List α} (h : d.R e w base ok (.slice (some ⟨g, 0, none⟩) n c) xs) : c ≤ 9223372036854775807 := by
  obtain ⟨_, inner, hown, _⟩ := h
  rcases hown.2 with ⟨hv, _⟩ | ⟨g', cap', cur, hv, _, _, _, hcm, _⟩
  · cases hv
  · injection hv with _ _ hc
    subst hc
    simpa only [maxLen] using hcm
/-- Cells behind a row's length are written: the row stays as it is. -/
theorem R_tail {α : Type} {d : Kd α} {e g n c : Nat} {w : World} {base : Nat} {ok : Nat → Prop} {xs : List α} (h : d.R e w base ok (.slice (some ⟨g, 0, none⟩) n c) xs) (off : Nat) (ho : n * d.sz ≤ off) (zs : List Value) (hz : off + zs.length ≤ c * d.sz) :
    d.R e (w.setCells g off zs) base ok (.slice (some ⟨g, 0, none⟩) n c) xs ∧ w.grownBy (w.setCells g off zs) (some g) := by
  obtain ⟨hok, inner, hown, hr⟩ := h
  rcases hown.2 with ⟨hv, _⟩ | ⟨g', cap', cur, hv, hb, hh, h1, h2, h3, h4⟩
  · cases hv
  have hv0 := hv
  injection hv with ha hn hc
  injection ha with ha
  injection ha with hg
  subst hg; subst hc; subst hn
  obtain ⟨s1, s2, s3, s4⟩ := setCells_same g zs off w
  have hgr : w.grownBy (w.setCells g off zs) (some g) := ⟨s1, s2, s3, by rw [s4]; exact Nat.le_refl _, fun k _ hk => setCells_far zs off k (fun e => hk (by rw [e]))⟩
  obtain ⟨cur', c1, c2, c3⟩ := setCells_row zs off w cur hh (by omega)
  refine ⟨⟨hok, inner, ⟨hown.1, .inr ⟨g, c, cur', rfl, hb, c1, h1, h2, c2.trans h3, ?_⟩⟩, hr.1, fun q p hq => d.M_move (fun k hk => setCells_far zs off k (fun e => hk.2 (by rw [e]; rfl))) (hr.2 q p hq)⟩, hgr⟩
  show cur'.toList.take (xs.length * d.sz) = inner
  have e1 : (cur.toList.take off).length = off := by rw [List.length_take, Array.length_toList]; omega
  rw [c3, List.append_assoc, List.take_append_of_le_length (by rw [e1]; exact ho), List.take_take, Nat.min_eq_left ho]
  exact h4
theorem step_run {P : Program} {ops : Array Oper} {o : Oper} {a : Act} {w w1 : World} {K : Act → World → Prop} {Q : Exit → Act → World → Prop} {E : Prop}
    (hg : o.guard = none) (s x : Operand) (t : TypeId) (hop : o.op = Op.call { callee := Callee.builtin Builtin.append, args := #[s, x], argTypes := #[t, t] })
    (v1 v2 v : Value) (hs : a.eval s = v1) (hx : a.eval x = v2) (hrun : (Builtin.append_ #[t, t] o.type #[v1, v2]).run P w = .ok v w1) (hK : K (a.put o.dst v) w1) :
    if Region.wanted o (yielded ops a.tmps) = true then Oper.wp P o a w K Q else E := by
  have hw : Region.wanted o (yielded ops a.tmps) = true := by simp [Region.wanted, hg]
  rw [if_pos hw]
  unfold Oper.wp
  simp [execOp, hop, resolve, invoke, builtin, hs, hx, hrun, Result.andThen]
  exact hK
theorem run_clear_one {P : Program} (w : World) (t e ty : TypeId) (z : Value) (ht : P.underlying t = some (.slice e)) (hv : ∀ w, (zeroValue e).run P w = .ok z w) (h1 : ∀ u ∈ z.cells.toList, u.oneCell' = true) (h0 : 0 < z.cells.size) (b o c : Nat)
    (hc : ∀ j, j < z.cells.size → (w.cell? ⟨b, o + j, none⟩).isSome = true) (hf : ∀ j, j < z.cells.size → w.frozen? ⟨b, o + j, none⟩ = false) :
    (Builtin.clear_ #[t] ty #[.slice (some ⟨b, o, none⟩) 1 c]).run P w = .ok (.tuple #[]) (w.setCells b o z.cells.toList) := by
  have hzc : (Builtin.zeroCells z.cells 1).toList = z.cells.toList := by
    simp [Builtin.zeroCells]
    apply List.ext_getElem
    · simp
    · intro i h3 h2
      have h1 : i < z.cells.size := by simpa using h2
      rw [List.getElem_map, List.getElem_range, Nat.mod_eq_of_lt h1, getElem!_pos z.cells i h1, Array.getElem_toList]
  have hst := run_storeCells_cells (P := P) b o z.cells.toList 0 w (by simpa using hc) (by simpa using hf) h1
  simp only [Nat.add_zero] at hst
  simp [Builtin.clear_, run_underlying ht, hv, hzc, hst]

set_option maxHeartbeats 4000000 in
set_option maxRecDepth 1000000 in
theorem delete_R {α : Type} (d : Kd α) (hd : d.sz = 8) (i0 : TypeInfo) (hi0 : Try.prog.info? 33 = some i0) (hi8 : i0.size = 8) (g n c i j : Nat) (hj : j = i + 1) (ok : Nat → Prop) (xs : List α) (w0 w : World) (hB : Below w0.heap.size w0 w)
    (HO : d.R 33 w w0.heap.size ok (.slice (some ⟨g, 0, none⟩) n c) xs) (hi : i < n) :
    Calls Try.prog 78 #[.slice (some ⟨g, 0, none⟩) n c, .int .i64 (i : Int), .int .i64 (j : Int)] w fun e w' => e = .returned (.slice (some ⟨g, 0, none⟩) (n - 1) c) ∧
      d.R 33 w' w0.heap.size ok (.slice (some ⟨g, 0, none⟩) (n - 1) c) (xs.eraseIdx i) ∧ w.grownBy w' (some g) := by
  have hm := R_cap HO
  have hic : i ≤ c := by have := Kd.R_reads' HO; omega
  have hjc : j ≤ c := by have := Kd.R_reads' HO; omega
  have hnc : n ≤ c := by have := Kd.R_reads' HO; omega
  have hn1 : n ≤ 9223372036854775807 := by omega
  obtain ⟨A, hA⟩ : ∃ A : Option Addr, (if c = j then some (⟨g, 0, none⟩ : Addr) else some ⟨g, j * 8, none⟩) = A := ⟨_, rfl⟩
  obtain ⟨w1, hrun, hR1, hg1⟩ := Kd.R_delete_run (P := Try.prog) (W := w.drew) d w0.heap.size 24 24 33 i0 Try.underlying24 hi0 (hi8.trans hd.symm) (Kd.R_drew HO) hi (A := A)
    (by rw [← hA, hj, hd, Option.map_some, add_plain]) (c - j)
  rw [← hj] at hrun
  have hlt : i < j := by omega
  have hjn : j ≤ n := by omega
  have mixed : Try.prog.follows Departure.mixedOrders = true := by kernel_rfl
  have hG : w.grownBy w1 (some g) := World.grownBy.trans (grown_of_below (below_drew (Below.refl _ _)) _) hg1
  obtain ⟨m, hm1⟩ : ∃ m, m = n - 1 := ⟨_, rfl⟩
  rw [← hm1] at hrun hR1 ⊢
  have hmn : m ≤ n := by omega
  have hmc : m ≤ c := by omega
  have hmne : c ≠ m := by omega
  have hnm : n - m = 1 := by omega
  have hcl : ∀ ty, (Builtin.clear_ #[24] ty #[.slice (some ⟨g, m * 8, none⟩) 1 (c - m)]).run Try.prog w1 = .ok (.tuple #[]) (w1.setCells g (m * 8) zero_pk.cells.toList) := by
    intro ty
    obtain ⟨_, inner, hown, hr⟩ := hR1
    rcases hown.2 with ⟨hv, _⟩ | ⟨g', cap', cur, hv, hb, hh, _, _, hcs, _⟩
    · cases hv
    injection hv with ha _ hc
    injection ha with ha
    injection ha with hg
    subst hg; subst hc
    rw [hd] at hcs
    have hz8 : zero_pk.cells.size = 8 := rfl
    refine run_clear_one w1 _ _ ty zero_pk Try.underlying24 (fun w => by kernel_rfl) (by decide) (by decide) g (m * 8) (c - m) (fun j hj => ?_) (fun j hj => ?_)
    · rw [cell_of_row w1 g _ cur _ (0, 0) hh, Array.getElem?_eq_getElem (by omega)]
      rfl
    · simp [World.frozen?, hh]
  have hT := R_tail hR1 (m * 8) (by rw [hd]; omega) zero_pk.cells.toList (by rw [hd]; show m * 8 + 8 ≤ c * 8; omega)
  obtain ⟨zs, hzs⟩ : ∃ zs, zs = zero_pk.cells.toList := ⟨_, rfl⟩
  rw [← hzs] at hT
  simp only [← hzs] at hcl
  have HT := Aside0.mk hT
  have HJ := Aside0.mk hj
  have HG := Aside0.mk hG
  clear hj hm1 hR1 HO hT hG hg1 hzs
  go_enter Try.func78, Try.ntmps78
  go_wp2_with fail
  go_region_law_o (refine step_run rfl (.tmp 22) (.tmp 25) 24 rfl (.slice (some ⟨g, 0, none⟩) i c) (.slice A (n - j) (c - j)) _ (by simp [Act.eval, Act.put]) (by simp [Act.eval, Act.put, hA]) hrun ?_)
  go_wp2
  go_ret
  exact ⟨rfl, HT.out.1, HG.out.trans HT.out.2⟩
end Go.Proofs.Ytabefbjagompoaa.Fns
