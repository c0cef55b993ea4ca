/- Printed by a program of this session out of the translation: each Go function as a Lean function, with the proof that Go comes to just its answer (no condition beyond what each theorem says). (squeezed) -/
import Derived.Test.YtbbppknnkghkjaaPFnExactDownToIdx0
import Derived.Test.YtbbppknnkghkjaaSteps
import Derived.Test.YtbbppknnkghkjaaPFnExactDownToIdx3
namespace Go.Proofs.Ytbbppknnkghkjaa.PFnExactDownToId
open Go.RowKit Go.Proofs.YtbbppknnkghkjaaW.PrintWords Go.Proofs.YtbbppknnkghkjaaW.PrintLast Go.Proofs.YtbbppknnkghkjaaW.PrintMore Go.Proofs.Ytbbppknnkghkjaa.Kit Go.Proofs.Ytbbppknnkghkjaa.Steps Go.Proofs.Ytbbppknnkghkjaa.Kit2
attribute [local go_sem] max2_int min2_int max_two min_two max_three min_three max_four min_four   -- for this text's walks alone
set_option linter.unusedVariables false
set_option linter.unusedSimpArgs false

/-! ### spec_l20Visit: function 107 -/
mutual
def spec_l20Visit.l0 : Nat → List (S50) → Int → Int → List Int → Int → List Int → List Int → List Int → Option (Int × List Int × List Int × List Int)
 | 0, _, _, _, _, _, _, _, _ => none
 | k + 1, x0, x2, x3, x9, x10, x127000, x127001, x127002 => if x10 < (x9.length : Int) then (if 0 ≤ x10 then (if 0 ≤ x2 then (if x2 < (x127001.length : Int) then (if 0 ≤ (rd x9 x10) then (if (rd x9 x10) < (x127000.length : Int) then ((some (x127000.set ((rd x9 x10) : Int).toNat (rd x127001 x2) : List Int)).bind fun y132 => (if (rd x9 x10) < (x0.length : Int) then (if ((rd_T50 x0 (rd x9 x10)).f2) = 0 then (if (rd x9 x10) < (x127001.length : Int) then ((spec_l20Visit.f k x0 y132 (x127001.set ((rd x9 x10) : Int).toNat (wrap64 (x3 + 1))) x127002 (rd x9 x10) (wrap64 (x3 + 1))).bind fun bt138 => (spec_l20Visit.l0 k x0 x2 bt138.1 x9 (wrap64 (x10 + 1)) bt138.2.1 bt138.2.2.1 bt138.2.2.2)) else (none)) else (spec_l20Visit.l0 k x0 x2 x3 x9 (wrap64 (x10 + 1)) y132 x127001 x127002)) else (none))) else (none)) else (none)) else (none)) else (none)) else (none)) else (if 0 ≤ x2 then (if x2 < (x127002.length : Int) then (some (x3, x127000, x127001, (x127002.set (x2 : Int).toNat x3))) else (none)) else (none))
def spec_l20Visit.f : Nat → List (S50) → List Int → List Int → List Int → Int → Int → Option (Int × List Int × List Int × List Int)
 | 0, _, _, _, _, _, _ => none
 | k + 1, l0, l1_0, l1_1, l1_2, a2, a3 => (spec_ChildrenOf.f k l0 a2).bind fun t127 => (spec_l20Visit.l0 k l0 a2 a3 t127 0 l1_0 l1_1 l1_2)
end
def spec_l20Visit.T5 : Bool × List (List Nat × List Nat) := (true, [([], []), ([0], [0]), ([], []), ([], []), ([2, 3], [2, 3]), ([4], [4]), ([], []), ([6], [6]), ([], []), ([7, 8], [7, 8]), ([9], [9]), ([1, 5, 0, 1, 2, 3, 4, 5, 6, 7, 8, 9, 10], [1, 5]), ([11, 10, 0, 1, 2, 3, 4, 5, 6, 7, 8, 9, 10], [10, 11])])
def spec_l20Visit.B5 : List Nat := [0, 1, 0, 0, 12, 28, 0, 64, 0, 448, 960, 2047, 4095]
theorem spec_l20Visit.tab5 : rtab .any (opsOf Try.f107 5) = spec_l20Visit.T5 := by kernel_rfl
theorem spec_l20Visit.bits5 : waitsOk spec_l20Visit.T5.2 spec_l20Visit.B5 = true := by kernel_rfl
def spec_l20Visit.T8 : Bool × List (List Nat × List Nat) := (true, [([], []), ([0], [0]), ([], []), ([], []), ([2, 3], [2, 3]), ([4], [4]), ([], []), ([1, 5, 0, 1, 2, 3, 4, 5, 6], [1, 5]), ([7, 6, 0, 1, 2, 3, 4, 5, 6], [6, 7])])
def spec_l20Visit.B8 : List Nat := [0, 1, 0, 0, 12, 28, 0, 127, 255]
theorem spec_l20Visit.tab8 : rtab .any (opsOf Try.f107 8) = spec_l20Visit.T8 := by kernel_rfl
theorem spec_l20Visit.bits8 : waitsOk spec_l20Visit.T8.2 spec_l20Visit.B8 = true := by kernel_rfl
def spec_l20Visit.T9 : Bool × List (List Nat × List Nat) := (true, [([], []), ([], []), ([], []), ([], []), ([2, 3], [2, 3]), ([4], [4]), ([], []), ([0, 1, 5, 6], [0, 1, 5, 6]), ([7, 7, 0, 1, 2, 3, 4, 5, 6, 7], [6, 7])])
def spec_l20Visit.B9 : List Nat := [0, 0, 0, 0, 12, 28, 0, 127, 255]
theorem spec_l20Visit.tab9 : rtab .any (opsOf Try.f107 9) = spec_l20Visit.T9 := by kernel_rfl
theorem spec_l20Visit.bits9 : waitsOk spec_l20Visit.T9.2 spec_l20Visit.B9 = true := by kernel_rfl
set_option maxHeartbeats 8000000 in
set_option maxRecDepth 100000 in
theorem spec_l20Visit.calls (k : Nat) : ∀ (A0 : Option Addr) (c0 : Nat) (l0 : List (S50)) (P1_0_ : Nat → Prop) (u9000_ : Value) (l1_0 : List Int) (P1_1_ : Nat → Prop) (u9001_ : Value) (l1_1 : List Int) (P1_2_ : Nat → Prop) (u9002_ : Value) (l1_2 : List Int) (a2 : Int) (a3 : Int) (r1 : Int) (r2 : List Int) (r3 : List Int) (r4 : List Int) (w0 w : World) (hB : Below w0.heap.size w0 w) (hr0 : ∀ W_, Kept w W_ (fun k_ => P1_0_ k_ ∨ P1_1_ k_ ∨ P1_2_ k_) → Kd.C k50 W_ A0 l0.length l0) (hc0 : l0.length ≤ c0) (ho1_0 : Kd.R (Kd.int .i64) 3 w w0.heap.size P1_0_ u9000_ l1_0) (hp1_0_1_1 : ∀ k_, P1_0_ k_ → ¬ P1_1_ k_) (hp1_0_1_2 : ∀ k_, P1_0_ k_ → ¬ P1_2_ k_) (ho1_1 : Kd.R (Kd.int .i64) 3 w w0.heap.size P1_1_ u9001_ l1_1) (hp1_1_1_0 : ∀ k_, P1_1_ k_ → ¬ P1_0_ k_) (hp1_1_1_2 : ∀ k_, P1_1_ k_ → ¬ P1_2_ k_) (ho1_2 : Kd.R (Kd.int .i64) 3 w w0.heap.size P1_2_ u9002_ l1_2) (hp1_2_1_0 : ∀ k_, P1_2_ k_ → ¬ P1_0_ k_) (hp1_2_1_1 : ∀ k_, P1_2_ k_ → ¬ P1_1_ k_) (h : spec_l20Visit.f k l0 l1_0 l1_1 l1_2 a2 a3 = some (r1, r2, r3, r4)),
  Calls Try.prog 107 #[.slice A0 l0.length c0, .agg #[u9000_, u9001_, u9002_], .int .i64 a2, .int .i64 a3] w fun e w' => e = .returned (.int .i64 r1) ∧ Kd.R (Kd.int .i64) 3 w' w0.heap.size (fun k_ => ((P1_0_ k_ ∨ P1_1_ k_ ∨ P1_2_ k_) ∨ w.heap.size ≤ k_)) u9000_ r2 ∧ Kd.R (Kd.int .i64) 3 w' w0.heap.size (fun k_ => ((P1_0_ k_ ∨ P1_1_ k_ ∨ P1_2_ k_) ∨ w.heap.size ≤ k_)) u9001_ r3 ∧ Kd.R (Kd.int .i64) 3 w' w0.heap.size (fun k_ => ((P1_0_ k_ ∨ P1_1_ k_ ∨ P1_2_ k_) ∨ w.heap.size ≤ k_)) u9002_ r4 ∧ Below w0.heap.size w0 w' ∧ Kept w w' (fun k_ => P1_0_ k_ ∨ P1_1_ k_ ∨ P1_2_ k_) := by
 induction k using Nat.strongRecOn with
 | _ k ih =>
 intro A0 c0 l0 P1_0_ u9000_ l1_0 P1_1_ u9001_ l1_1 P1_2_ u9002_ l1_2 a2 a3 r1 r2 r3 r4 w0 w hB hr0 hc0 ho1_0 hp1_0_1_1 hp1_0_1_2 ho1_1 hp1_1_1_0 hp1_1_1_2 ho1_2 hp1_2_1_0 hp1_2_1_1 h
 cases k with
 | zero => exact absurd h (by simp [spec_l20Visit.f])
 | succ k =>
 simp only [spec_l20Visit.f] at h
 have hu31 := Try.underlying31
 have HR0 := Aside0.mk hr0
 have HC0 := Aside0.mk hc0
 clear hr0 hc0
 have HO1_0 := Aside0.mk (show Kd.R (Kd.int .i64) 3 w w0.heap.size (fun k_ => ((P1_0_ k_ ∨ P1_1_ k_ ∨ P1_2_ k_) ∨ w.heap.size ≤ k_) ∧ some k_ ≠ (u9001_ : Value).ownBlock ∧ some k_ ≠ (u9002_ : Value).ownBlock) u9000_ l1_0 from Kd.R_mono ho1_0 (fun k_ hk => ⟨(.inl (.inl hk)), fun e_ => hp1_0_1_1 k_ hk (ho1_1.1 k_ e_.symm), fun e_ => hp1_0_1_2 k_ hk (ho1_2.1 k_ e_.symm)⟩))
 have HO1_1 := Aside0.mk (show Kd.R (Kd.int .i64) 3 w w0.heap.size (fun k_ => ((P1_0_ k_ ∨ P1_1_ k_ ∨ P1_2_ k_) ∨ w.heap.size ≤ k_) ∧ some k_ ≠ (u9000_ : Value).ownBlock ∧ some k_ ≠ (u9002_ : Value).ownBlock) u9001_ l1_1 from Kd.R_mono ho1_1 (fun k_ hk => ⟨(.inl (.inr (.inl hk))), fun e_ => hp1_1_1_0 k_ hk (ho1_0.1 k_ e_.symm), fun e_ => hp1_1_1_2 k_ hk (ho1_2.1 k_ e_.symm)⟩))
 have HO1_2 := Aside0.mk (show Kd.R (Kd.int .i64) 3 w w0.heap.size (fun k_ => ((P1_0_ k_ ∨ P1_1_ k_ ∨ P1_2_ k_) ∨ w.heap.size ≤ k_) ∧ some k_ ≠ (u9000_ : Value).ownBlock ∧ some k_ ≠ (u9001_ : Value).ownBlock) u9002_ l1_2 from Kd.R_mono ho1_2 (fun k_ hk => ⟨(.inl (.inr (.inr hk))), fun e_ => hp1_2_1_0 k_ hk (ho1_0.1 k_ e_.symm), fun e_ => hp1_2_1_1 k_ hk (ho1_1.1 k_ e_.symm)⟩))
 have HK := Aside0.mk (Kept.refl w (fun k_ => P1_0_ k_ ∨ P1_1_ k_ ∨ P1_2_ k_))
 have HW0 := Aside0.mk hB.size
 have HB := Aside0.mk hB
 clear hB
 have H : ((spec_ChildrenOf.f k l0 a2).bind fun t127 => (spec_l20Visit.l0 k l0 a2 a3 t127 0 l1_0 l1_1 l1_2)) = some (r1, r2, r3, r4) := h
 clear h
 replace H := Option.bind_eq_some_iff.mp H
 obtain ⟨t127, A50, H⟩ := H
 replace H : (spec_l20Visit.l0 k l0 a2 a3 t127 0 l1_0 l1_1 l1_2) = some (r1, r2, r3, r4) := H
 have A5 := Aside0.mk A50
 clear A50
 have H' := Aside0.mk H
 clear H
 obtain ⟨Ao6, co6, eo6⟩ := Kd.R_slice HO1_0.out
 subst eo6
 obtain ⟨Ao7, co7, eo7⟩ := Kd.R_slice HO1_1.out
 subst eo7
 obtain ⟨Ao8, co8, eo8⟩ := Kd.R_slice HO1_2.out
 subst eo8
 go_enter Try.func107, Try.ntmps107
 go_wp2_with (first | ((with_reducible refine gate_dst (N := 5) rfl ?_); refine box_event ?hg (N := 5) ?hd (cs := #[.slice Ao6 l1_0.length co6, .slice Ao7 l1_1.length co7, .slice Ao8 l1_2.length co8]) (t := 31) ?hr ?_; (case hd => rfl); (case hg => rfl); (case hr => first | (go_simp; done) | (go_simp; rfl)); intro gb126 hg w9 hbox hb; have t_ := fc8 (Kd.R_below (ra HO1_0.out) hb) (Kd.R_below (ra HO1_1.out) hb) (Kd.R_below (ra HO1_2.out) hb) (Kept.below (S := (fun k_ => P1_0_ k_ ∨ P1_1_ k_ ∨ P1_2_ k_)) (by repeat (first | (with_reducible first | exact HK.out | apply Kept.alloc | apply Kept.drewN | apply Kept.drew) | exact HK.out)) hb) (below_step bb hb) (hbox) ((by rw [hg]; exact (by first | exact HK.out.1 | exact (show Kept w _ (fun k_ => P1_0_ k_ ∨ P1_1_ k_ ∨ P1_2_ k_) from by repeat (first | (with_reducible first | exact HK.out | apply Kept.alloc | apply Kept.drewN | apply Kept.drew) | exact HK.out)).1) : w.heap.size ≤ gb126)) (bg hg : w0.heap.size ≤ gb126); clear HO1_0 HO1_1 HO1_2 HK HB; obtain ⟨HO1_0, HO1_1, HO1_2, HK, HB, BK126, GW126, GE126⟩ := t_; clear hb hbox hg) | ((with_reducible refine gate_callee (f := 41) rfl ?_); refine goesL_ (some 13) rfl rfl Try.func41 (by kernel_rfl) rfl #[.slice A0 l0.length c0, .int .i64 a2] rfl ms ?_; (with_reducible refine (spec_ChildrenOf.calls k _ _ l0 a2 t127 _ ?side1 ?side2 A5.out).mono ?_); (case side1 => exact Kd.C_kept_now HR0.out (by repeat (first | (with_reducible first | exact HK.out | apply Kept.alloc | apply Kept.drewN | apply Kept.drew | refine Kept.setCell ?_ (.inr GW126.out) _) | exact HK.out))); (case side2 => exact HC0.out); rintro e w10 ⟨v128, rfl, ho0, hb⟩; refine ⟨_, rfl, ?_⟩; have t_ := fc7 (Kd.R_elder' (ra HO1_0.out) (Kd.R_base ho0) hb) (Kd.R_elder' (ra HO1_1.out) (Kd.R_base ho0) hb) (Kd.R_elder' (ra HO1_2.out) (Kd.R_base ho0) hb) (Kd.R_lower (Kd.R_new' (Kd.R_new' (Kd.R_new' (Kd.R_newM (M := fun k_ => ((P1_0_ k_ ∨ P1_1_ k_ ∨ P1_2_ k_) ∨ w.heap.size ≤ k_)) ho0 (by first | exact HK.out.1 | exact (show Kept w _ (fun k_ => P1_0_ k_ ∨ P1_1_ k_ ∨ P1_2_ k_) from by repeat (first | (with_reducible first | exact HK.out | apply Kept.alloc | apply Kept.drewN | apply Kept.drew | refine Kept.setCell ?_ (.inr GW126.out) _) | exact HK.out)).1) (fun k_ h_ => .inr h_)) (Kd.R_lt (ra HO1_0.out))) (Kd.R_lt (ra HO1_1.out))) (Kd.R_lt (ra HO1_2.out))) (below_size bb)) (bw BK126 hb) (Kept.below (S := (fun k_ => P1_0_ k_ ∨ P1_1_ k_ ∨ P1_2_ k_)) (by repeat (first | (with_reducible first | exact HK.out | apply Kept.alloc | apply Kept.drewN | apply Kept.drew | refine Kept.setCell ?_ (.inr GW126.out) _) | exact HK.out)) hb) (below_step bb hb); clear HO1_0 HO1_1 HO1_2 BK126 HK HB; obtain ⟨HO1_0, HO1_1, HO1_2, HO129, BK126, HK, HB⟩ := t_; (try clear hb); (try clear hk); (try clear ho0)))
 go_loopg [3, 10] k (fun kq v3 v10 w' => ∃ (x3_1 : Int) (x9_1 : List Int) (x10_1 : Int) (x127000_1 : List Int) (x127001_1 : List Int) (x127002_1 : List Int), v3 = .int .i64 x3_1 ∧ v10 = .int .i64 x10_1 ∧ Aside0 (spec_l20Visit.l0 kq l0 a2 x3_1 x9_1 x10_1 x127000_1 x127001_1 x127002_1 = some (r1, r2, r3, r4)) ∧ Aside0 (kq ≤ k) ∧ Aside0 (Kd.R (Kd.int .i64) 3 w' w0.heap.size (fun k_ => ((P1_0_ k_ ∨ P1_1_ k_ ∨ P1_2_ k_) ∨ w.heap.size ≤ k_) ∧ some k_ ≠ ((.slice Ao6 l1_0.length co6) : Value).ownBlock ∧ some k_ ≠ ((.slice Ao7 l1_1.length co7) : Value).ownBlock ∧ some k_ ≠ ((.slice Ao8 l1_2.length co8) : Value).ownBlock) v128 x9_1) ∧ Aside0 (Kd.R (Kd.int .i64) 3 w' w0.heap.size (fun k_ => ((P1_0_ k_ ∨ P1_1_ k_ ∨ P1_2_ k_) ∨ w.heap.size ≤ k_) ∧ some k_ ≠ (v128 : Value).ownBlock ∧ some k_ ≠ ((.slice Ao7 l1_1.length co7) : Value).ownBlock ∧ some k_ ≠ ((.slice Ao8 l1_2.length co8) : Value).ownBlock) (.slice Ao6 l1_0.length co6) x127000_1) ∧ Aside0 (Kd.R (Kd.int .i64) 3 w' w0.heap.size (fun k_ => ((P1_0_ k_ ∨ P1_1_ k_ ∨ P1_2_ k_) ∨ w.heap.size ≤ k_) ∧ some k_ ≠ (v128 : Value).ownBlock ∧ some k_ ≠ ((.slice Ao6 l1_0.length co6) : Value).ownBlock ∧ some k_ ≠ ((.slice Ao8 l1_2.length co8) : Value).ownBlock) (.slice Ao7 l1_1.length co7) x127001_1) ∧ Aside0 (Kd.R (Kd.int .i64) 3 w' w0.heap.size (fun k_ => ((P1_0_ k_ ∨ P1_1_ k_ ∨ P1_2_ k_) ∨ w.heap.size ≤ k_) ∧ some k_ ≠ (v128 : Value).ownBlock ∧ some k_ ≠ ((.slice Ao6 l1_0.length co6) : Value).ownBlock ∧ some k_ ≠ ((.slice Ao7 l1_1.length co7) : Value).ownBlock) (.slice Ao8 l1_2.length co8) x127002_1) ∧ Aside0 (w'.heap[gb126]? = some (.cells #[(.slice Ao6 l1_0.length co6), (.slice Ao7 l1_1.length co7), (.slice Ao8 l1_2.length co8)] 31 (0, 0))) ∧ Aside0 (Kept w w' (fun k_ => P1_0_ k_ ∨ P1_1_ k_ ∨ P1_2_ k_)) ∧ Aside0 (Below w0.heap.size w0 w'))
 case atStart => exact ⟨(a3), (t127), (0), (l1_0), (l1_1), (l1_2), (by first | rfl | (simp; done) | (simp [*]; done)), (by first | rfl | (simp; done) | (simp [*]; done)), H', ⟨Nat.le_refl _⟩, ⟨by (with_reducible repeat (first | apply Kd.R_alloc | apply Kd.R_drewN | apply Kd.R_drew)); exact Kd.R_mono HO129.out (fun _ hk => (And.intro (hk.1.1.1.1) ((And.intro (hk.1.1.2) ((And.intro (hk.1.2) (hk.2)))))))⟩, ⟨by (with_reducible repeat (first | apply Kd.R_alloc | apply Kd.R_drewN | apply Kd.R_drew)); exact Kd.R_mono HO1_0.out (fun _ hk => (And.intro (hk.1.1) ((And.intro (hk.2) ((And.intro (hk.1.2.1) (hk.1.2.2)))))))⟩, ⟨by (with_reducible repeat (first | apply Kd.R_alloc | apply Kd.R_drewN | apply Kd.R_drew)); exact Kd.R_mono HO1_1.out (fun _ hk => (And.intro (hk.1.1) ((And.intro (hk.2) ((And.intro (hk.1.2.1) (hk.1.2.2)))))))⟩, ⟨by (with_reducible repeat (first | apply Kd.R_alloc | apply Kd.R_drewN | apply Kd.R_drew)); exact Kd.R_mono HO1_2.out (fun _ hk => (And.intro (hk.1.1) ((And.intro (hk.2) ((And.intro (hk.1.2.1) (hk.1.2.2)))))))⟩, ⟨by exact bk⟩, ⟨by repeat (first | (with_reducible first | exact HK.out | apply Kept.alloc | apply Kept.drewN | apply Kept.drew | refine Kept.setCell ?_ (.inr GW126.out) _) | exact HK.out)⟩, ⟨bb⟩⟩
 case round =>
  clear H'
  try clear c1
  try clear p1
  try clear p2
  try clear c4
  try clear c10
  obtain ⟨x3_1, x9_1, x10_1, x127000_1, x127001_1, x127002_1, rfl, rfl, HA, HK1, HO_9, HO_127000, HO_127001, HO_127002, BK126, HK, HB⟩ := hrel
  have hl127000_1 := (Kd.R_reads' HO_127000.out).1
  rw [hl127000_1] at HO_127000
  (try simp only [hl127000_1])
  (try simp only [hl127000_1] at BK126)
  (try simp only [hl127000_1] at HO_9)
  (try simp only [hl127000_1] at HO_127001)
  (try simp only [hl127000_1] at HO_127002)
  have hl127001_1 := (Kd.R_reads' HO_127001.out).1
  rw [hl127001_1] at HO_127001
  (try simp only [hl127001_1])
  (try simp only [hl127001_1] at BK126)
  (try simp only [hl127001_1] at HO_9)
  (try simp only [hl127001_1] at HO_127000)
  (try simp only [hl127001_1] at HO_127002)
  have hl127002_1 := (Kd.R_reads' HO_127002.out).1
  rw [hl127002_1] at HO_127002
  (try simp only [hl127002_1])
  (try simp only [hl127002_1] at BK126)
  (try simp only [hl127002_1] at HO_9)
  (try simp only [hl127002_1] at HO_127000)
  (try simp only [hl127002_1] at HO_127001)
  cases gk with
  | zero => exact absurd HA.out (by simp [spec_l20Visit.l0])
  | succ k1 =>
   have H := HA.out
   clear HA
   simp only [spec_l20Visit.l0] at H
   by_cases c11 : x10_1 < (x9_1.length : Int)
   ·rw [if_pos c11] at H
    have c11b0 : decide (x10_1 < (x9_1.length : Int)) = true := decide_eq_true c11
    (try (have c11h0 := c11b0; simp only [hl127000_1, hl127001_1, hl127002_1] at c11h0))
    clear c11
    by_cases c12 : 0 ≤ x10_1
    ·rw [if_pos c12] at H
     have c12b0 : decide (0 ≤ x10_1) = true := decide_eq_true c12
     clear c12
     by_cases c13 : 0 ≤ a2
     ·rw [if_pos c13] at H
      have c13b0 : decide (0 ≤ a2) = true := decide_eq_true c13
      clear c13
      by_cases c14 : a2 < (x127001_1.length : Int)
      ·rw [if_pos c14] at H
       have c14b0 : decide (a2 < (x127001_1.length : Int)) = true := decide_eq_true c14
       (try (have c14h0 := c14b0; simp only [hl127000_1, hl127001_1, hl127002_1] at c14h0))
       clear c14
       by_cases c15 : 0 ≤ (rd x9_1 x10_1)
       ·rw [if_pos c15] at H
        have c15b0 : decide (0 ≤ (rd x9_1 x10_1)) = true := decide_eq_true c15
        clear c15
        by_cases c16 : (rd x9_1 x10_1) < (x127000_1.length : Int)
        ·rw [if_pos c16] at H
         have c16b0 : decide ((rd x9_1 x10_1) < (x127000_1.length : Int)) = true := decide_eq_true c16
         (try (have c16h0 := c16b0; simp only [hl127000_1, hl127001_1, hl127002_1] at c16h0))
         clear c16
         obtain ⟨y132, hy132⟩ : ∃ y_ : List Int, y_ = (x127000_1.set ((rd x9_1 x10_1) : Int).toNat (rd x127001_1 a2)) := ⟨_, rfl⟩
         replace H : (if (rd x9_1 x10_1) < (l0.length : Int) then (if ((rd_T50 l0 (rd x9_1 x10_1)).f2) = 0 then (if (rd x9_1 x10_1) < (x127001_1.length : Int) then ((spec_l20Visit.f k1 l0 y132 (x127001_1.set ((rd x9_1 x10_1) : Int).toNat (wrap64 (x3_1 + 1))) x127002_1 (rd x9_1 x10_1) (wrap64 (x3_1 + 1))).bind fun bt138 => (spec_l20Visit.l0 k1 l0 a2 bt138.1 x9_1 (wrap64 (x10_1 + 1)) bt138.2.1 bt138.2.2.1 bt138.2.2.2)) else (none)) else (spec_l20Visit.l0 k1 l0 a2 x3_1 x9_1 (wrap64 (x10_1 + 1)) y132 x127001_1 x127002_1)) else (none)) = some (r1, r2, r3, r4) := by first | (rw [hy132]; with_reducible exact H) | (have H2_ := (Option.bind_some _ _).symm.trans H; rw [hy132]; with_reducible exact H2_) | (have H2_ := (Option.bind_some _ _).symm.trans H; with_reducible exact H2_) | with_reducible exact H | (rw [hy132]; exact H) | exact H
         have Ny132 := Aside0.mk hy132
         clear hy132
         by_cases c18 : (rd x9_1 x10_1) < (l0.length : Int)
         ·rw [if_pos c18] at H
          have c18b0 : decide ((rd x9_1 x10_1) < (l0.length : Int)) = true := decide_eq_true c18
          (try (have c18h0 := c18b0; simp only [hl127000_1, hl127001_1, hl127002_1] at c18h0))
          clear c18
          by_cases c19 : ((rd_T50 l0 (rd x9_1 x10_1)).f2) = 0
          ·rw [if_pos c19] at H
           have c19b0 : (((rd_T50 l0 (rd x9_1 x10_1)).f2) == 0) = true := beq_iff_eq.mpr c19
           have c19b1 : (((rd_T50 l0 (rd x9_1 x10_1)).f2) != 0) = false := bne_eq_false_iff_eq.mpr c19
           clear c19
           by_cases c20 : (rd x9_1 x10_1) < (x127001_1.length : Int)
           ·rw [if_pos c20] at H
            have c20b0 : decide ((rd x9_1 x10_1) < (x127001_1.length : Int)) = true := decide_eq_true c20
            (try (have c20h0 := c20b0; simp only [hl127000_1, hl127001_1, hl127002_1] at c20h0))
            clear c20
            obtain ⟨y136, hy136⟩ : ∃ y_ : List Int, y_ = (x127001_1.set ((rd x9_1 x10_1) : Int).toNat (wrap64 (x3_1 + 1))) := ⟨_, rfl⟩
            replace H : ((spec_l20Visit.f k1 l0 y132 y136 x127002_1 (rd x9_1 x10_1) (wrap64 (x3_1 + 1))).bind fun bt138 => (spec_l20Visit.l0 k1 l0 a2 bt138.1 x9_1 (wrap64 (x10_1 + 1)) bt138.2.1 bt138.2.2.1 bt138.2.2.2)) = some (r1, r2, r3, r4) := by first | (rw [hy136]; with_reducible exact H) | (have H2_ := (Option.bind_some _ _).symm.trans H; rw [hy136]; with_reducible exact H2_) | (have H2_ := (Option.bind_some _ _).symm.trans H; with_reducible exact H2_) | with_reducible exact H | (rw [hy136]; exact H) | exact H
            have Ny136 := Aside0.mk hy136
            clear hy136
            replace H := Option.bind_eq_some_iff.mp H
            obtain ⟨⟨t138, t139, t140, t141⟩, A220, H⟩ := H
            replace H : (spec_l20Visit.l0 k1 l0 a2 t138 x9_1 (wrap64 (x10_1 + 1)) t139 t140 t141) = some (r1, r2, r3, r4) := H
            have A22 := Aside0.mk A220
            clear A220
            have H' := Aside0.mk H
            clear H
            obtain ⟨Ao23, co23, eo23⟩ := Kd.R_slice HO_9.out
            subst eo23
            try go_wp2
            have t_ := fc7 (Kd.R_drew HO_9.out) (Kd.R_drew HO_127000.out) (Kd.R_drew HO_127001.out) (Kd.R_drew HO_127002.out) (blk_drew BK126.out) (Kept.drew HK.out) (below_drew1 HB.out)
            clear HO_9 HO_127000 HO_127001 HO_127002 BK126 HK HB
            obtain ⟨HO_9, HO_127000, HO_127001, HO_127002, BK126, HK, HB⟩ := t_
            have p130 : 0 ≤ (x10_1 : Int) := of_decide_eq_true as_
            have q130 : x10_1 < (x9_1.length : Int) := of_decide_eq_true as_
            obtain ⟨ad130, e130, hx130_0⟩ := Kd.at_int (Kd.R_reads' HO_9.out).2.2 x10_1 p130 q130
            cases e130
            replace p130 := eq_true p130
            replace q130 := eq_true q130
            have p131 : 0 ≤ (a2 : Int) := of_decide_eq_true as_
            have q131 : a2 < (x127001_1.length : Int) := of_decide_eq_true as_
            obtain ⟨ad131, e131, hx131_0⟩ := Kd.at_int (Kd.R_reads' HO_127001.out).2.2 a2 p131 q131
            cases e131
            replace p131 := eq_true p131
            replace q131 := eq_true q131
            have p17 : 0 ≤ ((rd x9_1 x10_1) : Int) := of_decide_eq_true as_
            have q17 : ((rd x9_1 x10_1) : Int) < ((x127000_1.length : Int) : Int) := of_decide_eq_true as_
            obtain ⟨go17, co17, eo17, gb17, gl17, cl17, HG17⟩ := Kd.R_form HO_127000.out (by omega)
            (first | cases eo17 | (injection eo17 with ea_ en_ ec_; (first | subst ea_ | (injection ea_ with ea_; subst ea_)); subst ec_; clear en_))
            have GB17 := Aside0.mk gb17
            have GG17 := Aside0.mk HG17
            clear gb17 gl17 HG17
            have HMgo17 := Aside0.mk (show ((P1_0_ go17 ∨ P1_1_ go17 ∨ P1_2_ go17) ∨ w.heap.size ≤ go17) from (HO_127000.out.1 _ rfl).1)
            obtain ⟨hx17_0, hf17_0⟩ := Kd.R_celln 0 HO_127000.out ((rd x9_1 x10_1) : Int) p17 q17
            replace p17 := eq_true p17
            replace q17 := eq_true q17
            have HP25 := Kd.R_putn HO_127000.out ((rd x9_1 x10_1) : Int) (rd x127001_1 a2)
            rw [← Ny132.out] at HP25
            have HQ25 := Aside0.mk HP25
            clear HP25
            refine start_ (n := 13) (S := fun w' => w'.cell? ⟨gb126, 0, none⟩ = some (.slice (some ⟨go17, 0, none⟩) x127000_1.length co6) ∧ w'.cell? ⟨gb126, 1, none⟩ = some (.slice (some ad131) x127001_1.length co7) ∧ w'.cell? ⟨gb126, 2, none⟩ = some (.slice Ao8 x127002_1.length co8) ∧ w'.cell? (ad130.add (x10_1).toNat) = some (.int .i64 (rd x9_1 x10_1)) ∧ w'.cell? (ad131.add (a2).toNat) = some (.int .i64 (rd x127001_1 a2))) (ds := [12]) (bz 13 0) (by kernel_rfl) rfl (by kernel_rfl) ⟨(blk_cell BK126.out 0).trans rfl, (blk_cell BK126.out 1).trans rfl, (blk_cell BK126.out 2).trans rfl, hx130_0, hx131_0⟩ (fun hHeld => ?_); refine with_tabW spec_l20Visit.tab5 spec_l20Visit.bits5 (fun HT_ HW_ => ?_)
            generalize wr.drew = w24 at HO_9 HO_127000 HO_127001 HO_127002 BK126 HK HB GG17 HQ25 hf17_0 hx130_0 hx131_0 hx17_0 hHeld ⊢
            refine pv 0 20 (bz 13 1) HT_ (h := ?_)
            refine pv 2 22 (bz 13 5) HT_ (h := ?_)
            refine pv 3 23 (bz 13 13) HT_ (h := ?_)
            refine pv 4 24 (bz 13 29) HT_ (h := ?_)
            refine pv 6 26 (bz 13 93) HT_ (h := ?_)
            refine pv 8 28 (bz 13 349) HT_ (h := ?_)
            refine tv5 1 21 (bz 13 351) HT_ HW_ hHeld (h := ?_)
            refine tv5 5 25 (bz 13 383) HT_ HW_ hHeld (h := ?_)
            refine tv5 7 27 (bz 13 511) HT_ HW_ hHeld (h := ?_)
            refine pv 9 29 (bz 13 1023) HT_ (h := ?_)
            refine tv5 10 30 (bz 13 2047) HT_ HW_ hHeld (h := ?_)
            refine pv 11 31 (bz 13 4095) HT_ (h := ?_)
            refine last_ (i := 12) (N := none) (bz 13 8191) rfl rfl (one_of HT_.out (by kernel_rfl)) (by decide) (fun K hK => ?_)
            refine skip_ (w1 := ?_) (by rfl) rfl ?_ ?_
            rotate_left
            ·go_simp
             rfl
            refine hK.out _ _ ?_
            clear hK K
            refine done_ (done_of HT_.out (by kernel_rfl)) ?_
            have p133 : 0 ≤ (x10_1 : Int) := of_decide_eq_true as_
            have q133 : x10_1 < (x9_1.length : Int) := of_decide_eq_true as_
            obtain ⟨ad133, e133, hx133_0⟩ := Kd.at_int (Kd.R_reads' (Kd.R_far (p := ⟨go17, ((rd x9_1 x10_1) : Int).toNat, none⟩) (Kd.R_mono HO_9.out (fun k_ hk => (⟨hk, fun e_ => hk.2.1 (by rw [e_]; rfl)⟩ : _ ∧ k_ ≠ go17))) fk (.int .i64 (rd x127001_1 a2)))).2.2 x10_1 p133 q133
            obtain rfl : ad130 = ad133 := (by injection e133)
            replace p133 := eq_true p133
            replace q133 := eq_true q133
            have p134 : 0 ≤ ((rd x9_1 x10_1) : Int) := of_decide_eq_true as_
            have q134 : (rd x9_1 x10_1) < (l0.length : Int) := of_decide_eq_true as_
            obtain ⟨ad134, e134, hx134_0, hx134_1, hx134_2⟩ := at_T50 (Kd.C_kept_now HR0.out (show Kept w (w24.setCell ⟨go17, ((rd x9_1 x10_1) : Int).toNat, none⟩ (.int .i64 (rd x127001_1 a2))) (fun k_ => P1_0_ k_ ∨ P1_1_ k_ ∨ P1_2_ k_) from by repeat (first | (with_reducible first | exact HK.out | apply Kept.alloc | apply Kept.drewN | apply Kept.drew | refine Kept.setCell ?_ HMgo17.out _ | refine Kept.setCell ?_ (.inr GW126.out) _) | exact HK.out))) (rd x9_1 x10_1) p134 q134
            cases e134
            replace p134 := eq_true p134
            replace q134 := eq_true q134
            try go_wp2
            have n0_ : Aside0 (Kd.R (Kd.int .i64) 3 (w24.setCell ⟨go17, ((rd x9_1 x10_1) : Int).toNat, none⟩ (.int .i64 (rd x127001_1 a2))) w0.heap.size (fun k_ => ((P1_0_ k_ ∨ P1_1_ k_ ∨ P1_2_ k_) ∨ w.heap.size ≤ k_) ∧ some k_ ≠ (.slice (some ⟨go17, 0, none⟩) x127000_1.length co6 : Value).ownBlock ∧ some k_ ≠ (.slice (some ad131) x127001_1.length co7 : Value).ownBlock ∧ some k_ ≠ (.slice Ao8 x127002_1.length co8 : Value).ownBlock) (.slice (some ad130) x9_1.length co23) x9_1) := ⟨by (with_reducible repeat (first | apply Kd.R_alloc | apply Kd.R_drewN | apply Kd.R_drew)); exact Kd.R_mono (Kd.R_far (p := ⟨go17, ((rd x9_1 x10_1) : Int).toNat, none⟩) (Kd.R_mono HO_9.out (fun k_ hk => (⟨hk, fun e_ => hk.2.1 (by rw [e_]; rfl)⟩ : _ ∧ k_ ≠ go17))) fk (.int .i64 (rd x127001_1 a2))) (fun _ hk => (And.intro (hk.1.1) ((And.intro (hk.1.2.1) ((And.intro (hk.1.2.2.1) (hk.1.2.2.2)))))))⟩
            have n1_ : Aside0 (Kd.R (Kd.int .i64) 3 (w24.setCell ⟨go17, ((rd x9_1 x10_1) : Int).toNat, none⟩ (.int .i64 (rd x127001_1 a2))) w0.heap.size (fun k_ => ((P1_0_ k_ ∨ P1_1_ k_ ∨ P1_2_ k_) ∨ w.heap.size ≤ k_) ∧ some k_ ≠ (.slice (some ad130) x9_1.length co23 : Value).ownBlock ∧ some k_ ≠ (.slice (some ad131) x127001_1.length co7 : Value).ownBlock ∧ some k_ ≠ (.slice Ao8 x127002_1.length co8 : Value).ownBlock) (.slice (some ⟨go17, 0, none⟩) x127000_1.length co6) y132) := ⟨by (with_reducible repeat (first | apply Kd.R_alloc | apply Kd.R_drewN | apply Kd.R_drew)); exact HQ25.out⟩
            have n2_ : Aside0 (Kd.R (Kd.int .i64) 3 (w24.setCell ⟨go17, ((rd x9_1 x10_1) : Int).toNat, none⟩ (.int .i64 (rd x127001_1 a2))) w0.heap.size (fun k_ => ((P1_0_ k_ ∨ P1_1_ k_ ∨ P1_2_ k_) ∨ w.heap.size ≤ k_) ∧ some k_ ≠ (.slice (some ad130) x9_1.length co23 : Value).ownBlock ∧ some k_ ≠ (.slice (some ⟨go17, 0, none⟩) x127000_1.length co6 : Value).ownBlock ∧ some k_ ≠ (.slice Ao8 x127002_1.length co8 : Value).ownBlock) (.slice (some ad131) x127001_1.length co7) x127001_1) := ⟨by (with_reducible repeat (first | apply Kd.R_alloc | apply Kd.R_drewN | apply Kd.R_drew)); exact Kd.R_mono (Kd.R_far (p := ⟨go17, ((rd x9_1 x10_1) : Int).toNat, none⟩) (Kd.R_mono HO_127001.out (fun k_ hk => (⟨hk, fun e_ => hk.2.2.1 (by rw [e_]; rfl)⟩ : _ ∧ k_ ≠ go17))) fk (.int .i64 (rd x127001_1 a2))) (fun _ hk => (And.intro (hk.1.1) ((And.intro (hk.1.2.1) ((And.intro (hk.1.2.2.1) (hk.1.2.2.2)))))))⟩
            have n3_ : Aside0 (Kd.R (Kd.int .i64) 3 (w24.setCell ⟨go17, ((rd x9_1 x10_1) : Int).toNat, none⟩ (.int .i64 (rd x127001_1 a2))) w0.heap.size (fun k_ => ((P1_0_ k_ ∨ P1_1_ k_ ∨ P1_2_ k_) ∨ w.heap.size ≤ k_) ∧ some k_ ≠ (.slice (some ad130) x9_1.length co23 : Value).ownBlock ∧ some k_ ≠ (.slice (some ⟨go17, 0, none⟩) x127000_1.length co6 : Value).ownBlock ∧ some k_ ≠ (.slice (some ad131) x127001_1.length co7 : Value).ownBlock) (.slice Ao8 x127002_1.length co8) x127002_1) := ⟨by (with_reducible repeat (first | apply Kd.R_alloc | apply Kd.R_drewN | apply Kd.R_drew)); exact Kd.R_mono (Kd.R_far (p := ⟨go17, ((rd x9_1 x10_1) : Int).toNat, none⟩) (Kd.R_mono HO_127002.out (fun k_ hk => (⟨hk, fun e_ => hk.2.2.1 (by rw [e_]; rfl)⟩ : _ ∧ k_ ≠ go17))) fk (.int .i64 (rd x127001_1 a2))) (fun _ hk => (And.intro (hk.1.1) ((And.intro (hk.1.2.1) ((And.intro (hk.1.2.2.1) (hk.1.2.2.2)))))))⟩
            have n4_ : Aside0 ((w24.setCell ⟨go17, ((rd x9_1 x10_1) : Int).toNat, none⟩ (.int .i64 (rd x127001_1 a2))).heap[gb126]? = some (.cells #[.slice (some ⟨go17, 0, none⟩) x127000_1.length co6, .slice (some ad131) x127001_1.length co7, .slice Ao8 x127002_1.length co8] 31 (0, 0))) := ⟨by (with_reducible repeat (first | refine blk_drewN ?_ _ | refine blk_drew ?_ | refine blk_alloc ?_ _)); refine blk_far ?_ (by have h_ := Kd.R_ne HO_127000.out BK126.out (by decide); intro e_; exact h_ (by rw [e_]; rfl)) _; exact bk⟩
            have n5_ : Aside0 (Kept w (w24.setCell ⟨go17, ((rd x9_1 x10_1) : Int).toNat, none⟩ (.int .i64 (rd x127001_1 a2))) (fun k_ => P1_0_ k_ ∨ P1_1_ k_ ∨ P1_2_ k_)) := ⟨by repeat (first | (with_reducible first | exact HK.out | apply Kept.alloc | apply Kept.drewN | apply Kept.drew | refine Kept.setCell ?_ HMgo17.out _ | refine Kept.setCell ?_ (.inr GW126.out) _) | exact HK.out)⟩
            have n6_ : Aside0 (Below w0.heap.size w0 (w24.setCell ⟨go17, ((rd x9_1 x10_1) : Int).toNat, none⟩ (.int .i64 (rd x127001_1 a2)))) := ⟨by repeat (first | (with_reducible first | exact HB.out | apply below_alloc | apply pw_below_drewN | apply below_drew1 | refine below_set ?_ GB17.out | refine below_set ?_ GE126.out) | exact HB.out)⟩
            (try clear HO_9)
            (try clear HO_127000)
            (try clear HO_127001)
            (try clear HO_127002)
            (try clear BK126)
            (try clear HK)
            (try clear HB)
            generalize (w24.setCell ⟨go17, ((rd x9_1 x10_1) : Int).toNat, none⟩ (.int .i64 (rd x127001_1 a2))) = w26 at n0_ n1_ n2_ n3_ n4_ n5_ n6_ ⊢
            have HO_9 := n0_
            have HO_127000 := n1_
            have HO_127001 := n2_
            have HO_127002 := n3_
            have BK126 := n4_
            have HK := n5_
            have HB := n6_
            clear n0_ n1_ n2_ n3_ n4_ n5_ n6_
            have t_ := fc7 (Kd.R_drew HO_9.out) (Kd.R_drew HO_127000.out) (Kd.R_drew HO_127001.out) (Kd.R_drew HO_127002.out) (blk_drew BK126.out) (Kept.drew HK.out) (below_drew1 HB.out)
            clear HO_9 HO_127000 HO_127001 HO_127002 BK126 HK HB
            obtain ⟨HO_9, HO_127000, HO_127001, HO_127002, BK126, HK, HB⟩ := t_
            have p135 : 0 ≤ (x10_1 : Int) := of_decide_eq_true as_
            have q135 : x10_1 < (x9_1.length : Int) := of_decide_eq_true as_
            obtain ⟨ad135, e135, hx135_0⟩ := Kd.at_int (Kd.R_reads' HO_9.out).2.2 x10_1 p135 q135
            obtain rfl : ad130 = ad135 := (by injection e135)
            replace p135 := eq_true p135
            replace q135 := eq_true q135
            have p21 : 0 ≤ ((rd x9_1 x10_1) : Int) := of_decide_eq_true as_
            have q21 : ((rd x9_1 x10_1) : Int) < ((x127001_1.length : Int) : Int) := of_decide_eq_true as_
            obtain ⟨go21, co21, eo21, gb21, gl21, cl21, HG21⟩ := Kd.R_form HO_127001.out (by omega)
            (first | cases eo21 | (injection eo21 with ea_ en_ ec_; (first | subst ea_ | (injection ea_ with ea_; subst ea_)); subst ec_; clear en_))
            have GB21 := Aside0.mk gb21
            have GG21 := Aside0.mk HG21
            clear gb21 gl21 HG21
            have HMgo21 := Aside0.mk (show ((P1_0_ go21 ∨ P1_1_ go21 ∨ P1_2_ go21) ∨ w.heap.size ≤ go21) from (HO_127001.out.1 _ rfl).1)
            (first | simp only [add_plain] at hx131_0 | skip)
            obtain ⟨hx21_0, hf21_0⟩ := Kd.R_celln 0 HO_127001.out ((rd x9_1 x10_1) : Int) p21 q21
            replace p21 := eq_true p21
            replace q21 := eq_true q21
            have HP28 := Kd.R_putn HO_127001.out ((rd x9_1 x10_1) : Int) (wrap64 (x3_1 + 1))
            rw [← Ny136.out] at HP28
            have HQ28 := Aside0.mk HP28
            clear HP28
            refine start_ (n := 9) (S := fun w' => w'.cell? ⟨gb126, 0, none⟩ = some (.slice (some ⟨go17, 0, none⟩) x127000_1.length co6) ∧ w'.cell? ⟨gb126, 1, none⟩ = some (.slice (some ⟨go21, 0, none⟩) x127001_1.length co7) ∧ w'.cell? ⟨gb126, 2, none⟩ = some (.slice Ao8 x127002_1.length co8) ∧ w'.cell? (ad130.add (x10_1).toNat) = some (.int .i64 (rd x9_1 x10_1))) (ds := [8]) (bz 9 0) (by kernel_rfl) rfl (by kernel_rfl) ⟨(blk_cell BK126.out 0).trans rfl, (blk_cell BK126.out 1).trans rfl, (blk_cell BK126.out 2).trans rfl, hx135_0⟩ (fun hHeld => ?_); refine with_tabW spec_l20Visit.tab8 spec_l20Visit.bits8 (fun HT_ HW_ => ?_)
            generalize w26.drew = w27 at HO_9 HO_127000 HO_127001 HO_127002 BK126 HK HB GG21 HQ25 HQ28 hf21_0 hx131_0 hx135_0 hx21_0 hHeld ⊢
            refine pv 0 43 (bz 9 1) HT_ (h := ?_)
            refine pv 2 45 (bz 9 5) HT_ (h := ?_)
            refine pv 3 46 (bz 9 13) HT_ (h := ?_)
            refine pv 4 47 (bz 9 29) HT_ (h := ?_)
            refine pv 6 49 (bz 9 93) HT_ (h := ?_)
            refine tv4 1 44 (bz 9 95) HT_ HW_ hHeld (h := ?_)
            refine tv4 5 48 (bz 9 127) HT_ HW_ hHeld (h := ?_)
            refine pv 7 50 (bz 9 255) HT_ (h := ?_)
            refine last_ (i := 8) (N := none) (bz 9 511) rfl rfl (one_of HT_.out (by kernel_rfl)) (by decide) (fun K hK => ?_)
            refine skip_ (w1 := ?_) (by rfl) rfl ?_ ?_
            rotate_left
            ·go_simp
             rfl
            refine hK.out _ _ ?_
            clear hK K
            refine done_ (done_of HT_.out (by kernel_rfl)) ?_
            try go_wp2
            have n0_ : Aside0 (Kd.R (Kd.int .i64) 3 (w27.setCell ⟨go21, ((rd x9_1 x10_1) : Int).toNat, none⟩ (.int .i64 (wrap64 (x3_1 + 1)))) w0.heap.size (fun k_ => ((P1_0_ k_ ∨ P1_1_ k_ ∨ P1_2_ k_) ∨ w.heap.size ≤ k_) ∧ some k_ ≠ (.slice (some ⟨go17, 0, none⟩) x127000_1.length co6 : Value).ownBlock ∧ some k_ ≠ (.slice (some ⟨go21, 0, none⟩) x127001_1.length co7 : Value).ownBlock ∧ some k_ ≠ (.slice Ao8 x127002_1.length co8 : Value).ownBlock) (.slice (some ad130) x9_1.length co23) x9_1) := ⟨by (with_reducible repeat (first | apply Kd.R_alloc | apply Kd.R_drewN | apply Kd.R_drew)); exact Kd.R_mono (Kd.R_far (p := ⟨go21, ((rd x9_1 x10_1) : Int).toNat, none⟩) (Kd.R_mono HO_9.out (fun k_ hk => (⟨hk, fun e_ => hk.2.2.1 (by rw [e_]; rfl)⟩ : _ ∧ k_ ≠ go21))) fk (.int .i64 (wrap64 (x3_1 + 1)))) (fun _ hk => (And.intro (hk.1.1) ((And.intro (hk.1.2.1) ((And.intro (hk.1.2.2.1) (hk.1.2.2.2)))))))⟩
            have n1_ : Aside0 (Kd.R (Kd.int .i64) 3 (w27.setCell ⟨go21, ((rd x9_1 x10_1) : Int).toNat, none⟩ (.int .i64 (wrap64 (x3_1 + 1)))) w0.heap.size (fun k_ => ((P1_0_ k_ ∨ P1_1_ k_ ∨ P1_2_ k_) ∨ w.heap.size ≤ k_) ∧ some k_ ≠ (.slice (some ad130) x9_1.length co23 : Value).ownBlock ∧ some k_ ≠ (.slice (some ⟨go21, 0, none⟩) x127001_1.length co7 : Value).ownBlock ∧ some k_ ≠ (.slice Ao8 x127002_1.length co8 : Value).ownBlock) (.slice (some ⟨go17, 0, none⟩) x127000_1.length co6) y132) := ⟨by (with_reducible repeat (first | apply Kd.R_alloc | apply Kd.R_drewN | apply Kd.R_drew)); exact Kd.R_mono (Kd.R_far (p := ⟨go21, ((rd x9_1 x10_1) : Int).toNat, none⟩) (Kd.R_mono HO_127000.out (fun k_ hk => (⟨hk, fun e_ => hk.2.2.1 (by rw [e_]; rfl)⟩ : _ ∧ k_ ≠ go21))) fk (.int .i64 (wrap64 (x3_1 + 1)))) (fun _ hk => (And.intro (hk.1.1) ((And.intro (hk.1.2.1) ((And.intro (hk.1.2.2.1) (hk.1.2.2.2)))))))⟩
            have n2_ : Aside0 (Kd.R (Kd.int .i64) 3 (w27.setCell ⟨go21, ((rd x9_1 x10_1) : Int).toNat, none⟩ (.int .i64 (wrap64 (x3_1 + 1)))) w0.heap.size (fun k_ => ((P1_0_ k_ ∨ P1_1_ k_ ∨ P1_2_ k_) ∨ w.heap.size ≤ k_) ∧ some k_ ≠ (.slice (some ad130) x9_1.length co23 : Value).ownBlock ∧ some k_ ≠ (.slice (some ⟨go17, 0, none⟩) x127000_1.length co6 : Value).ownBlock ∧ some k_ ≠ (.slice Ao8 x127002_1.length co8 : Value).ownBlock) (.slice (some ⟨go21, 0, none⟩) x127001_1.length co7) y136) := ⟨by (with_reducible repeat (first | apply Kd.R_alloc | apply Kd.R_drewN | apply Kd.R_drew)); exact HQ28.out⟩
            have n3_ : Aside0 (Kd.R (Kd.int .i64) 3 (w27.setCell ⟨go21, ((rd x9_1 x10_1) : Int).toNat, none⟩ (.int .i64 (wrap64 (x3_1 + 1)))) w0.heap.size (fun k_ => ((P1_0_ k_ ∨ P1_1_ k_ ∨ P1_2_ k_) ∨ w.heap.size ≤ k_) ∧ some k_ ≠ (.slice (some ad130) x9_1.length co23 : Value).ownBlock ∧ some k_ ≠ (.slice (some ⟨go17, 0, none⟩) x127000_1.length co6 : Value).ownBlock ∧ some k_ ≠ (.slice (some ⟨go21, 0, none⟩) x127001_1.length co7 : Value).ownBlock) (.slice Ao8 x127002_1.length co8) x127002_1) := ⟨by (with_reducible repeat (first | apply Kd.R_alloc | apply Kd.R_drewN | apply Kd.R_drew)); exact Kd.R_mono (Kd.R_far (p := ⟨go21, ((rd x9_1 x10_1) : Int).toNat, none⟩) (Kd.R_mono HO_127002.out (fun k_ hk => (⟨hk, fun e_ => hk.2.2.2 (by rw [e_]; rfl)⟩ : _ ∧ k_ ≠ go21))) fk (.int .i64 (wrap64 (x3_1 + 1)))) (fun _ hk => (And.intro (hk.1.1) ((And.intro (hk.1.2.1) ((And.intro (hk.1.2.2.1) (hk.1.2.2.2)))))))⟩
            have n4_ : Aside0 ((w27.setCell ⟨go21, ((rd x9_1 x10_1) : Int).toNat, none⟩ (.int .i64 (wrap64 (x3_1 + 1)))).heap[gb126]? = some (.cells #[.slice (some ⟨go17, 0, none⟩) x127000_1.length co6, .slice (some ⟨go21, 0, none⟩) x127001_1.length co7, .slice Ao8 x127002_1.length co8] 31 (0, 0))) := ⟨by (with_reducible repeat (first | refine blk_drewN ?_ _ | refine blk_drew ?_ | refine blk_alloc ?_ _)); refine blk_far ?_ (by have h_ := Kd.R_ne HO_127001.out BK126.out (by decide); intro e_; exact h_ (by rw [e_]; rfl)) _; exact bk⟩
            have n5_ : Aside0 (Kept w (w27.setCell ⟨go21, ((rd x9_1 x10_1) : Int).toNat, none⟩ (.int .i64 (wrap64 (x3_1 + 1)))) (fun k_ => P1_0_ k_ ∨ P1_1_ k_ ∨ P1_2_ k_)) := ⟨by repeat (first | (with_reducible first | exact HK.out | apply Kept.alloc | apply Kept.drewN | apply Kept.drew | refine Kept.setCell ?_ HMgo21.out _ | refine Kept.setCell ?_ (.inr GW126.out) _) | exact HK.out)⟩
            have n6_ : Aside0 (Below w0.heap.size w0 (w27.setCell ⟨go21, ((rd x9_1 x10_1) : Int).toNat, none⟩ (.int .i64 (wrap64 (x3_1 + 1))))) := ⟨by repeat (first | (with_reducible first | exact HB.out | apply below_alloc | apply pw_below_drewN | apply below_drew1 | refine below_set ?_ GB21.out | refine below_set ?_ GE126.out) | exact HB.out)⟩
            (try clear HO_9)
            (try clear HO_127000)
            (try clear HO_127001)
            (try clear HO_127002)
            (try clear BK126)
            (try clear HK)
            (try clear HB)
            generalize (w27.setCell ⟨go21, ((rd x9_1 x10_1) : Int).toNat, none⟩ (.int .i64 (wrap64 (x3_1 + 1)))) = w29 at n0_ n1_ n2_ n3_ n4_ n5_ n6_ ⊢
            have HO_9 := n0_
            have HO_127000 := n1_
            have HO_127001 := n2_
            have HO_127002 := n3_
            have BK126 := n4_
            have HK := n5_
            have HB := n6_
            clear n0_ n1_ n2_ n3_ n4_ n5_ n6_
            have t_ := fc7 (Kd.R_drew HO_9.out) (Kd.R_drew HO_127000.out) (Kd.R_drew HO_127001.out) (Kd.R_drew HO_127002.out) (blk_drew BK126.out) (Kept.drew HK.out) (below_drew1 HB.out)
            clear HO_9 HO_127000 HO_127001 HO_127002 BK126 HK HB
            obtain ⟨HO_9, HO_127000, HO_127001, HO_127002, BK126, HK, HB⟩ := t_
            have p137 : 0 ≤ (x10_1 : Int) := of_decide_eq_true as_
            have q137 : x10_1 < (x9_1.length : Int) := of_decide_eq_true as_
            obtain ⟨ad137, e137, hx137_0⟩ := Kd.at_int (Kd.R_reads' HO_9.out).2.2 x10_1 p137 q137
            obtain rfl : ad130 = ad137 := (by injection e137)
            replace p137 := eq_true p137
            replace q137 := eq_true q137
            refine start_ (n := 9) (S := fun w' => w'.cell? ⟨gb126, 0, none⟩ = some (.slice (some ⟨go17, 0, none⟩) x127000_1.length co6) ∧ w'.cell? ⟨gb126, 1, none⟩ = some (.slice (some ⟨go21, 0, none⟩) x127001_1.length co7) ∧ w'.cell? ⟨gb126, 2, none⟩ = some (.slice Ao8 x127002_1.length co8) ∧ w'.cell? (ad130.add (x10_1).toNat) = some (.int .i64 (rd x9_1 x10_1))) (ds := []) (bz 9 0) (by kernel_rfl) rfl (by kernel_rfl) ⟨(blk_cell BK126.out 0).trans rfl, (blk_cell BK126.out 1).trans rfl, (blk_cell BK126.out 2).trans rfl, hx137_0⟩ (fun hHeld => ?_); refine with_tabW spec_l20Visit.tab9 spec_l20Visit.bits9 (fun HT_ HW_ => ?_)
            generalize w29.drew = w30 at HO_9 HO_127000 HO_127001 HO_127002 BK126 HK HB HQ28 hx137_0 hHeld ⊢
            refine pv 0 51 (bz 9 1) HT_ (h := ?_)
            refine pv 2 53 (bz 9 5) HT_ (h := ?_)
            refine pv 3 54 (bz 9 13) HT_ (h := ?_)
            refine pv 4 55 (bz 9 29) HT_ (h := ?_)
            refine pv 6 57 (bz 9 93) HT_ (h := ?_)
            refine tv4 1 52 (bz 9 95) HT_ HW_ hHeld (h := ?_)
            refine tv4 5 56 (bz 9 127) HT_ HW_ hHeld (h := ?_)
            refine one_ (i := 7) (N := some 58) (bz 9 255) rfl rfl (one_of HT_.out (by kernel_rfl)) (by decide) (fun K hK => ?_)
            refine goes_ Try.func107 (by kernel_rfl) rfl #[.slice (some ad134) l0.length c0, .agg #[.slice (some ⟨go17, 0, none⟩) x127000_1.length co6, .slice (some ⟨go21, 0, none⟩) x127001_1.length co7, .slice Ao8 x127002_1.length co8], .int .i64 (rd x9_1 x10_1), .int .i64 (wrap64 (x3_1 + 1))] (by rfl) rfl rfl ms ?_
            with_reducible refine (ih k1 (by have := HK1.out; omega) _ _ l0 (fun k_ => some k_ = (.slice (some ⟨go17, 0, none⟩) x127000_1.length co6 : Value).ownBlock) (.slice (some ⟨go17, 0, none⟩) x127000_1.length co6) y132 (fun k_ => some k_ = (.slice (some ⟨go21, 0, none⟩) x127001_1.length co7 : Value).ownBlock) (.slice (some ⟨go21, 0, none⟩) x127001_1.length co7) y136 (fun k_ => some k_ = (.slice Ao8 x127002_1.length co8 : Value).ownBlock) (.slice Ao8 x127002_1.length co8) x127002_1 (rd x9_1 x10_1) (wrap64 (x3_1 + 1)) t138 t139 t140 t141 w0 _ ?side1 ?side2 ?side3 ?side4 ?side5 ?side6 ?side7 ?side8 ?side9 ?side10 ?side11 ?side12 A22.out).mono ?_
            (case side1 => exact bb)
            (case side2 => exact Kd.C_kept_call HR0.out (by repeat (first | (with_reducible first | exact HK.out | apply Kept.alloc | apply Kept.drewN | apply Kept.drew | refine Kept.setCell ?_ (.inr GW126.out) _) | exact HK.out)) (fun k_ hs_ => Or.elim hs_ (fun e_ => (fun e_ => (HO_127000.out.1 k_ e_.symm).1) e_) (fun e_ => Or.elim e_ (fun e_ => (fun e_ => (HO_127001.out.1 k_ e_.symm).1) e_) (fun e_ => (fun e_ => (HO_127002.out.1 k_ e_.symm).1) e_))))
            (case side3 => exact HC0.out)
            (case side4 => exact Kd.R_tight rfl HO_127000.out)
            (case side5 => exact fun k_ e_ => (HO_127000.out.1 k_ e_.symm).2.2.1)
            (case side6 => exact fun k_ e_ => (HO_127000.out.1 k_ e_.symm).2.2.2)
            (case side7 => exact Kd.R_tight rfl HO_127001.out)
            (case side8 => exact fun k_ e_ => (HO_127001.out.1 k_ e_.symm).2.2.1)
            (case side9 => exact fun k_ e_ => (HO_127001.out.1 k_ e_.symm).2.2.2)
            (case side10 => exact Kd.R_tight rfl HO_127002.out)
            (case side11 => exact fun k_ e_ => (HO_127002.out.1 k_ e_.symm).2.2.1)
            (case side12 => exact fun k_ e_ => (HO_127002.out.1 k_ e_.symm).2.2.2)
            rintro e w31 ⟨rfl, hy0, hy1, hy2, hb, hkp⟩
            have HS3_ := cell_kept (hHeld.2.2.2) hkp (by first | (rw [add_block]; exact (fun hs_ => Or.elim hs_ (fun e_ => (((HO_9.out).1 _ rfl).2.1) e_) (fun e_ => Or.elim e_ (fun e_ => (((HO_9.out).1 _ rfl).2.2.1) e_) (fun e_ => (((HO_9.out).1 _ rfl).2.2.2) e_)))) | (show ¬ _; simp only [add_block]; exact (fun hs_ => Or.elim hs_ (fun e_ => (((HO_9.out).1 _ rfl).2.1) e_) (fun e_ => Or.elim e_ (fun e_ => (((HO_9.out).1 _ rfl).2.2.1) e_) (fun e_ => (((HO_9.out).1 _ rfl).2.2.2) e_)))) | exact (fun hs_ => Or.elim hs_ (fun e_ => (((HO_9.out).1 _ rfl).2.1) e_) (fun e_ => Or.elim e_ (fun e_ => (((HO_9.out).1 _ rfl).2.2.1) e_) (fun e_ => (((HO_9.out).1 _ rfl).2.2.2) e_))))
            refine ⟨_, rfl, ?_⟩
            have t_ := fc7 (Kd.R_mono (ok' := fun k_ => ((P1_0_ k_ ∨ P1_1_ k_ ∨ P1_2_ k_) ∨ w.heap.size ≤ k_) ∧ some k_ ≠ (.slice (some ⟨go17, 0, none⟩) x127000_1.length co6 : Value).ownBlock ∧ some k_ ≠ (.slice (some ⟨go21, 0, none⟩) x127001_1.length co7 : Value).ownBlock ∧ some k_ ≠ (.slice Ao8 x127002_1.length co8 : Value).ownBlock) (Kd.R_keptB (HO_9.out) hkp (fun k_ hk_ hs_ => Or.elim hs_ (fun e_ => (hk_.2.1) e_) (fun e_ => Or.elim e_ (fun e_ => (hk_.2.2.1) e_) (fun e_ => (hk_.2.2.2) e_)))) (fun k_ hk_ => by first | exact ⟨hk_.1.1, hk_.1.2.1, hk_.1.2.2.1, hk_.1.2.2.2⟩ | simp only [ne_eq, hk_, not_false_eq_true, and_self, true_and, and_true])) (Kd.R_reok rfl hy0 (fun k_ e_ => HO_127000.out.1 k_ e_)) (Kd.R_reok rfl hy1 (fun k_ e_ => HO_127001.out.1 k_ e_)) (Kd.R_reok rfl hy2 (fun k_ e_ => HO_127002.out.1 k_ e_)) (blk_kept bk hkp (fun hs_ => Or.elim hs_ (fun e_ => (fun e_ => (Kd.R_ne HO_127000.out BK126.out (by decide)) e_) e_) (fun e_ => Or.elim e_ (fun e_ => (fun e_ => (Kd.R_ne HO_127001.out BK126.out (by decide)) e_) e_) (fun e_ => (fun e_ => (Kd.R_ne HO_127002.out BK126.out (by decide)) e_) e_)))) (Kept.then_ (S := (fun k_ => P1_0_ k_ ∨ P1_1_ k_ ∨ P1_2_ k_)) (by repeat (first | (with_reducible first | exact HK.out | apply Kept.alloc | apply Kept.drewN | apply Kept.drew | refine Kept.setCell ?_ (.inr GW126.out) _) | exact HK.out)) hkp (fun k_ hs_ => Or.elim hs_ (fun e_ => (fun e_ => (HO_127000.out.1 k_ e_.symm).1) e_) (fun e_ => Or.elim e_ (fun e_ => (fun e_ => (HO_127001.out.1 k_ e_.symm).1) e_) (fun e_ => (fun e_ => (HO_127002.out.1 k_ e_.symm).1) e_)))) (hb)
            clear HO_9 HO_127000 HO_127001 HO_127002 BK126 HK HB
            obtain ⟨HO_9, HO_127000, HO_127001, HO_127002, BK126, HK, HB⟩ := t_
            (try clear hb)
            (try clear hkp)
            (try clear hy0)
            (try clear hy1)
            (try clear hy2)
            refine hK.out _ _ ⟨(blk_cell BK126.out 0).trans rfl, (blk_cell BK126.out 1).trans rfl, (blk_cell BK126.out 2).trans rfl, HS3_⟩ (fun hHeld => ?_)
            clear hK K
            refine norm_ (a' := ?_) ?_ ?_
            rotate_left
            ·show Act.put _ (some 58) _ = _
             simp only [Act.put, List.setIfInBounds_toArray, List.set_cons_zero, List.set_cons_succ, i64_w, i32_w]
             rfl
            refine pv 8 3 (bz 9 511) HT_ (h := ?_)
            refine done_ (done_of HT_.out (by kernel_rfl)) ?_
            try go_wp2
            (try simp only [← hl127000_1, ← hl127001_1, ← hl127002_1])
            go_roundg k1
            case measure => have := HK1.out; omega
            case rel => exact ⟨(t138), (x9_1), (wrap64 (x10_1 + 1)), (t139), (t140), (t141), (by first | rfl | (simp; done) | (simp [*]; done)), (by first | rfl | (simp; done) | (simp [*]; done)), H', ⟨by have := HK1.out; omega⟩, ⟨by (try simp only [hl127000_1]); (try simp only [hl127001_1]); (try simp only [hl127002_1]); (with_reducible repeat (first | apply Kd.R_alloc | apply Kd.R_drewN | apply Kd.R_drew)); exact HO_9.out⟩, ⟨by (try simp only [hl127000_1]); (try simp only [hl127001_1]); (try simp only [hl127002_1]); (with_reducible repeat (first | apply Kd.R_alloc | apply Kd.R_drewN | apply Kd.R_drew)); exact HO_127000.out⟩, ⟨by (try simp only [hl127000_1]); (try simp only [hl127001_1]); (try simp only [hl127002_1]); (with_reducible repeat (first | apply Kd.R_alloc | apply Kd.R_drewN | apply Kd.R_drew)); exact HO_127001.out⟩, ⟨by (try simp only [hl127000_1]); (try simp only [hl127001_1]); (try simp only [hl127002_1]); (with_reducible repeat (first | apply Kd.R_alloc | apply Kd.R_drewN | apply Kd.R_drew)); exact HO_127002.out⟩, ⟨by (try simp only [hl127000_1]); (try simp only [hl127001_1]); (try simp only [hl127002_1]); exact bk⟩, ⟨by repeat (first | (with_reducible first | exact HK.out | apply Kept.alloc | apply Kept.drewN | apply Kept.drew | refine Kept.setCell ?_ (.inr GW126.out) _) | exact HK.out)⟩, ⟨bb⟩⟩
           ·rw [if_neg c20] at H
            exact absurd H (by simp)
          ·rw [if_neg c19] at H
           have c19b0 : (((rd_T50 l0 (rd x9_1 x10_1)).f2) == 0) = false := beq_eq_false_iff_ne.mpr c19
           have c19b1 : (((rd_T50 l0 (rd x9_1 x10_1)).f2) != 0) = true := bne_iff_ne.mpr c19
           have H' := Aside0.mk H
           clear H
           obtain ⟨Ao32, co32, eo32⟩ := Kd.R_slice HO_9.out
           subst eo32
           try go_wp2
           have t_ := fc7 (Kd.R_drew HO_9.out) (Kd.R_drew HO_127000.out) (Kd.R_drew HO_127001.out) (Kd.R_drew HO_127002.out) (blk_drew BK126.out) (Kept.drew HK.out) (below_drew1 HB.out)
           clear HO_9 HO_127000 HO_127001 HO_127002 BK126 HK HB
           obtain ⟨HO_9, HO_127000, HO_127001, HO_127002, BK126, HK, HB⟩ := t_
           have p130 : 0 ≤ (x10_1 : Int) := of_decide_eq_true as_
           have q130 : x10_1 < (x9_1.length : Int) := of_decide_eq_true as_
           obtain ⟨ad130, e130, hx130_0⟩ := Kd.at_int (Kd.R_reads' HO_9.out).2.2 x10_1 p130 q130
           cases e130
           replace p130 := eq_true p130
           replace q130 := eq_true q130
           have p131 : 0 ≤ (a2 : Int) := of_decide_eq_true as_
           have q131 : a2 < (x127001_1.length : Int) := of_decide_eq_true as_
           obtain ⟨ad131, e131, hx131_0⟩ := Kd.at_int (Kd.R_reads' HO_127001.out).2.2 a2 p131 q131
           cases e131
           replace p131 := eq_true p131
           replace q131 := eq_true q131
           have p17 : 0 ≤ ((rd x9_1 x10_1) : Int) := of_decide_eq_true as_
           have q17 : ((rd x9_1 x10_1) : Int) < ((x127000_1.length : Int) : Int) := of_decide_eq_true as_
           obtain ⟨go17, co17, eo17, gb17, gl17, cl17, HG17⟩ := Kd.R_form HO_127000.out (by omega)
           (first | cases eo17 | (injection eo17 with ea_ en_ ec_; (first | subst ea_ | (injection ea_ with ea_; subst ea_)); subst ec_; clear en_))
           have GB17 := Aside0.mk gb17
           have GG17 := Aside0.mk HG17
           clear gb17 gl17 HG17
           have HMgo17 := Aside0.mk (show ((P1_0_ go17 ∨ P1_1_ go17 ∨ P1_2_ go17) ∨ w.heap.size ≤ go17) from (HO_127000.out.1 _ rfl).1)
           obtain ⟨hx17_0, hf17_0⟩ := Kd.R_celln 0 HO_127000.out ((rd x9_1 x10_1) : Int) p17 q17
           replace p17 := eq_true p17
           replace q17 := eq_true q17
           have HP34 := Kd.R_putn HO_127000.out ((rd x9_1 x10_1) : Int) (rd x127001_1 a2)
           rw [← Ny132.out] at HP34
           have HQ34 := Aside0.mk HP34
           clear HP34
           refine start_ (n := 13) (S := fun w' => w'.cell? ⟨gb126, 0, none⟩ = some (.slice (some ⟨go17, 0, none⟩) x127000_1.length co6) ∧ w'.cell? ⟨gb126, 1, none⟩ = some (.slice (some ad131) x127001_1.length co7) ∧ w'.cell? ⟨gb126, 2, none⟩ = some (.slice Ao8 x127002_1.length co8) ∧ w'.cell? (ad130.add (x10_1).toNat) = some (.int .i64 (rd x9_1 x10_1)) ∧ w'.cell? (ad131.add (a2).toNat) = some (.int .i64 (rd x127001_1 a2))) (ds := [12]) (bz 13 0) (by kernel_rfl) rfl (by kernel_rfl) ⟨(blk_cell BK126.out 0).trans rfl, (blk_cell BK126.out 1).trans rfl, (blk_cell BK126.out 2).trans rfl, hx130_0, hx131_0⟩ (fun hHeld => ?_); refine with_tabW spec_l20Visit.tab5 spec_l20Visit.bits5 (fun HT_ HW_ => ?_)
           generalize wr.drew = w33 at HO_9 HO_127000 HO_127001 HO_127002 BK126 HK HB GG17 HQ34 hf17_0 hx130_0 hx131_0 hx17_0 hHeld ⊢
           refine pv 0 20 (bz 13 1) HT_ (h := ?_)
           refine pv 2 22 (bz 13 5) HT_ (h := ?_)
           refine pv 3 23 (bz 13 13) HT_ (h := ?_)
           refine pv 4 24 (bz 13 29) HT_ (h := ?_)
           refine pv 6 26 (bz 13 93) HT_ (h := ?_)
           refine pv 8 28 (bz 13 349) HT_ (h := ?_)
           refine tv5 1 21 (bz 13 351) HT_ HW_ hHeld (h := ?_)
           refine tv5 5 25 (bz 13 383) HT_ HW_ hHeld (h := ?_)
           refine tv5 7 27 (bz 13 511) HT_ HW_ hHeld (h := ?_)
           refine pv 9 29 (bz 13 1023) HT_ (h := ?_)
           refine tv5 10 30 (bz 13 2047) HT_ HW_ hHeld (h := ?_)
           refine pv 11 31 (bz 13 4095) HT_ (h := ?_)
           refine last_ (i := 12) (N := none) (bz 13 8191) rfl rfl (one_of HT_.out (by kernel_rfl)) (by decide) (fun K hK => ?_)
           refine skip_ (w1 := ?_) (by rfl) rfl ?_ ?_
           rotate_left
           ·go_simp
            rfl
           refine hK.out _ _ ?_
           clear hK K
           refine done_ (done_of HT_.out (by kernel_rfl)) ?_
           have p133 : 0 ≤ (x10_1 : Int) := of_decide_eq_true as_
           have q133 : x10_1 < (x9_1.length : Int) := of_decide_eq_true as_
           obtain ⟨ad133, e133, hx133_0⟩ := Kd.at_int (Kd.R_reads' (Kd.R_far (p := ⟨go17, ((rd x9_1 x10_1) : Int).toNat, none⟩) (Kd.R_mono HO_9.out (fun k_ hk => (⟨hk, fun e_ => hk.2.1 (by rw [e_]; rfl)⟩ : _ ∧ k_ ≠ go17))) fk (.int .i64 (rd x127001_1 a2)))).2.2 x10_1 p133 q133
           obtain rfl : ad130 = ad133 := (by injection e133)
           replace p133 := eq_true p133
           replace q133 := eq_true q133
           have p134 : 0 ≤ ((rd x9_1 x10_1) : Int) := of_decide_eq_true as_
           have q134 : (rd x9_1 x10_1) < (l0.length : Int) := of_decide_eq_true as_
           obtain ⟨ad134, e134, hx134_0, hx134_1, hx134_2⟩ := at_T50 (Kd.C_kept_now HR0.out (show Kept w (w33.setCell ⟨go17, ((rd x9_1 x10_1) : Int).toNat, none⟩ (.int .i64 (rd x127001_1 a2))) (fun k_ => P1_0_ k_ ∨ P1_1_ k_ ∨ P1_2_ k_) from by repeat (first | (with_reducible first | exact HK.out | apply Kept.alloc | apply Kept.drewN | apply Kept.drew | refine Kept.setCell ?_ HMgo17.out _ | refine Kept.setCell ?_ (.inr GW126.out) _) | exact HK.out))) (rd x9_1 x10_1) p134 q134
           cases e134
           replace p134 := eq_true p134
           replace q134 := eq_true q134
           try go_wp2
           (try simp only [← hl127000_1, ← hl127001_1, ← hl127002_1])
           go_roundg k1
           case measure => have := HK1.out; omega
           case rel => exact ⟨(x3_1), (x9_1), (wrap64 (x10_1 + 1)), (y132), (x127001_1), (x127002_1), (by first | rfl | (simp; done) | (simp [*]; done)), (by first | rfl | (simp; done) | (simp [*]; done)), H', ⟨by have := HK1.out; omega⟩, ⟨by (try simp only [hl127000_1]); (try simp only [hl127001_1]); (try simp only [hl127002_1]); (with_reducible repeat (first | apply Kd.R_alloc | apply Kd.R_drewN | apply Kd.R_drew)); exact Kd.R_mono (Kd.R_far (p := ⟨go17, ((rd x9_1 x10_1) : Int).toNat, none⟩) (Kd.R_mono HO_9.out (fun k_ hk => (⟨hk, fun e_ => hk.2.1 (by rw [e_]; rfl)⟩ : _ ∧ k_ ≠ go17))) fk (.int .i64 (rd x127001_1 a2))) (fun _ hk => (And.intro (hk.1.1) ((And.intro (hk.1.2.1) ((And.intro (hk.1.2.2.1) (hk.1.2.2.2)))))))⟩, ⟨by (try simp only [hl127000_1]); (try simp only [hl127001_1]); (try simp only [hl127002_1]); (with_reducible repeat (first | apply Kd.R_alloc | apply Kd.R_drewN | apply Kd.R_drew)); exact HQ34.out⟩, ⟨by (try simp only [hl127000_1]); (try simp only [hl127001_1]); (try simp only [hl127002_1]); (with_reducible repeat (first | apply Kd.R_alloc | apply Kd.R_drewN | apply Kd.R_drew)); exact Kd.R_mono (Kd.R_far (p := ⟨go17, ((rd x9_1 x10_1) : Int).toNat, none⟩) (Kd.R_mono HO_127001.out (fun k_ hk => (⟨hk, fun e_ => hk.2.2.1 (by rw [e_]; rfl)⟩ : _ ∧ k_ ≠ go17))) fk (.int .i64 (rd x127001_1 a2))) (fun _ hk => (And.intro (hk.1.1) ((And.intro (hk.1.2.1) ((And.intro (hk.1.2.2.1) (hk.1.2.2.2)))))))⟩, ⟨by (try simp only [hl127000_1]); (try simp only [hl127001_1]); (try simp only [hl127002_1]); (with_reducible repeat (first | apply Kd.R_alloc | apply Kd.R_drewN | apply Kd.R_drew)); exact Kd.R_mono (Kd.R_far (p := ⟨go17, ((rd x9_1 x10_1) : Int).toNat, none⟩) (Kd.R_mono HO_127002.out (fun k_ hk => (⟨hk, fun e_ => hk.2.2.1 (by rw [e_]; rfl)⟩ : _ ∧ k_ ≠ go17))) fk (.int .i64 (rd x127001_1 a2))) (fun _ hk => (And.intro (hk.1.1) ((And.intro (hk.1.2.1) ((And.intro (hk.1.2.2.1) (hk.1.2.2.2)))))))⟩, ⟨by (try simp only [hl127000_1]); (try simp only [hl127001_1]); (try simp only [hl127002_1]); (with_reducible repeat (first | refine blk_drewN ?_ _ | refine blk_drew ?_ | refine blk_alloc ?_ _)); refine blk_far ?_ (by have h_ := Kd.R_ne HO_127000.out BK126.out (by decide); intro e_; exact h_ (by rw [e_]; rfl)) _; exact bk⟩, ⟨by repeat (first | (with_reducible first | exact HK.out | apply Kept.alloc | apply Kept.drewN | apply Kept.drew | refine Kept.setCell ?_ HMgo17.out _ | refine Kept.setCell ?_ (.inr GW126.out) _) | exact HK.out)⟩, ⟨by repeat (first | (with_reducible first | exact HB.out | apply below_alloc | apply pw_below_drewN | apply below_drew1 | refine below_set ?_ GB17.out | refine below_set ?_ GE126.out) | exact HB.out)⟩⟩
         ·rw [if_neg c18] at H
          exact absurd H (by simp)
        ·rw [if_neg c16] at H
         exact absurd H (by simp)
       ·rw [if_neg c15] at H
        exact absurd H (by simp)
      ·rw [if_neg c14] at H
       exact absurd H (by simp)
     ·rw [if_neg c13] at H
      exact absurd H (by simp)
    ·rw [if_neg c12] at H
     exact absurd H (by simp)
   ·rw [if_neg c11] at H
    have c11b0 : decide (x10_1 < (x9_1.length : Int)) = false := decide_eq_false c11
    (try (have c11h0 := c11b0; simp only [hl127000_1, hl127001_1, hl127002_1] at c11h0))
    clear c11
    by_cases c35 : 0 ≤ a2
    ·rw [if_pos c35] at H
     have c35b0 : decide (0 ≤ a2) = true := decide_eq_true c35
     clear c35
     by_cases c36 : a2 < (x127002_1.length : Int)
     ·rw [if_pos c36] at H
      have c36b0 : decide (a2 < (x127002_1.length : Int)) = true := decide_eq_true c36
      (try (have c36h0 := c36b0; simp only [hl127000_1, hl127001_1, hl127002_1] at c36h0))
      clear c36
      obtain ⟨y142, hy142⟩ : ∃ y_ : List Int, y_ = (x127002_1.set (a2 : Int).toNat x3_1) := ⟨_, rfl⟩
      replace H : (some (x3_1, x127000_1, x127001_1, y142)) = some (r1, r2, r3, r4) := by first | (rw [hy142]; with_reducible exact H) | (have H2_ := (Option.bind_some _ _).symm.trans H; rw [hy142]; with_reducible exact H2_) | (have H2_ := (Option.bind_some _ _).symm.trans H; with_reducible exact H2_) | with_reducible exact H | (rw [hy142]; exact H) | exact H
      have Ny142 := Aside0.mk hy142
      clear hy142
      simp only [Option.some.injEq, Prod.mk.injEq] at H
      obtain ⟨rfl, rfl, rfl, rfl⟩ := H
      obtain ⟨Ao38, co38, eo38⟩ := Kd.R_slice HO_9.out
      subst eo38
      obtain ⟨hcz39_0, hcz39_1, hcz39_2, hfz39_0, hfz39_1, hfz39_2⟩ := bx3 BK126.out
      have p37 : 0 ≤ (a2 : Int) := of_decide_eq_true as_
      have q37 : (a2 : Int) < ((x127002_1.length : Int) : Int) := of_decide_eq_true as_
      obtain ⟨go37, co37, eo37, gb37, gl37, cl37, HG37⟩ := Kd.R_form HO_127002.out (by omega)
      (first | cases eo37 | (injection eo37 with ea_ en_ ec_; (first | subst ea_ | (injection ea_ with ea_; subst ea_)); subst ec_; clear en_))
      have GB37 := Aside0.mk gb37
      have GG37 := Aside0.mk HG37
      clear gb37 gl37 HG37
      have HMgo37 := Aside0.mk (show ((P1_0_ go37 ∨ P1_1_ go37 ∨ P1_2_ go37) ∨ w.heap.size ≤ go37) from (HO_127002.out.1 _ rfl).1)
      obtain ⟨hx37_0, hf37_0⟩ := Kd.R_celln 0 HO_127002.out (a2 : Int) p37 q37
      replace p37 := eq_true p37
      replace q37 := eq_true q37
      have HP40 := Kd.R_putg HO_127002.out (a2 : Int) x3_1
      go_wp2_with (first | ((with_reducible refine gate_store (t := 3) (p := 63) rfl ?_); refine store_event (t := 3) (p := 63) (v := ?vo_w41) (w1 := (wr.setCell ⟨go37, (a2 : Int).toNat, none⟩ (.int .i64 x3_1))) ?hg ?ho ?hn ?hr ?_; (case ho => rfl); (case hg => rfl); (case hn => rfl); (case hr => first | (go_simp; done) | (go_simp; rfl)); intro w41 hw; have hg : wr.grownBy w41 (some go37) := (by rw [hw]; exact HP40.2); have hp_ : Kd.R (Kd.int .i64) 3 w41 w0.heap.size (fun k_ => ((P1_0_ k_ ∨ P1_1_ k_ ∨ P1_2_ k_) ∨ w.heap.size ≤ k_) ∧ some k_ ≠ (.slice Ao38 x9_1.length co38 : Value).ownBlock ∧ some k_ ≠ (.slice Ao6 x127000_1.length co6 : Value).ownBlock ∧ some k_ ≠ (.slice Ao7 x127001_1.length co7 : Value).ownBlock) (.slice (some ⟨go37, 0, none⟩) x127002_1.length co8) y142 := (by rw [hw, Ny142.out]; exact HP40.1); clear HP40; have t_ := fc7 (Kd.R_after (v := (.slice (some ⟨go37, 0, none⟩) x127002_1.length co8)) (v1 := (.slice (some ⟨go37, 0, none⟩) x127002_1.length co8)) (ok := (fun k_ => ((P1_0_ k_ ∨ P1_1_ k_ ∨ P1_2_ k_) ∨ w.heap.size ≤ k_) ∧ some k_ ≠ (.slice Ao6 x127000_1.length co6 : Value).ownBlock ∧ some k_ ≠ (.slice Ao7 x127001_1.length co7 : Value).ownBlock)) (ra (Kd.R_mono HO_9.out (fun _ hk => (And.intro ((And.intro (hk.1) ((And.intro (hk.2.1) (hk.2.2.1))))) (hk.2.2.2))))) hg (.inl rfl)) (Kd.R_after (v := (.slice (some ⟨go37, 0, none⟩) x127002_1.length co8)) (v1 := (.slice (some ⟨go37, 0, none⟩) x127002_1.length co8)) (ok := (fun k_ => ((P1_0_ k_ ∨ P1_1_ k_ ∨ P1_2_ k_) ∨ w.heap.size ≤ k_) ∧ some k_ ≠ (.slice Ao38 x9_1.length co38 : Value).ownBlock ∧ some k_ ≠ (.slice Ao7 x127001_1.length co7 : Value).ownBlock)) (ra (Kd.R_mono HO_127000.out (fun _ hk => (And.intro ((And.intro (hk.1) ((And.intro (hk.2.1) (hk.2.2.1))))) (hk.2.2.2))))) hg (.inl rfl)) (Kd.R_after (v := (.slice (some ⟨go37, 0, none⟩) x127002_1.length co8)) (v1 := (.slice (some ⟨go37, 0, none⟩) x127002_1.length co8)) (ok := (fun k_ => ((P1_0_ k_ ∨ P1_1_ k_ ∨ P1_2_ k_) ∨ w.heap.size ≤ k_) ∧ some k_ ≠ (.slice Ao38 x9_1.length co38 : Value).ownBlock ∧ some k_ ≠ (.slice Ao6 x127000_1.length co6 : Value).ownBlock)) (ra (Kd.R_mono HO_127001.out (fun _ hk => (And.intro ((And.intro (hk.1) ((And.intro (hk.2.1) (hk.2.2.1))))) (hk.2.2.2))))) hg (.inl rfl)) (hp_) (blk_grown (g := gb126) (o := .cells #[.slice Ao6 x127000_1.length co6, .slice Ao7 x127001_1.length co7, .slice (some ⟨go37, 0, none⟩) x127002_1.length co8] 31 (0, 0)) bk hg (Kd.R_ne HO_127002.out BK126.out (by decide))) ((by rw [hw]; exact below_set (HB.out) GB37.out : Below w0.heap.size w0 w41)) (Kept.of_grown (S := (fun k_ => P1_0_ k_ ∨ P1_1_ k_ ∨ P1_2_ k_)) hg (by repeat (first | (with_reducible first | exact HK.out | apply Kept.alloc | apply Kept.drewN | apply Kept.drew | refine Kept.setCell ?_ (.inr GW126.out) _) | exact HK.out)) (fun k_ e_ => (HO_127002.out.1 k_ e_).1)); clear HO_9 HO_127000 HO_127001 HO_127002 BK126 HB HK; obtain ⟨HO_9, HO_127000, HO_127001, HO_127002, BK126, HB, HK⟩ := t_; clear hg hw hp_))
      go_ret
      exact ⟨er, (by first | exact (ra (Kd.R_mono HO_127000.out (fun _ hk => by first | exact hk.1.1 | exact hk))) | (simp only [hl127000_1, hl127001_1, hl127002_1]; exact (ra (Kd.R_mono HO_127000.out (fun _ hk => by first | exact hk.1.1 | exact hk))))), (by first | exact (ra (Kd.R_mono HO_127001.out (fun _ hk => by first | exact hk.1.1 | exact hk))) | (simp only [hl127000_1, hl127001_1, hl127002_1]; exact (ra (Kd.R_mono HO_127001.out (fun _ hk => by first | exact hk.1.1 | exact hk))))), (by first | exact (ra (Kd.R_mono HO_127002.out (fun _ hk => by first | exact hk.1 | exact hk))) | (simp only [hl127000_1, hl127001_1, hl127002_1]; exact (ra (Kd.R_mono HO_127002.out (fun _ hk => by first | exact hk.1 | exact hk))))), bb, by repeat (first | (with_reducible first | exact HK.out | apply Kept.alloc | apply Kept.drewN | apply Kept.drew | refine Kept.setCell ?_ (.inr GW126.out) _) | exact HK.out)⟩
     ·rw [if_neg c36] at H
      exact absurd H (by simp)
    ·rw [if_neg c35] at H
     exact absurd H (by simp)

end Go.Proofs.Ytbbppknnkghkjaa.PFnExactDownToId
