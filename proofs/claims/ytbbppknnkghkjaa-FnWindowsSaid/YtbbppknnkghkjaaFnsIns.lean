/- The contract of slices.SortFunc over a row of ints of the call's own (12 or fewer), for a literal that may lay blocks of its own. -/
import Derived.Test.YtbbppknnkghkjaaFnsAlo
import Derived.Deep.RegionHeld3
import Derived.Deep.QuietTactic
import Derived.BigQuiet
import Derived.Shelf.RegionOpenPlain
namespace Go.Proofs.Ytbbppknnkghkjaa.Fns
open Go.RowKit Go.Sort Go.Shelf Go.Proofs.YtbbppknnkghkjaaW.PrintWords
set_option linter.unusedVariables false
set_option linter.unusedSimpArgs false

theorem swap_perm (x : List Int) (j : Nat) (h0 : 0 < j) (h1 : j < x.length) : (swap_ x j).Perm x := by
  have e : swap_ x j = (x.set j (x[j - 1]'(by omega))).set (j - 1) x[j] := by
    unfold swap_
    simp [List.getD_eq_getElem?_getD, h1, show j - 1 < x.length by omega]
  rw [e]
  exact List.set_set_perm (by omega) (by omega)

set_option maxHeartbeats 4000000 in
set_option maxRecDepth 100000 in
theorem ins_walk (p : Int → Prop) (cf : Int → Int → Int) (asym : ∀ x y, cf x y < 0 → ¬ cf y x < 0) (trans : ∀ x y z, ¬ cf y x < 0 → ¬ cf z y < 0 → ¬ cf z x < 0) (g : Nat) (cb : Array Value) (P0 : Nat → Prop) (gr c : Nat) (l : List Int) (w0 w : World) (hB : Below w0.heap.size w0 w)
    (ho : Kd.R (Kd.int .i64) 3 w w0.heap.size P0 (.slice (some ⟨gr, 0, none⟩) l.length c) l) (h12 : l.length ≤ 12) (hp : ∀ x ∈ l, p x)
    (eg : ∀ args w, (callFunc g args).run Try.prog w = .ok (.enter g args) w)
    (hcmp : ∀ W, Kept w W P0 → ∀ x y, p x → p y → Calls Try.prog g (#[.int .i64 x, .int .i64 y] ++ cb) W fun e w' => e = .returned (.int .i64 (cf x y)) ∧ Below W.heap.size W w') :
    Calls Try.prog 138 #[.slice (some ⟨gr, 0, none⟩) l.length c, .int .i64 0, .int .i64 (l.length : Int), .func (.func g) #[] cb] w fun e w' => e = .returned (.tuple #[]) ∧ ∃ l' : List Int, l'.Perm l ∧ (∀ a b, a < b → b < l'.length → le_ cf l' a b) ∧
      Kd.R (Kd.int .i64) 3 w' w0.heap.size P0 (.slice (some ⟨gr, 0, none⟩) l.length c) l' ∧ Below w0.heap.size w0 w' ∧ Kept w w' P0 := by
  have hP : P0 gr := ho.1 gr (by simp [Value.ownBlock])
  have mixed : Try.prog.follows Departure.mixedOrders = true := by kernel_rfl
  have HB := Aside0.mk hB
  have HO := Aside0.mk ho
  have HP := Aside0.mk hp
  have HC := Aside0.mk hcmp
  have hgr : w0.heap.size ≤ gr := (Kd.R_base ho gr (by simp [Value.ownBlock]))
  have ASY := Aside0.mk asym
  have TRA := Aside0.mk trans
  clear hB ho hp hcmp asym trans
  go_enter Try.func138, Try.ntmps138
  go_wp2_with fail
  go_loopg [8, 9] l.length (fun gg s8 _ wr => ∃ (i : Nat) (x : List Int), 1 ≤ i ∧ l.length - i ≤ gg ∧ s8 = .int .i64 (i : Int) ∧ i ≤ l.length + 1 ∧ x.length = l.length ∧ Aside0 (x.Perm l) ∧ Aside0 (∀ a b, a < b → b < i → b < x.length → le_ cf x a b) ∧ Aside0 (Kd.R (Kd.int .i64) 3 wr w0.heap.size P0 (.slice (some ⟨gr, 0, none⟩) l.length c) x) ∧ Aside0 (Below w0.heap.size w0 wr) ∧ Aside0 (Kept w wr P0))
  case atStart => exact ⟨1, l, Nat.le_refl _, by omega, by go_num, by omega, rfl, ⟨List.Perm.refl _⟩, ⟨fun a b h1 h2 => by omega⟩, HO, HB, ⟨Kept.refl _ _⟩⟩
  case round =>
    obtain ⟨i, x, hi1, hg, rfl, hi2, hxl, PX, SX, RX, BX, KX⟩ := hrel
    by_cases hlt : i < l.length
    · have hltz : (i : Int) < (l.length : Int) := by omega
      go_wp2_with fail
      go_loopg [9] l.length (fun gg s9 wr2 => ∃ (j : Nat) (y : List Int), j ≤ gg ∧ s9 = .int .i64 (j : Int) ∧ j ≤ i ∧ y.length = l.length ∧ Aside0 (y.Perm l) ∧ Aside0 (inv_ cf y i j) ∧ Aside0 (Kd.R (Kd.int .i64) 3 wr2 w0.heap.size P0 (.slice (some ⟨gr, 0, none⟩) l.length c) y) ∧ Aside0 (Below w0.heap.size w0 wr2) ∧ Aside0 (Kept w wr2 P0))
      case atStart => exact ⟨i, x, by omega, rfl, Nat.le_refl _, hxl, PX, ⟨fun a b h1 h2 h3 => SX.out a b h1 (by omega) (by omega)⟩, RX, BX, KX⟩
      case round =>
        obtain ⟨j, y, hj1, rfl, hji, hyl, PY, IY, RY, BY, KY⟩ := hrel
        by_cases hj0 : 0 < j
        · obtain ⟨m, rfl⟩ : ∃ m, j = m + 1 := ⟨j - 1, by omega⟩
          have hjl : m + 1 < y.length := by omega
          have hml : (m : Int) < (l.length : Int) := by omega
          have hml1 : (m : Int) + 1 < (l.length : Int) := by omega
          have q1 := Kd.R_celln (enc := Value.int .i64) (h1 := fun _ => rfl) (0 : Int) RY.out ((m + 1 : Nat) : Int) (by omega) (by omega)
          have q2 := Kd.R_celln (enc := Value.int .i64) (h1 := fun _ => rfl) (0 : Int) RY.out (m : Int) (by omega) (by omega)
          simp only [Int.toNat_natCast] at q1 q2
          have g1 : rdOf (0 : Int) y ((m + 1 : Nat) : Int) = y.getD (m + 1) 0 := rfl
          have g2 : rdOf (0 : Int) y (m : Int) = y.getD m 0 := rfl
          rw [g1] at q1
          rw [g2] at q2
          obtain ⟨a, ha⟩ : ∃ a, a = y.getD (m + 1) 0 := ⟨_, rfl⟩
          obtain ⟨b, hb⟩ : ∃ b, b = y.getD m 0 := ⟨_, rfl⟩
          rw [← ha] at q1
          rw [← hb] at q2
          obtain ⟨q1, q1f⟩ := q1
          obtain ⟨q2, q2f⟩ := q2
          have hpa : p a := by
            rw [ha, List.getD_eq_getElem?_getD, List.getElem?_eq_getElem hjl]
            exact HP.out _ (PY.out.subset (List.getElem_mem hjl))
          have hpb : p b := by
            rw [hb, List.getD_eq_getElem?_getD, List.getElem?_eq_getElem (show m < y.length by omega)]
            exact HP.out _ (PY.out.subset (List.getElem_mem _))
          have hne1 : ¬ m = m + 1 := by omega
          have hne2 : ¬ m + 1 = m := by omega
          have h00 : (0 : Int) ≤ (m : Int) + 1 := by omega
          have h01 : (0 : Int) ≤ (m : Int) := by omega
          have hw1 : IntKind.i64.wrap ((m : Int) + 1 - 1) = (m : Int) := by rw [Go.IntKind.wrap_i64]; omega
          have hw2 : IntKind.i64.wrap (m : Int) = (m : Int) := by rw [Go.IntKind.wrap_i64]; omega
          have hc := HC.out wr.drew ⟨KY.out.1, KY.out.2⟩ a b hpa hpb
          have HA := Aside0.mk ha
          have HBB := Aside0.mk hb
          clear ha hb g1 g2 hpa hpb
          by_cases hn : cf a b < 0
          · go_wp2_with fail
            have q1d : wr.drew.cell? ⟨gr, m + 1, none⟩ = some (.int .i64 a) := q1
            have q2d : wr.drew.cell? ⟨gr, m, none⟩ = some (.int .i64 b) := q2
            go_region_held3 (fun w' : World => w'.cell? ⟨gr, m + 1, none⟩ = some (.int .i64 a) ∧ w'.cell? ⟨gr, m, none⟩ = some (.int .i64 b)) (first | with_reducible exact ⟨q1d, q2d⟩ | with_reducible exact ⟨p1', p2'⟩) (first | (go_simp; go_at_fn g; (with_reducible refine hc.mono ?_); rintro e w2 ⟨rfl, hb2⟩; have p1' : w2.cell? ⟨gr, m + 1, none⟩ = some (.int .i64 a) := pw_cell_below hb2 q1d; have p2' : w2.cell? ⟨gr, m, none⟩ = some (.int .i64 b) := pw_cell_below hb2 q2d; have p1 : w2.drew.cell? ⟨gr, m + 1, none⟩ = some (.int .i64 a) := pw_cell_below hb2 (show wr.drew.cell? ⟨gr, m + 1, none⟩ = _ from q1); have p2 : w2.drew.cell? ⟨gr, m, none⟩ = some (.int .i64 b) := pw_cell_below hb2 (show wr.drew.cell? ⟨gr, m, none⟩ = _ from q2); have R2w := Aside0.mk (Kd.R_below (Kd.R_drew RY.out) hb2); have B2w := Aside0.mk (below_then (below_drew BY.out) (below_drew BY.out).size hb2); have K2w := Aside0.mk (show Kept w w2 P0 from ⟨Nat.le_trans KY.out.1 hb2.size, fun k hk hn_ => (hb2.block k (Nat.lt_of_lt_of_le hk KY.out.1)).trans (KY.out.2 k hk hn_)⟩); have R2 := Aside0.mk (Kd.R_drew (Kd.R_below (Kd.R_drew RY.out) hb2)); have B2 := Aside0.mk (below_drew (below_then (below_drew BY.out) (below_drew BY.out).size hb2)); have K2 := Aside0.mk (show Kept w w2.drew P0 from ⟨Nat.le_trans KY.out.1 hb2.size, fun k hk hn_ => (hb2.block k (Nat.lt_of_lt_of_le hk KY.out.1)).trans (KY.out.2 k hk hn_)⟩); obtain ⟨-, f1⟩ := Kd.R_celln (enc := Value.int .i64) (h1 := fun _ => rfl) (0 : Int) R2w.out ((m + 1 : Nat) : Int) (by omega) (by omega); obtain ⟨-, f2⟩ := Kd.R_celln (enc := Value.int .i64) (h1 := fun _ => rfl) (0 : Int) R2w.out (m : Int) (by omega) (by omega); simp only [Int.toNat_natCast] at f1 f2))
            go_wp2_with fail
            go_region_law_o (fail)
            all_goals
              obtain ⟨w3, hw3⟩ : ∃ w3, w3 = (w2.setCell ⟨gr, m + 1, none⟩ (.int .i64 b)).setCell ⟨gr, m, none⟩ (.int .i64 a) := ⟨_, rfl⟩
              have r1 := (Kd.R_putg (enc := Value.int .i64) (h1 := fun _ => rfl) R2w.out ((m + 1 : Nat) : Int) b).1
              have r2 := (Kd.R_putg (enc := Value.int .i64) (h1 := fun _ => rfl) r1 (m : Int) a).1
              simp only [Int.toNat_natCast] at r1 r2
              have hs : (y.set (m + 1) b).set m a = swap_ y (m + 1) := by rw [HA.out, HBB.out]; rfl
              rw [hs, ← hw3] at r2
              have B3 : Below w0.heap.size w0 w3 := by rw [hw3]; exact below_set (below_set B2w.out hgr) hgr
              have K3 : Kept w w3 P0 := by
                rw [hw3]
                exact (K2w.out.setCell (.inl hP) _).setCell (.inl hP) _
              have hcab : cf (y.getD (m + 1) 0) (y.getD (m + 1 - 1) 0) < 0 := by
                have := hn
                rw [HA.out, HBB.out] at this
                exact this
              have HI := Aside0.mk (inv_swap cf (fun x y h => by have := ASY.out x y h; omega) y i (m + 1) (by omega) hji (by omega) hcab IY.out)
              have HPm := Aside0.mk ((swap_perm y (m + 1) (by omega) hjl).trans PY.out)
              have HR3 := Aside0.mk (Kd.R_drew r2)
              have HB3 := Aside0.mk (below_drew B3)
              have HK3 := Aside0.mk (show Kept w w3.drew P0 from ⟨K3.1, K3.2⟩)
              first | rw [← hw3] | (trace_state; rw [← hw3])
              clear hw3 r1 r2 hs B3 K3 hcab p1 p2 p1' p2' f1 f2 R2 B2 K2 R2w B2w K2w
              go_wp2_with fail
              go_roundg m
              case measure => omega
              case rel => exact ⟨m, swap_ y (m + 1), Nat.le_refl _, by go_num, by omega, by rw [swap_len]; exact hyl, HPm, HI, HR3, HB3, HK3⟩
          · go_wp2_with fail
            have q1d : wr.drew.cell? ⟨gr, m + 1, none⟩ = some (.int .i64 a) := q1
            have q2d : wr.drew.cell? ⟨gr, m, none⟩ = some (.int .i64 b) := q2
            go_region_held3 (fun w' : World => w'.cell? ⟨gr, m + 1, none⟩ = some (.int .i64 a) ∧ w'.cell? ⟨gr, m, none⟩ = some (.int .i64 b)) (first | with_reducible exact ⟨q1d, q2d⟩ | with_reducible exact ⟨p1', p2'⟩) (first | (go_simp; go_at_fn g; (with_reducible refine hc.mono ?_); rintro e w2 ⟨rfl, hb2⟩; have p1' : w2.cell? ⟨gr, m + 1, none⟩ = some (.int .i64 a) := pw_cell_below hb2 q1d; have p2' : w2.cell? ⟨gr, m, none⟩ = some (.int .i64 b) := pw_cell_below hb2 q2d; have p1 : w2.drew.cell? ⟨gr, m + 1, none⟩ = some (.int .i64 a) := pw_cell_below hb2 (show wr.drew.cell? ⟨gr, m + 1, none⟩ = _ from q1); have p2 : w2.drew.cell? ⟨gr, m, none⟩ = some (.int .i64 b) := pw_cell_below hb2 (show wr.drew.cell? ⟨gr, m, none⟩ = _ from q2); have R2w := Aside0.mk (Kd.R_below (Kd.R_drew RY.out) hb2); have B2w := Aside0.mk (below_then (below_drew BY.out) (below_drew BY.out).size hb2); have K2w := Aside0.mk (show Kept w w2 P0 from ⟨Nat.le_trans KY.out.1 hb2.size, fun k hk hn_ => (hb2.block k (Nat.lt_of_lt_of_le hk KY.out.1)).trans (KY.out.2 k hk hn_)⟩); have R2 := Aside0.mk (Kd.R_drew (Kd.R_below (Kd.R_drew RY.out) hb2)); have B2 := Aside0.mk (below_drew (below_then (below_drew BY.out) (below_drew BY.out).size hb2)); have K2 := Aside0.mk (show Kept w w2.drew P0 from ⟨Nat.le_trans KY.out.1 hb2.size, fun k hk hn_ => (hb2.block k (Nat.lt_of_lt_of_le hk KY.out.1)).trans (KY.out.2 k hk hn_)⟩); obtain ⟨-, f1⟩ := Kd.R_celln (enc := Value.int .i64) (h1 := fun _ => rfl) (0 : Int) R2w.out ((m + 1 : Nat) : Int) (by omega) (by omega); obtain ⟨-, f2⟩ := Kd.R_celln (enc := Value.int .i64) (h1 := fun _ => rfl) (0 : Int) R2w.out (m : Int) (by omega) (by omega); simp only [Int.toNat_natCast] at f1 f2))
            go_wp2_with fail
            go_roundg (l.length - (i + 1))
            case measure => omega
            case rel =>
              refine ⟨i + 1, y, by omega, by omega, by go_num, by omega, hyl, PY, ⟨fun a' b' h1 h2 h3 => ?_⟩, R2w, B2w, K2w⟩
              exact inv_end cf (fun x y z h1 h2 => by have := TRA.out x y z (by omega) (by omega); omega) y i (m + 1) hji (.inr (by have h_ := hn; rw [HA.out, HBB.out] at h_; show ¬ cf (y.getD (m + 1) 0) (y.getD m 0) < 0; omega)) IY.out a' b' h1 (by omega)
        · have hjz : ¬ (0 : Int) < (j : Int) := by omega
          have hjd : decide ((0 : Int) < (j : Int)) = false := decide_eq_false hjz
          go_wp2_with fail
          go_quiet (fail)
          go_wp2_with fail
          go_roundg (l.length - (i + 1))
          case measure => omega
          case rel =>
            refine ⟨i + 1, y, by omega, by omega, by go_num, by omega, hyl, PY, ⟨fun a' b' h1 h2 h3 => ?_⟩, ⟨Kd.R_drewN RY.out _⟩, ⟨pw_below_drewN BY.out _⟩, ⟨KY.out.drewN _⟩⟩
            exact inv_end cf (fun x y z h1 h2 => by have := TRA.out x y z (by omega) (by omega); omega) y i j hji (.inl (by omega)) IY.out a' b' h1 (by omega)
    · have hltz : ¬ (i : Int) < (l.length : Int) := by omega
      go_wp2_with fail
      go_end0
      exact ⟨rfl, x, PX.out, fun a b h1 h2 => SX.out a b h1 (by omega) h2, RX.out, BX.out, KX.out⟩

set_option maxHeartbeats 2000000 in
theorem pdq_walk (P0 : Nat → Prop) (gr c : Nat) (l : List Int) (lim : Int) (F : Value) (w : World) (h0 : 0 < l.length) (h12 : l.length ≤ 12) (Q : Ending → World → Prop)
    (hi : Calls Try.prog 138 #[.slice (some ⟨gr, 0, none⟩) l.length c, .int .i64 0, .int .i64 (l.length : Int), F] w fun e w' => e = .returned (.tuple #[]) ∧ Q (.returned (.tuple #[])) w') :
    Calls Try.prog 125 #[.slice (some ⟨gr, 0, none⟩) l.length c, .int .i64 0, .int .i64 (l.length : Int), .int .i64 lim, F] w fun e w' => e = .returned (.tuple #[]) ∧ Q (.returned (.tuple #[])) w' := by
  have hle : (l.length : Int) ≤ 12 := by omega
  have hw1 : IntKind.i64.wrap ((l.length : Int) - 0) = (l.length : Int) := by rw [Go.IntKind.wrap_i64]; omega
  have hw2 : IntKind.i64.wrap (l.length : Int) = (l.length : Int) := by rw [Go.IntKind.wrap_i64]; omega
  go_enter Try.func125, Try.ntmps125
  go_wp2
  refine wp_loop_rounds 1 ?_
  rw [rounds_succ]
  go_wp2_with (go_at_call 138; refine hi.mono ?_; rintro e w' ⟨rfl, hQ⟩)
  (try simp only [Exit.inBlock, Exit.then]); refine bodyPost_ret (results_none rfl _ _ _) rfl ?_
  exact ⟨rfl, hQ⟩
end Go.Proofs.Ytbbppknnkghkjaa.Fns
