/- Written for this claim: the contracts of marking a queue and of its copies, over queues whose rows have no block in common (no condition beyond what each theorem says). -/
import Derived.Test.YtabefbjagompoaaPFnExactEnterQueuex1
import Derived.Test.YtabefbjagompoaaPFnExactEnterQueuex8
import Derived.Test.YtabefbjagompoaaPFnExactEnterQueuex11
import Derived.Test.YtabefbjagompoaaPFnExactEnterQueuex13
namespace Go.Proofs.Ytabefbjagompoaa.PFnExactEnterQueue
open Go.RowKit Go.Proofs.YtabefbjagompoaaW.PrintWords Go.Proofs.YtabefbjagompoaaW.PrintLast Go.Proofs.YtabefbjagompoaaW.PrintMore Go.Proofs.Ytabefbjagompoaa.Kit Go.Proofs.Ytabefbjagompoaa.Steps Go.Proofs.Ytabefbjagompoaa.Kit2 Go.Proofs.Ytabefbjagompoaa.Kit3
open Go.Proofs.YtabefbjagompoaaW.PrintWords.Kd (R_below R_mono R_far R_types R_elder' R_base R_lower R_new' R_newB R_lt R_after R_slice R_drew R_drewN R_alloc R_reads' R_bound R_append R_ne R_step C_below C_alloc C_drew C_drewN)
attribute [local go_sem] max2_int min2_int max_two min_two max_three min_three max_four min_four   -- for this text's walks alone
set_option linter.unusedVariables false
set_option linter.unusedSimpArgs false
theorem mk_at {w : World} {base g n cap : Nat} {ok oki : Nat → Prop} {xs : List S33} {i : Int} {c : List Value} (h : Kd.H k33 33 w base ok (.slice (some ⟨g, 0, none⟩) n cap) xs i oki c) (h0 : 0 ≤ i) (h1 : i < n) :
    (∀ j u, c[j]? = some u → w.cell? ⟨g, i.toNat * 8 + j, none⟩ = some u) ∧ ∀ j, w.frozen? ⟨g, i.toNat * 8 + j, none⟩ = false := by
  obtain ⟨_, _, _, _, _, hcc, _⟩ := Kd.H_raw h h0 h1
  refine ⟨hcc, fun j => ?_⟩
  obtain ⟨_, f, hR⟩ := h
  obtain ⟨_, _, _, _, hfr⟩ := Kd.R_elem hR (z33, 0) i h0 h1
  exact hfr j
theorem mk_put {w0 wa w : World} {base g n cap : Nat} {ok oki : Nat → Prop} {xs : List S33} {i : Int} {c c' : List Value} (h : Kd.H k33 33 w base ok (.slice (some ⟨g, 0, none⟩) n cap) xs i oki c) (h0 : 0 ≤ i) (h1 : i < n) (hB : Below w0.heap.size w0 w) (hg : w0.heap.size ≤ g) (hP : ok g) (HK : Kept wa w ok) (j : Nat) (v : Value) (hj : j + 1 ≤ 8) (hv : v.oneCell' = true) (hc : c.take j ++ [v] ++ c.drop (j + 1) = c') {u : Value} {ys : List Int} (hE : Kd.R (Kd.int .i64) 3 w base oki u ys) (hn : ∀ k, oki k → k ≠ g) :
    Kd.H k33 33 (w.setCell ⟨g, i.toNat * 8 + j, none⟩ v) base ok (.slice (some ⟨g, 0, none⟩) n cap) xs i oki c' ∧ Below w0.heap.size w0 (w.setCell ⟨g, i.toNat * 8 + j, none⟩ v) ∧ Kept wa (w.setCell ⟨g, i.toNat * 8 + j, none⟩ v) ok ∧ Kd.R (Kd.int .i64) 3 (w.setCell ⟨g, i.toNat * 8 + j, none⟩ v) base oki u ys := by
  subst hc
  obtain ⟨a, b⟩ := Kd.H_seg h h0 h1 (seg := [v]) (j := j) hj (fun q hq => by rcases List.mem_singleton.1 hq with rfl; exact hv)
  exact ⟨a, below_set hB hg, Kept.of_grown (S := ok) b HK (fun k e => by injection e with e; exact e ▸ .inl hP), Kd.R_far (p := ⟨g, i.toNat * 8 + j, none⟩) hE hn v⟩

def laws_markPacketS.l0 : Nat → List S33 → Int → Int → Option (Int × List S33)
  | 0, _, _, _ => none
  | k + 1, x0, x1, x5 => if x5 < (x0.length : Int) then (if 0 ≤ x5 then ((laws_markIntS.f k (rd_T33 x0 x5).f7 (wrap64 ((wrap64 ((wrap64 ((wrap64 ((wrap64 ((wrap64 ((wrap64 (x1 + 1)) + 1)) + 1)) + 1)) + 1)) + 1)) + 1))).bind fun bt => laws_markPacketS.l0 k (x0.set x5.toNat ⟨x1, (wrap64 (x1 + 1)), (wrap64 ((wrap64 (x1 + 1)) + 1)), (wrap64 ((wrap64 ((wrap64 (x1 + 1)) + 1)) + 1)), (wrap64 ((wrap64 ((wrap64 ((wrap64 (x1 + 1)) + 1)) + 1)) + 1)), (wrap64 ((wrap64 ((wrap64 ((wrap64 ((wrap64 (x1 + 1)) + 1)) + 1)) + 1)) + 1)), (wrap64 ((wrap64 ((wrap64 ((wrap64 ((wrap64 ((wrap64 (x1 + 1)) + 1)) + 1)) + 1)) + 1)) + 1)), bt.2⟩) bt.1 (wrap64 (x5 + 1))) else none) else some (x1, x0)
def laws_markPacketS.f (k : Nat) (l0 : List S33) (a1 : Int) : Option (Int × List S33) := laws_markPacketS.l0 k l0 a1 0

set_option maxHeartbeats 4000000 in
set_option maxRecDepth 1000000 in
theorem laws_markPacketS.calls (k : Nat) (P : Nat → Prop) (v : Value) (l0 : List S33) (a1 r1 : Int) (r2 : List S33) (w0 w : World) (hB : Below w0.heap.size w0 w) (ho : Kd.S k33 33 w w0.heap.size P v l0) (h : laws_markPacketS.f k l0 a1 = some (r1, r2)) :
    Calls Try.prog 61 #[v, .int .i64 a1] w fun e w' => e = .returned (.int .i64 r1) ∧ Kd.S k33 33 w' w0.heap.size P v r2 ∧ Below w0.heap.size w0 w' ∧ Kept w w' P := by
  obtain ⟨A, c, rfl⟩ := Kd.S_slice ho
  have mixed : Try.prog.follows Departure.mixedOrders = true := by kernel_rfl
  have HS := Aside0.mk ho
  have HB := Aside0.mk hB
  have H' := Aside0.mk (show laws_markPacketS.l0 k l0 a1 0 = some (r1, r2) from h)
  clear ho hB h
  go_enter Try.func61, Try.ntmps61
  go_wp2
  go_loopg [1, 5] k (fun kq v1 v5 w' => ∃ (x0_1 : List S33) (x1_1 x5_1 : Int), v1 = .int .i64 x1_1 ∧ v5 = .int .i64 x5_1 ∧ Aside0 (laws_markPacketS.l0 kq x0_1 x1_1 x5_1 = some (r1, r2)) ∧ Aside0 (x0_1.length = l0.length) ∧ Aside0 (Kd.S k33 33 w' w0.heap.size P (.slice A l0.length c) x0_1) ∧ Aside0 (Kept w w' P) ∧ Aside0 (Below w0.heap.size w0 w'))
  case atStart => exact ⟨l0, a1, 0, rfl, rfl, H', ⟨rfl⟩, HS, ⟨Kept.refl _ _⟩, HB⟩
  case round =>
    clear H' HS HB
    obtain ⟨x0_1, x1_1, x5_1, rfl, rfl, HA, HN, HS, HK, HB⟩ := hrel
    cases gk with
    | zero => exact absurd HA.out (by simp [laws_markPacketS.l0])
    | succ k1 =>
      have H := HA.out
      clear HA
      simp only [laws_markPacketS.l0] at H
      by_cases c3 : x5_1 < (x0_1.length : Int)
      · rw [if_pos c3] at H
        have hin : x5_1 < ((l0.length : Nat) : Int) := by rw [← HN.out]; exact c3
        have c3b0 : decide (x5_1 < (l0.length : Int)) = true := decide_eq_true hin
        by_cases hi0 : 0 ≤ x5_1
        · rw [if_pos hi0] at H
          have c4b0 : decide (0 ≤ x5_1) = true := decide_eq_true hi0
          obtain ⟨bt, hm, H⟩ := Option.bind_eq_some_iff.1 H
          have HL := Aside0.mk hm
          have H' := Aside0.mk H
          clear H hm
          obtain ⟨g, cap, e0, hg, hgl, _⟩ := Kd.S_form HS.out (by have := HN.out; omega)
          injection e0 with ea en ec
          subst ea ec
          clear en
          obtain ⟨oki, ce, hcl, hM, hcc, hfr, hoki, hH⟩ := Kd.S_elem HS.out z33 (x5_1 : Int) hi0 hin
          have hM2 : k33.M wr w0.heap.size oki (rd_T33 x0_1 x5_1) ce := hM
          obtain ⟨v7, rfl, ge7⟩ := k33_openM hM2
          obtain ⟨A7, c7, rfl⟩ := Kd.R_slice ge7
          have GB := Aside0.mk hg
          have GP := Aside0.mk ((Kd.S_R HS.out).1 g rfl)
          have HE := Aside0.mk ge7
          have HO := Aside0.mk hoki
          have HQ := Aside0.mk hH
          have hx_ := hcc 0 _ rfl
          have hf_ := hfr 0
          (try simp only [show (k33).sz = 8 from rfl, Nat.add_zero] at hx_ hf_)
          have p5 := eq_true hi0
          have q5 := eq_true hin
          clear hcl hM hM2 hcc hfr hoki hH ge7 hg hgl
          have NG := Aside0.mk (fun k hk => (HO.out k hk).2 : ∀ k, oki k → k ≠ g)
          go_wp2_with (first | ((with_reducible refine gate_store (t := 3) (p := 16) rfl ?_); refine store_event (t := 3) (p := 16) (v := ?vo_0) (w1 := (wr.setCell ⟨g, (x5_1 : Int).toNat * 8, none⟩ (.int .i64 x1_1))) ?hg ?ho ?hn ?hr ?_; (case ho => rfl); (case hg => rfl); (case hn => rfl); (case hr => exact hr_); intro w1 hw; have t_ := mk_put HQ.out hi0 hin HB.out GB.out GP.out HK.out 0 (.int .i64 x1_1) (by decide) rfl (c' := [.int .i64 x1_1, .int .i64 ((rd_T33 x0_1 x5_1).f1), .int .i64 ((rd_T33 x0_1 x5_1).f2), .int .i64 ((rd_T33 x0_1 x5_1).f3), .int .i64 ((rd_T33 x0_1 x5_1).f4), .int .i64 ((rd_T33 x0_1 x5_1).f5), .int .i64 ((rd_T33 x0_1 x5_1).f6), .slice A7 (rd_T33 x0_1 x5_1).f7.length c7]) rfl HE.out NG.out; clear HQ HB HK HE hx_ hf_; (try rw [Nat.add_zero] at t_); rw [← hw] at t_; clear hw; have HQ := Aside0.mk t_.1; have HB := Aside0.mk t_.2.1; have HK := Aside0.mk t_.2.2.1; have HE := Aside0.mk t_.2.2.2; clear t_; have hx_ := (mk_at HQ.out hi0 hin).1 1 _ rfl; have hf_ := (mk_at HQ.out hi0 hin).2 1; (try simp only [Nat.add_zero] at hx_ hf_)) | ((with_reducible refine gate_store (t := 3) (p := 23) rfl ?_); refine store_event (t := 3) (p := 23) (v := ?vo_1) (w1 := (w1.setCell ⟨g, (x5_1 : Int).toNat * 8 + 1, none⟩ (.int .i64 (wrap64 (x1_1 + 1))))) ?hg ?ho ?hn ?hr ?_; (case ho => rfl); (case hg => rfl); (case hn => rfl); (case hr => exact hr_); intro w2 hw; have t_ := mk_put HQ.out hi0 hin HB.out GB.out GP.out HK.out 1 (.int .i64 (wrap64 (x1_1 + 1))) (by decide) rfl (c' := [.int .i64 x1_1, .int .i64 (wrap64 (x1_1 + 1)), .int .i64 ((rd_T33 x0_1 x5_1).f2), .int .i64 ((rd_T33 x0_1 x5_1).f3), .int .i64 ((rd_T33 x0_1 x5_1).f4), .int .i64 ((rd_T33 x0_1 x5_1).f5), .int .i64 ((rd_T33 x0_1 x5_1).f6), .slice A7 (rd_T33 x0_1 x5_1).f7.length c7]) rfl HE.out NG.out; clear HQ HB HK HE hx_ hf_; (try rw [Nat.add_zero] at t_); rw [← hw] at t_; clear hw; have HQ := Aside0.mk t_.1; have HB := Aside0.mk t_.2.1; have HK := Aside0.mk t_.2.2.1; have HE := Aside0.mk t_.2.2.2; clear t_; have hx_ := (mk_at HQ.out hi0 hin).1 2 _ rfl; have hf_ := (mk_at HQ.out hi0 hin).2 2; (try simp only [Nat.add_zero] at hx_ hf_)) | ((with_reducible refine gate_store (t := 3) (p := 30) rfl ?_); refine store_event (t := 3) (p := 30) (v := ?vo_2) (w1 := (w2.setCell ⟨g, (x5_1 : Int).toNat * 8 + 2, none⟩ (.int .i64 (wrap64 ((wrap64 (x1_1 + 1)) + 1))))) ?hg ?ho ?hn ?hr ?_; (case ho => rfl); (case hg => rfl); (case hn => rfl); (case hr => exact hr_); intro w3 hw; have t_ := mk_put HQ.out hi0 hin HB.out GB.out GP.out HK.out 2 (.int .i64 (wrap64 ((wrap64 (x1_1 + 1)) + 1))) (by decide) rfl (c' := [.int .i64 x1_1, .int .i64 (wrap64 (x1_1 + 1)), .int .i64 (wrap64 ((wrap64 (x1_1 + 1)) + 1)), .int .i64 ((rd_T33 x0_1 x5_1).f3), .int .i64 ((rd_T33 x0_1 x5_1).f4), .int .i64 ((rd_T33 x0_1 x5_1).f5), .int .i64 ((rd_T33 x0_1 x5_1).f6), .slice A7 (rd_T33 x0_1 x5_1).f7.length c7]) rfl HE.out NG.out; clear HQ HB HK HE hx_ hf_; (try rw [Nat.add_zero] at t_); rw [← hw] at t_; clear hw; have HQ := Aside0.mk t_.1; have HB := Aside0.mk t_.2.1; have HK := Aside0.mk t_.2.2.1; have HE := Aside0.mk t_.2.2.2; clear t_; have hx_ := (mk_at HQ.out hi0 hin).1 3 _ rfl; have hf_ := (mk_at HQ.out hi0 hin).2 3; (try simp only [Nat.add_zero] at hx_ hf_)) | ((with_reducible refine gate_store (t := 3) (p := 37) rfl ?_); refine store_event (t := 3) (p := 37) (v := ?vo_3) (w1 := (w3.setCell ⟨g, (x5_1 : Int).toNat * 8 + 3, none⟩ (.int .i64 (wrap64 ((wrap64 ((wrap64 (x1_1 + 1)) + 1)) + 1))))) ?hg ?ho ?hn ?hr ?_; (case ho => rfl); (case hg => rfl); (case hn => rfl); (case hr => exact hr_); intro w4 hw; have t_ := mk_put HQ.out hi0 hin HB.out GB.out GP.out HK.out 3 (.int .i64 (wrap64 ((wrap64 ((wrap64 (x1_1 + 1)) + 1)) + 1))) (by decide) rfl (c' := [.int .i64 x1_1, .int .i64 (wrap64 (x1_1 + 1)), .int .i64 (wrap64 ((wrap64 (x1_1 + 1)) + 1)), .int .i64 (wrap64 ((wrap64 ((wrap64 (x1_1 + 1)) + 1)) + 1)), .int .i64 ((rd_T33 x0_1 x5_1).f4), .int .i64 ((rd_T33 x0_1 x5_1).f5), .int .i64 ((rd_T33 x0_1 x5_1).f6), .slice A7 (rd_T33 x0_1 x5_1).f7.length c7]) rfl HE.out NG.out; clear HQ HB HK HE hx_ hf_; (try rw [Nat.add_zero] at t_); rw [← hw] at t_; clear hw; have HQ := Aside0.mk t_.1; have HB := Aside0.mk t_.2.1; have HK := Aside0.mk t_.2.2.1; have HE := Aside0.mk t_.2.2.2; clear t_; have hx_ := (mk_at HQ.out hi0 hin).1 4 _ rfl; have hf_ := (mk_at HQ.out hi0 hin).2 4; (try simp only [Nat.add_zero] at hx_ hf_)) | ((with_reducible refine gate_store (t := 3) (p := 44) rfl ?_); refine store_event (t := 3) (p := 44) (v := ?vo_4) (w1 := (w4.setCell ⟨g, (x5_1 : Int).toNat * 8 + 4, none⟩ (.int .i64 (wrap64 ((wrap64 ((wrap64 ((wrap64 (x1_1 + 1)) + 1)) + 1)) + 1))))) ?hg ?ho ?hn ?hr ?_; (case ho => rfl); (case hg => rfl); (case hn => rfl); (case hr => exact hr_); intro w5 hw; have t_ := mk_put HQ.out hi0 hin HB.out GB.out GP.out HK.out 4 (.int .i64 (wrap64 ((wrap64 ((wrap64 ((wrap64 (x1_1 + 1)) + 1)) + 1)) + 1))) (by decide) rfl (c' := [.int .i64 x1_1, .int .i64 (wrap64 (x1_1 + 1)), .int .i64 (wrap64 ((wrap64 (x1_1 + 1)) + 1)), .int .i64 (wrap64 ((wrap64 ((wrap64 (x1_1 + 1)) + 1)) + 1)), .int .i64 (wrap64 ((wrap64 ((wrap64 ((wrap64 (x1_1 + 1)) + 1)) + 1)) + 1)), .int .i64 ((rd_T33 x0_1 x5_1).f5), .int .i64 ((rd_T33 x0_1 x5_1).f6), .slice A7 (rd_T33 x0_1 x5_1).f7.length c7]) rfl HE.out NG.out; clear HQ HB HK HE hx_ hf_; (try rw [Nat.add_zero] at t_); rw [← hw] at t_; clear hw; have HQ := Aside0.mk t_.1; have HB := Aside0.mk t_.2.1; have HK := Aside0.mk t_.2.2.1; have HE := Aside0.mk t_.2.2.2; clear t_; have hx_ := (mk_at HQ.out hi0 hin).1 5 _ rfl; have hf_ := (mk_at HQ.out hi0 hin).2 5; (try simp only [Nat.add_zero] at hx_ hf_)) | ((with_reducible refine gate_store (t := 3) (p := 51) rfl ?_); refine store_event (t := 3) (p := 51) (v := ?vo_5) (w1 := (w5.setCell ⟨g, (x5_1 : Int).toNat * 8 + 5, none⟩ (.int .i64 (wrap64 ((wrap64 ((wrap64 ((wrap64 ((wrap64 (x1_1 + 1)) + 1)) + 1)) + 1)) + 1))))) ?hg ?ho ?hn ?hr ?_; (case ho => rfl); (case hg => rfl); (case hn => rfl); (case hr => exact hr_); intro w6 hw; have t_ := mk_put HQ.out hi0 hin HB.out GB.out GP.out HK.out 5 (.int .i64 (wrap64 ((wrap64 ((wrap64 ((wrap64 ((wrap64 (x1_1 + 1)) + 1)) + 1)) + 1)) + 1))) (by decide) rfl (c' := [.int .i64 x1_1, .int .i64 (wrap64 (x1_1 + 1)), .int .i64 (wrap64 ((wrap64 (x1_1 + 1)) + 1)), .int .i64 (wrap64 ((wrap64 ((wrap64 (x1_1 + 1)) + 1)) + 1)), .int .i64 (wrap64 ((wrap64 ((wrap64 ((wrap64 (x1_1 + 1)) + 1)) + 1)) + 1)), .int .i64 (wrap64 ((wrap64 ((wrap64 ((wrap64 ((wrap64 (x1_1 + 1)) + 1)) + 1)) + 1)) + 1)), .int .i64 ((rd_T33 x0_1 x5_1).f6), .slice A7 (rd_T33 x0_1 x5_1).f7.length c7]) rfl HE.out NG.out; clear HQ HB HK HE hx_ hf_; (try rw [Nat.add_zero] at t_); rw [← hw] at t_; clear hw; have HQ := Aside0.mk t_.1; have HB := Aside0.mk t_.2.1; have HK := Aside0.mk t_.2.2.1; have HE := Aside0.mk t_.2.2.2; clear t_; have hx_ := (mk_at HQ.out hi0 hin).1 6 _ rfl; have hf_ := (mk_at HQ.out hi0 hin).2 6; (try simp only [Nat.add_zero] at hx_ hf_)) | ((with_reducible refine gate_store (t := 3) (p := 58) rfl ?_); refine store_event (t := 3) (p := 58) (v := ?vo_6) (w1 := (w6.setCell ⟨g, (x5_1 : Int).toNat * 8 + 6, none⟩ (.int .i64 (wrap64 ((wrap64 ((wrap64 ((wrap64 ((wrap64 ((wrap64 (x1_1 + 1)) + 1)) + 1)) + 1)) + 1)) + 1))))) ?hg ?ho ?hn ?hr ?_; (case ho => rfl); (case hg => rfl); (case hn => rfl); (case hr => exact hr_); intro w7 hw; have t_ := mk_put HQ.out hi0 hin HB.out GB.out GP.out HK.out 6 (.int .i64 (wrap64 ((wrap64 ((wrap64 ((wrap64 ((wrap64 ((wrap64 (x1_1 + 1)) + 1)) + 1)) + 1)) + 1)) + 1))) (by decide) rfl (c' := [.int .i64 x1_1, .int .i64 (wrap64 (x1_1 + 1)), .int .i64 (wrap64 ((wrap64 (x1_1 + 1)) + 1)), .int .i64 (wrap64 ((wrap64 ((wrap64 (x1_1 + 1)) + 1)) + 1)), .int .i64 (wrap64 ((wrap64 ((wrap64 ((wrap64 (x1_1 + 1)) + 1)) + 1)) + 1)), .int .i64 (wrap64 ((wrap64 ((wrap64 ((wrap64 ((wrap64 (x1_1 + 1)) + 1)) + 1)) + 1)) + 1)), .int .i64 (wrap64 ((wrap64 ((wrap64 ((wrap64 ((wrap64 ((wrap64 (x1_1 + 1)) + 1)) + 1)) + 1)) + 1)) + 1)), .slice A7 (rd_T33 x0_1 x5_1).f7.length c7]) rfl HE.out NG.out; clear HQ HB HK HE hx_ hf_; (try rw [Nat.add_zero] at t_); rw [← hw] at t_; clear hw; have HQ := Aside0.mk t_.1; have HB := Aside0.mk t_.2.1; have HK := Aside0.mk t_.2.2.1; have HE := Aside0.mk t_.2.2.2; clear t_; have hx_ := (mk_at HQ.out hi0 hin).1 7 _ rfl; (try simp only [Nat.add_zero] at hx_ hf_)) | (go_at_call 63; refine (laws_markIntS.calls k1 oki (.slice A7 (rd_T33 x0_1 x5_1).f7.length c7) (rd_T33 x0_1 x5_1).f7 (wrap64 ((wrap64 ((wrap64 ((wrap64 ((wrap64 ((wrap64 ((wrap64 (x1_1 + 1)) + 1)) + 1)) + 1)) + 1)) + 1)) + 1)) bt.1 bt.2 w0 w7 HB.out HE.out HL.out).mono ?_; rintro e w8 ⟨rfl, hR8, hB8, hK8⟩))
          have hH8 := Kd.H_step HQ.out (w1 := w8) (fun k _ hn hl => hK8.2 k hl hn)
          have hR9 := Kd.R_mono (ok' := oki) (Kd.R_tight rfl hR8) (fun k hk => HE.out.1 k hk.symm)
          have hS8 := Kd.H_back (x' := (⟨x1_1, (wrap64 (x1_1 + 1)), (wrap64 ((wrap64 (x1_1 + 1)) + 1)), (wrap64 ((wrap64 ((wrap64 (x1_1 + 1)) + 1)) + 1)), (wrap64 ((wrap64 ((wrap64 ((wrap64 (x1_1 + 1)) + 1)) + 1)) + 1)), (wrap64 ((wrap64 ((wrap64 ((wrap64 ((wrap64 (x1_1 + 1)) + 1)) + 1)) + 1)) + 1)), (wrap64 ((wrap64 ((wrap64 ((wrap64 ((wrap64 ((wrap64 (x1_1 + 1)) + 1)) + 1)) + 1)) + 1)) + 1)), bt.2⟩ : S33)) hH8 (k33_mkM _ _ _ (⟨x1_1, (wrap64 (x1_1 + 1)), (wrap64 ((wrap64 (x1_1 + 1)) + 1)), (wrap64 ((wrap64 ((wrap64 (x1_1 + 1)) + 1)) + 1)), (wrap64 ((wrap64 ((wrap64 ((wrap64 (x1_1 + 1)) + 1)) + 1)) + 1)), (wrap64 ((wrap64 ((wrap64 ((wrap64 ((wrap64 (x1_1 + 1)) + 1)) + 1)) + 1)) + 1)), (wrap64 ((wrap64 ((wrap64 ((wrap64 ((wrap64 ((wrap64 (x1_1 + 1)) + 1)) + 1)) + 1)) + 1)) + 1)), bt.2⟩ : S33) hR9) (fun _ hk => hk)
          have hK9 : Kept w w8 P := ⟨Nat.le_trans HK.out.1 hK8.1, fun i hi hn => (hK8.2 i (Nat.lt_of_lt_of_le hi HK.out.1) (fun ho => hn (HO.out i ho).1)).trans (HK.out.2 i hi hn)⟩
          have hN9 : (x0_1.set x5_1.toNat (⟨x1_1, (wrap64 (x1_1 + 1)), (wrap64 ((wrap64 (x1_1 + 1)) + 1)), (wrap64 ((wrap64 ((wrap64 (x1_1 + 1)) + 1)) + 1)), (wrap64 ((wrap64 ((wrap64 ((wrap64 (x1_1 + 1)) + 1)) + 1)) + 1)), (wrap64 ((wrap64 ((wrap64 ((wrap64 ((wrap64 (x1_1 + 1)) + 1)) + 1)) + 1)) + 1)), (wrap64 ((wrap64 ((wrap64 ((wrap64 ((wrap64 ((wrap64 (x1_1 + 1)) + 1)) + 1)) + 1)) + 1)) + 1)), bt.2⟩ : S33)).length = l0.length := by rw [List.length_set]; exact HN.out
          go_roundg k1
          case measure => omega
          case rel => exact ⟨_, _, _, rfl, rfl, H', ⟨hN9⟩, ⟨hS8⟩, ⟨hK9⟩, ⟨hB8⟩⟩
        · rw [if_neg hi0] at H
          exact absurd H (by simp)
      · rw [if_neg c3] at H
        have c3b0 : decide (x5_1 < (l0.length : Int)) = false := decide_eq_false (by rw [← HN.out]; exact c3)
        injection H with H; injection H with e1 e2
        subst e1 e2
        go_wp2
        go_ret
        exact ⟨rfl, HS.out, HB.out, HK.out⟩

def QHas (w : World) (base : Nat) (v0 v1 v2 v3 : Value) (l0 : List S33) (l1 l2 : List Int) (l3 : List S33) : Prop :=
  ∃ P0 P1 P2 P3 : Nat → Prop, Kd.S k33 33 w base P0 v0 l0 ∧ Kd.R (Kd.int .i64) 3 w base P1 v1 l1 ∧ Kd.R (Kd.int .i64) 3 w base P2 v2 l2 ∧ Kd.S k33 33 w base P3 v3 l3 ∧
    (∀ k, P0 k → ¬ P1 k ∧ ¬ P2 k ∧ ¬ P3 k) ∧ (∀ k, P1 k → ¬ P2 k ∧ ¬ P3 k) ∧ (∀ k, P2 k → ¬ P3 k)
theorem QHas.below {w w1 : World} {b : Nat} {v0 v1 v2 v3 : Value} {l0 : List S33} {l1 l2 : List Int} {l3 : List S33} (h : QHas w b v0 v1 v2 v3 l0 l1 l2 l3) (hb : Below w.heap.size w w1) : QHas w1 b v0 v1 v2 v3 l0 l1 l2 l3 := by
  obtain ⟨P0, P1, P2, P3, a0, a1, a2, a3, d⟩ := h
  exact ⟨P0, P1, P2, P3, Kd.S_below a0 hb, Kd.R_below a1 hb, Kd.R_below a2 hb, Kd.S_below a3 hb, d⟩
theorem QHas.set {w : World} {b g : Nat} {cs : Array Value} {v0 v1 v2 v3 : Value} {l0 : List S33} {l1 l2 : List Int} {l3 : List S33} (h : QHas w b v0 v1 v2 v3 l0 l1 l2 l3) (hb : w.heap[g]? = some (.cells cs 29 (0, 0))) (j : Nat) (u : Value) : QHas (w.setCell ⟨g, j, none⟩ u) b v0 v1 v2 v3 l0 l1 l2 l3 := by
  obtain ⟨P0, P1, P2, P3, a0, a1, a2, a3, d⟩ := h
  exact ⟨P0, P1, P2, P3, Kd.S_set a0 hb (by decide) j u, Kd.R_set a1 hb (by decide) j u, Kd.R_set a2 hb (by decide) j u, Kd.S_set a3 hb (by decide) j u, d⟩
theorem QHas.lower {w : World} {b b' : Nat} {v0 v1 v2 v3 : Value} {l0 : List S33} {l1 l2 : List Int} {l3 : List S33} (h : QHas w b v0 v1 v2 v3 l0 l1 l2 l3) (hb : b' ≤ b) : QHas w b' v0 v1 v2 v3 l0 l1 l2 l3 := by
  obtain ⟨P0, P1, P2, P3, a0, a1, a2, a3, d⟩ := h
  exact ⟨P0, P1, P2, P3, Kd.S_lower a0 hb, Kd.R_lower a1 hb, Kd.R_lower a2 hb, Kd.S_lower a3 hb, d⟩
theorem QHas.form {w : World} {b : Nat} {v0 v1 v2 v3 : Value} {l0 : List S33} {l1 l2 : List Int} {l3 : List S33} (h : QHas w b v0 v1 v2 v3 l0 l1 l2 l3) : ∃ A0 c0 A1 c1 A2 c2 A3 c3, v0 = .slice A0 l0.length c0 ∧ v1 = .slice A1 l1.length c1 ∧ v2 = .slice A2 l2.length c2 ∧ v3 = .slice A3 l3.length c3 := by
  obtain ⟨P0, P1, P2, P3, a0, a1, a2, a3, d⟩ := h
  obtain ⟨A0, c0, rfl⟩ := Kd.S_slice a0
  obtain ⟨A1, c1, rfl⟩ := Kd.R_slice a1
  obtain ⟨A2, c2, rfl⟩ := Kd.R_slice a2
  obtain ⟨A3, c3, rfl⟩ := Kd.S_slice a3
  exact ⟨_, _, _, _, _, _, _, _, rfl, rfl, rfl, rfl⟩
theorem QHas.reads {w : World} {b : Nat} {A0 A1 A2 A3 : Option Addr} {c0 c1 c2 c3 n0 n1 n2 n3 : Nat} {l0 : List S33} {l1 l2 : List Int} {l3 : List S33} (h : QHas w b (.slice A0 n0 c0) (.slice A1 n1 c1) (.slice A2 n2 c2) (.slice A3 n3 c3) l0 l1 l2 l3) :
    (l0.length ≤ c0 ∧ Kd.C k33 w A0 l0.length l0) ∧ (l1.length ≤ c1 ∧ Kd.C (Kd.int .i64) w A1 l1.length l1) ∧ (l2.length ≤ c2 ∧ Kd.C (Kd.int .i64) w A2 l2.length l2) ∧ (l3.length ≤ c3 ∧ Kd.C k33 w A3 l3.length l3) := by
  obtain ⟨P0, P1, P2, P3, a0, a1, a2, a3, d⟩ := h
  obtain ⟨e0, f0, g0⟩ := Kd.S_reads' a0
  obtain ⟨e1, f1, g1⟩ := Kd.R_reads' a1
  obtain ⟨e2, f2, g2⟩ := Kd.R_reads' a2
  obtain ⟨e3, f3, g3⟩ := Kd.S_reads' a3
  exact ⟨⟨by omega, g0⟩, ⟨by omega, g1⟩, ⟨by omega, g2⟩, ⟨by omega, g3⟩⟩
/-- As the printed contracts tell it. -/
theorem QHas.told {w : World} {b : Nat} {v0 v1 v2 v3 : Value} {l0 : List S33} {l1 l2 : List Int} {l3 : List S33} (h : QHas w b v0 v1 v2 v3 l0 l1 l2 l3) :
    Kd.S k33 33 w b (fun k_ => some k_ ≠ (v1 : Value).ownBlock ∧ some k_ ≠ (v2 : Value).ownBlock ∧ some k_ ≠ (v3 : Value).ownBlock) v0 l0 ∧ Kd.R (Kd.int .i64) 3 w b (fun k_ => some k_ ≠ (v2 : Value).ownBlock) v1 l1 ∧ Kd.R (Kd.int .i64) 3 w b (fun k_ => some k_ ≠ (v1 : Value).ownBlock) v2 l2 ∧
      Kd.S k33 33 w b (fun k_ => some k_ ≠ (v0 : Value).ownBlock ∧ some k_ ≠ (v1 : Value).ownBlock ∧ some k_ ≠ (v2 : Value).ownBlock) v3 l3 := by
  obtain ⟨P0, P1, P2, P3, a0, a1, a2, a3, d0, d1, d2⟩ := h
  have o0 := (Kd.S_R a0).1
  have o1 := a1.1
  have o2 := a2.1
  have o3 := (Kd.S_R a3).1
  exact ⟨Kd.S_mono a0 (fun k hk => ⟨fun e => (d0 k hk).1 (o1 k e.symm), fun e => (d0 k hk).2.1 (o2 k e.symm), fun e => (d0 k hk).2.2 (o3 k e.symm)⟩), Kd.R_mono a1 (fun k hk e => (d1 k hk).1 (o2 k e.symm)), Kd.R_mono a2 (fun k hk e => (d1 k (o1 k e.symm)).1 hk),
    Kd.S_mono a3 (fun k hk => ⟨fun e => (d0 k (o0 k e.symm)).2.2 hk, fun e => (d1 k (o1 k e.symm)).2 hk, fun e => d2 k (o2 k e.symm) hk⟩)⟩
set_option maxHeartbeats 4000000 in
set_option maxRecDepth 1000000 in
theorem impl_copyQueue.callsQ (k : Nat) (A0 : Option Addr) (c0 : Nat) (l0 : List S33) (A1 : Option Addr) (c1 : Nat) (l1 : List Int) (A2 : Option Addr) (c2 : Nat) (l2 : List Int) (A3 : Option Addr) (c3 : Nat) (l3 : List S33) (r0 : List S33) (r1 r2 : List Int) (r3 : List S33) (w : World)
    (hr0 : Kd.C k33 w A0 l0.length l0) (hc0 : l0.length ≤ c0) (hr1 : Kd.C (Kd.int .i64) w A1 l1.length l1) (hc1 : l1.length ≤ c1) (hr2 : Kd.C (Kd.int .i64) w A2 l2.length l2) (hc2 : l2.length ≤ c2) (hr3 : Kd.C k33 w A3 l3.length l3) (hc3 : l3.length ≤ c3)
    (h : impl_copyQueue.f k l0 l1 l2 l3 = some (r0, r1, r2, r3)) :
    Calls Try.prog 38 #[.agg #[.slice A0 l0.length c0, .slice A1 l1.length c1, .slice A2 l2.length c2, .slice A3 l3.length c3]] w fun e w' => ∃ u0 u1 u2 u3 : Value, e = .returned (.agg #[u0, u1, u2, u3]) ∧ QHas w' w.heap.size u0 u1 u2 u3 r0 r1 r2 r3 ∧ Below w.heap.size w w' := by
  unfold impl_copyQueue.f at h
  obtain ⟨y0, h0, h⟩ := Option.bind_eq_some_iff.1 h
  obtain ⟨⟨y1, y2⟩, h1, h⟩ := Option.bind_eq_some_iff.1 h
  obtain ⟨y3, h3, h⟩ := Option.bind_eq_some_iff.1 h
  injection h with h; injection h with e1 e2; injection e2 with e2 e3; injection e3 with e3 e4
  subst e1 e2 e3 e4
  have hu29 := Try.underlying29
  have hu27 := Try.underlying27
  have mixed : Try.prog.follows Departure.mixedOrders = true := by kernel_rfl
  have late : Try.prog.follows Departure.lateStores = true := by kernel_rfl
  have H0 := Aside0.mk h0
  have H1 := Aside0.mk h1
  have H3 := Aside0.mk h3
  clear h0 h1 h3
  go_enter Try.func38, Try.ntmps38
  go_wp2_with fail
  obtain ⟨gb, hgb⟩ : ∃ gb, gb = w.heap.size := ⟨_, rfl⟩
  obtain ⟨W, hW⟩ : ∃ W, W = (w.alloc (.cells #[.slice A0 l0.length c0, .slice A1 l1.length c1, .slice A2 l2.length c2, .slice A3 l3.length c3] 29)).alloc (.cells #[.slice none 0 0, .slice none 0 0, .slice none 0 0, .slice none 0 0] 29) := ⟨_, rfl⟩
  have hBW : Below w.heap.size w W.drew := by rw [hW]; exact below_drew ((below_alloc (Below.refl _ _) _).alloc (below_alloc (Below.refl _ _) _).size _)
  have hsz : gb + 2 ≤ W.drew.heap.size := by rw [hW, hgb]; show w.heap.size + 2 ≤ ((w.heap.push _).push _).size; rw [Array.size_push, Array.size_push]; exact Nat.le_refl _
  have hqa : W.drew.heap[gb]? = some (.cells #[.slice A0 l0.length c0, .slice A1 l1.length c1, .slice A2 l2.length c2, .slice A3 l3.length c3] 29 (0, 0)) := by rw [hW, hgb]; exact blk_alloc (heap_alloc_new w _) _
  have hqb : W.drew.heap[gb + 1]? = some (.cells #[.slice none 0 0, .slice none 0 0, .slice none 0 0, .slice none 0 0] 29 (0, 0)) := by
    rw [hW, hgb]
    have h_ := heap_alloc_new (w.alloc (.cells #[.slice A0 l0.length c0, .slice A1 l1.length c1, .slice A2 l2.length c2, .slice A3 l3.length c3] 29)) (.cells #[.slice none 0 0, .slice none 0 0, .slice none 0 0, .slice none 0 0] 29)
    have e_ : (w.alloc (.cells #[.slice A0 l0.length c0, .slice A1 l1.length c1, .slice A2 l2.length c2, .slice A3 l3.length c3] 29)).heap.size = w.heap.size + 1 := Array.size_push ..
    rw [e_] at h_
    exact h_
  rw [← hW, ← hgb]
  have HGB := Aside0.mk hgb
  clear hW hgb
  have ca0 : W.drew.cell? ⟨gb, 0, none⟩ = some (.slice A0 l0.length c0) := (blk_cell hqa 0).trans rfl
  have ca1 : W.drew.cell? ⟨gb, 1, none⟩ = some (.slice A1 l1.length c1) := (blk_cell hqa 1).trans rfl
  have ca2 : W.drew.cell? ⟨gb, 2, none⟩ = some (.slice A2 l2.length c2) := (blk_cell hqa 2).trans rfl
  have ca3 : W.drew.cell? ⟨gb, 3, none⟩ = some (.slice A3 l3.length c3) := (blk_cell hqa 3).trans rfl
  go_region_held3 (fun w' : World => w'.cell? ⟨gb, 0, none⟩ = some (.slice A0 l0.length c0) ∧ w'.cell? ⟨gb, 1, none⟩ = some (.slice A1 l1.length c1) ∧ w'.cell? ⟨gb, 2, none⟩ = some (.slice A2 l2.length c2) ∧ w'.cell? ⟨gb, 3, none⟩ = some (.slice A3 l3.length c3)) (first | with_reducible exact ⟨ca0, ca1, ca2, ca3⟩ | with_reducible exact ⟨cb0, cb1, cb2, cb3⟩ | with_reducible exact ⟨cd0, cd1, cd2, cd3⟩ | with_reducible exact ⟨ce0, ce1, ce2, ce3⟩ | exact ⟨(ks _ _ _ _ 0).trans ce0, (ks _ _ _ _ 1).trans ce1, (ks _ _ _ _ 2).trans ce2, (ks _ _ _ _ 3).trans ce3⟩) (first
    | (go_simp; go_at_call 73; with_reducible refine (impl_copyPackets.calls k A0 c0 l0 y0 W.drew (Kd.C_below hr0 hBW) hc0 H0.out).mono ?_; rintro e w1 ⟨u0, rfl, hu0, hb1⟩; have hB1 := below_then hBW hBW.size hb1; have hqa1 := (hb1.block _ (blk_lt hqa)).trans hqa; have hqb1 := (hb1.block _ (blk_lt hqb)).trans hqb; have cb0 : w1.cell? ⟨gb, 0, none⟩ = some (.slice A0 l0.length c0) := (blk_cell hqa1 0).trans rfl; have cb1 : w1.cell? ⟨gb, 1, none⟩ = some (.slice A1 l1.length c1) := (blk_cell hqa1 1).trans rfl; have cb2 : w1.cell? ⟨gb, 2, none⟩ = some (.slice A2 l2.length c2) := (blk_cell hqa1 2).trans rfl; have cb3 : w1.cell? ⟨gb, 3, none⟩ = some (.slice A3 l3.length c3) := (blk_cell hqa1 3).trans rfl; obtain ⟨D0, d0, rfl⟩ := Kd.S_slice hu0)
    | (go_simp; go_at_call 74; with_reducible refine (impl_copyCredits.calls A1 c1 l1 A2 c2 l2 y1 y2 w1 (Kd.C_below hr1 hB1) hc1 (Kd.C_below hr2 hB1) hc2 H1.out).mono ?_; rintro e w2 ⟨u1, u2, rfl, hu1, hu2, hb2⟩; have hB2 := below_then hB1 hB1.size hb2; have hqa2 := (hb2.block _ (blk_lt hqa1)).trans hqa1; have hqb2 := (hb2.block _ (blk_lt hqb1)).trans hqb1; have cd0 : w2.cell? ⟨gb, 0, none⟩ = some (.slice A0 l0.length c0) := (blk_cell hqa2 0).trans rfl; have cd1 : w2.cell? ⟨gb, 1, none⟩ = some (.slice A1 l1.length c1) := (blk_cell hqa2 1).trans rfl; have cd2 : w2.cell? ⟨gb, 2, none⟩ = some (.slice A2 l2.length c2) := (blk_cell hqa2 2).trans rfl; have cd3 : w2.cell? ⟨gb, 3, none⟩ = some (.slice A3 l3.length c3) := (blk_cell hqa2 3).trans rfl; obtain ⟨D1, d1, rfl⟩ := Kd.R_slice hu1; obtain ⟨D2, d2, rfl⟩ := Kd.R_slice hu2)
    | (go_simp; go_at_call 73; with_reducible refine (impl_copyPackets.calls k A3 c3 l3 y3 w2 (Kd.C_below hr3 hB2) hc3 H3.out).mono ?_; rintro e w3 ⟨u3, rfl, hu3, hb3⟩; have hB3 := below_then hB2 hB2.size hb3; have hqa3 := (hb3.block _ (blk_lt hqa2)).trans hqa2; have hqb3 := (hb3.block _ (blk_lt hqb2)).trans hqb2; have ce0 : w3.cell? ⟨gb, 0, none⟩ = some (.slice A0 l0.length c0) := (blk_cell hqa3 0).trans rfl; have ce1 : w3.cell? ⟨gb, 1, none⟩ = some (.slice A1 l1.length c1) := (blk_cell hqa3 1).trans rfl; have ce2 : w3.cell? ⟨gb, 2, none⟩ = some (.slice A2 l2.length c2) := (blk_cell hqa3 2).trans rfl; have ce3 : w3.cell? ⟨gb, 3, none⟩ = some (.slice A3 l3.length c3) := (blk_cell hqa3 3).trans rfl; have g0 : w3.cell? ⟨gb + 1, 0, none⟩ = some (.slice none 0 0) := (blk_cell hqb3 0).trans rfl; have g1 : w3.cell? ⟨gb + 1, 1, none⟩ = some (.slice none 0 0) := (blk_cell hqb3 1).trans rfl; have g2 : w3.cell? ⟨gb + 1, 2, none⟩ = some (.slice none 0 0) := (blk_cell hqb3 2).trans rfl; have g3 : w3.cell? ⟨gb + 1, 3, none⟩ = some (.slice none 0 0) := (blk_cell hqb3 3).trans rfl; have f0 := blk_frozen hqb3 0; have f1 := blk_frozen hqb3 1; have f2 := blk_frozen hqb3 2; have f3 := blk_frozen hqb3 3; obtain ⟨D3, d3, rfl⟩ := Kd.S_slice hu3; have ks : ∀ (v0 v1 v2 v3 : Value) (j : Nat), ((((w3.setCell ⟨gb + 1, 0, none⟩ v0).setCell ⟨gb + 1, 1, none⟩ v1).setCell ⟨gb + 1, 2, none⟩ v2).setCell ⟨gb + 1, 3, none⟩ v3).cell? ⟨gb, j, none⟩ = w3.cell? ⟨gb, j, none⟩ := fun v0 v1 v2 v3 j => World.cell?_of_block (((Below.heap_setCell _ ⟨gb + 1, 3, none⟩ v3 gb (by show gb ≠ gb + 1; omega)).trans (Below.heap_setCell _ ⟨gb + 1, 2, none⟩ v2 gb (by show gb ≠ gb + 1; omega))).trans ((Below.heap_setCell _ ⟨gb + 1, 1, none⟩ v1 gb (by show gb ≠ gb + 1; omega)).trans (Below.heap_setCell _ ⟨gb + 1, 0, none⟩ v0 gb (by show gb ≠ gb + 1; omega))))))
  obtain ⟨w4, hw4⟩ : ∃ w4, w4 = ((((w3.setCell ⟨gb + 1, 0, none⟩ (.slice D0 y0.length d0)).setCell ⟨gb + 1, 1, none⟩ (.slice D1 y1.length d1)).setCell ⟨gb + 1, 2, none⟩ (.slice D2 y2.length d2)).setCell ⟨gb + 1, 3, none⟩ (.slice D3 y3.length d3)) := ⟨_, rfl⟩
  have hqb4 : w4.heap[gb + 1]? = some (.cells #[.slice D0 y0.length d0, .slice D1 y1.length d1, .slice D2 y2.length d2, .slice D3 y3.length d3] 29 (0, 0)) := by
    rw [hw4]; exact blk_put (blk_put (blk_put (blk_put hqb3 0 _ rfl) 1 _ rfl) 2 _ rfl) 3 _ rfl
  have far4 : ∀ k, k ≠ gb + 1 → w4.heap[k]? = w3.heap[k]? := fun k hk => by
    rw [hw4]
    exact ((Below.heap_setCell _ ⟨gb + 1, 3, none⟩ _ k hk).trans (Below.heap_setCell _ ⟨gb + 1, 2, none⟩ _ k hk)).trans ((Below.heap_setCell _ ⟨gb + 1, 1, none⟩ _ k hk).trans (Below.heap_setCell _ ⟨gb + 1, 0, none⟩ _ k hk))
  have hge : w.heap.size ≤ gb + 1 := by have := HGB.out; omega
  have hB4 : Below w.heap.size w w4 := by rw [hw4]; exact below_set (below_set (below_set (below_set hB3 hge) hge) hge) hge
  have s0 : W.drew.heap.size ≤ w1.heap.size := hb1.size
  have s1 : w1.heap.size ≤ w2.heap.size := hb2.size
  have s2 : w2.heap.size ≤ w3.heap.size := hb3.size
  have hbase : w.heap.size ≤ W.drew.heap.size := hBW.size
  have z0 := Kd.S_step (Kd.S_mono (ok' := fun k => W.drew.heap.size ≤ k ∧ k < w1.heap.size) (Kd.S_bound hu0) (fun k hk => ⟨hk.2.1, hk.2.2.1⟩)) (w1 := w4) (fun k hk hl => (far4 k (by omega)).trans ((hb3.block k (by omega)).trans (hb2.block k hl)))
  have z1 := Kd.R_step (Kd.R_tight rfl hu1) (w1 := w4) (fun k hk hl => (far4 k (by have := Kd.R_base hu1 k hk.symm; omega)).trans (hb3.block k hl))
  have z2 := Kd.R_step (Kd.R_tight rfl hu2) (w1 := w4) (fun k hk hl => (far4 k (by have := Kd.R_base hu2 k hk.symm; omega)).trans (hb3.block k hl))
  have z3 := Kd.S_step (Kd.S_mono (ok' := fun k => w2.heap.size ≤ k) (Kd.S_bound hu3) (fun k hk => hk.2.1)) (w1 := w4) (fun k hk hl => far4 k (by omega))
  have t1 := Kd.R_base hu1
  have t2 := Kd.R_base hu2
  have t3 := Kd.R_lt hu1
  have t4 := Kd.R_lt hu2
  have n12 := hu1.1
  have v0 : w4.cell? ⟨gb + 1, 0, none⟩ = some (.slice D0 y0.length d0) := (blk_cell hqb4 0).trans rfl
  have v1 : w4.cell? ⟨gb + 1, 1, none⟩ = some (.slice D1 y1.length d1) := (blk_cell hqb4 1).trans rfl
  have v2 : w4.cell? ⟨gb + 1, 2, none⟩ = some (.slice D2 y2.length d2) := (blk_cell hqb4 2).trans rfl
  have v3 : w4.cell? ⟨gb + 1, 3, none⟩ = some (.slice D3 y3.length d3) := (blk_cell hqb4 3).trans rfl
  rw [← hw4]
  clear hw4 ks ca0 ca1 ca2 ca3 cb0 cb1 cb2 cb3 cd0 cd1 cd2 cd3 ce0 ce1 ce2 ce3 g0 g1 g2 g3 f0 f1 f2 f3 hu0 hu3
  go_wp2
  refine bodyPost_ret (results_cell_row rfl _ _ (gb + 1) 29 #[.slice D0 y0.length d0, .slice D1 y1.length d1, .slice D2 y2.length d2, .slice D3 y3.length d3] (0, 0) _ rfl hqb4 hu29 rfl (by kernel_rfl)) rfl ?_
  refine ⟨_, _, _, _, rfl, ⟨fun k => W.drew.heap.size ≤ k ∧ k < w1.heap.size, fun k => some k = (Value.slice D1 y1.length d1).ownBlock, fun k => some k = (Value.slice D2 y2.length d2).ownBlock, fun k => w2.heap.size ≤ k,
    Kd.S_lower z0 hbase, Kd.R_lower z1 (by omega), Kd.R_lower z2 (by omega), Kd.S_lower z3 (by omega), fun k hk => ⟨fun h => ?_, fun h => ?_, fun h => ?_⟩, fun k hk => ⟨fun h => n12 k hk.symm h, fun h => ?_⟩, fun k hk h => ?_⟩, hB4⟩
  · have := t1 k h.symm; omega
  · have := t2 k h.symm; omega
  · omega
  · have := t3 k hk.symm; omega
  · have := t4 k hk.symm; omega
/-- A queue of one's own, all of whose blocks lie from lo on and below hi; no two of its rows have a block in common. -/
def QB (w : World) (b lo hi : Nat) (v0 v1 v2 v3 : Value) (l0 : List S33) (l1 l2 : List Int) (l3 : List S33) : Prop :=
  ∃ P0 P1 P2 P3 : Nat → Prop, Kd.S k33 33 w b P0 v0 l0 ∧ Kd.R (Kd.int .i64) 3 w b P1 v1 l1 ∧ Kd.R (Kd.int .i64) 3 w b P2 v2 l2 ∧ Kd.S k33 33 w b P3 v3 l3 ∧
    (∀ k, P0 k → ¬ P1 k ∧ ¬ P2 k ∧ ¬ P3 k) ∧ (∀ k, P1 k → ¬ P2 k ∧ ¬ P3 k) ∧ (∀ k, P2 k → ¬ P3 k) ∧ (∀ k, P0 k ∨ P1 k ∨ P2 k ∨ P3 k → lo ≤ k ∧ k < hi)
theorem QHas.toB {w : World} {b b' : Nat} {v0 v1 v2 v3 : Value} {l0 : List S33} {l1 l2 : List Int} {l3 : List S33} (h : QHas w b v0 v1 v2 v3 l0 l1 l2 l3) (hb : b' ≤ b) : QB w b' b w.heap.size v0 v1 v2 v3 l0 l1 l2 l3 := by
  obtain ⟨P0, P1, P2, P3, a0, a1, a2, a3, d0, d1, d2⟩ := h
  refine ⟨fun k => P0 k ∧ b ≤ k ∧ k < w.heap.size, fun k => P1 k ∧ b ≤ k ∧ k < w.heap.size, fun k => P2 k ∧ b ≤ k ∧ k < w.heap.size, fun k => P3 k ∧ b ≤ k ∧ k < w.heap.size, Kd.S_lower (Kd.S_mono (Kd.S_bound a0) (fun k hk => ⟨hk.1, hk.2.1, hk.2.2.1⟩)) hb, Kd.R_lower (Kd.R_mono (Kd.R_bound a1) (fun k hk => ⟨hk.1, hk.2.1, hk.2.2.1⟩)) hb, Kd.R_lower (Kd.R_mono (Kd.R_bound a2) (fun k hk => ⟨hk.1, hk.2.1, hk.2.2.1⟩)) hb, Kd.S_lower (Kd.S_mono (Kd.S_bound a3) (fun k hk => ⟨hk.1, hk.2.1, hk.2.2.1⟩)) hb,
    fun k hk => ⟨fun h => (d0 k hk.1).1 h.1, fun h => (d0 k hk.1).2.1 h.1, fun h => (d0 k hk.1).2.2 h.1⟩, fun k hk => ⟨fun h => (d1 k hk.1).1 h.1, fun h => (d1 k hk.1).2 h.1⟩, fun k hk h => d2 k hk.1 h.1, fun k hk => ?_⟩
  rcases hk with hk | hk | hk | hk <;> exact hk.2
theorem QB.keep {w w1 : World} {b lo hi : Nat} {v0 v1 v2 v3 : Value} {l0 : List S33} {l1 l2 : List Int} {l3 : List S33} (h : QB w b lo hi v0 v1 v2 v3 l0 l1 l2 l3) (hm : ∀ k, lo ≤ k → k < hi → k < w.heap.size → w1.heap[k]? = w.heap[k]?) : QB w1 b lo hi v0 v1 v2 v3 l0 l1 l2 l3 := by
  obtain ⟨P0, P1, P2, P3, a0, a1, a2, a3, d0, d1, d2, d3⟩ := h
  exact ⟨P0, P1, P2, P3, Kd.S_step a0 (fun k hk hl => hm k (d3 k (.inl hk)).1 (d3 k (.inl hk)).2 hl), Kd.R_step a1 (fun k hk hl => hm k (d3 k (.inr (.inl hk))).1 (d3 k (.inr (.inl hk))).2 hl), Kd.R_step a2 (fun k hk hl => hm k (d3 k (.inr (.inr (.inl hk)))).1 (d3 k (.inr (.inr (.inl hk)))).2 hl), Kd.S_step a3 (fun k hk hl => hm k (d3 k (.inr (.inr (.inr hk)))).1 (d3 k (.inr (.inr (.inr hk)))).2 hl), d0, d1, d2, d3⟩
theorem QB.below {w w1 : World} {b lo hi : Nat} {v0 v1 v2 v3 : Value} {l0 : List S33} {l1 l2 : List Int} {l3 : List S33} (h : QB w b lo hi v0 v1 v2 v3 l0 l1 l2 l3) (hb : Below w.heap.size w w1) : QB w1 b lo hi v0 v1 v2 v3 l0 l1 l2 l3 := h.keep (fun k _ _ hl => hb.block k hl)
theorem QB.kept {w w1 : World} {b lo hi lo' hi' : Nat} {v0 v1 v2 v3 : Value} {l0 : List S33} {l1 l2 : List Int} {l3 : List S33} (h : QB w b lo hi v0 v1 v2 v3 l0 l1 l2 l3) (hk : Kept w w1 (fun k => lo' ≤ k ∧ k < hi')) (ha : hi ≤ lo' ∨ hi' ≤ lo) : QB w1 b lo hi v0 v1 v2 v3 l0 l1 l2 l3 := h.keep (fun k h1 h2 hl => hk.2 k hl (by omega))
theorem QB.form {w : World} {b lo hi : Nat} {v0 v1 v2 v3 : Value} {l0 : List S33} {l1 l2 : List Int} {l3 : List S33} (h : QB w b lo hi v0 v1 v2 v3 l0 l1 l2 l3) : ∃ A0 c0 A1 c1 A2 c2 A3 c3, v0 = .slice A0 l0.length c0 ∧ v1 = .slice A1 l1.length c1 ∧ v2 = .slice A2 l2.length c2 ∧ v3 = .slice A3 l3.length c3 := by
  obtain ⟨P0, P1, P2, P3, a0, a1, a2, a3, d⟩ := h
  obtain ⟨A0, c0, rfl⟩ := Kd.S_slice a0
  obtain ⟨A1, c1, rfl⟩ := Kd.R_slice a1
  obtain ⟨A2, c2, rfl⟩ := Kd.R_slice a2
  obtain ⟨A3, c3, rfl⟩ := Kd.S_slice a3
  exact ⟨_, _, _, _, _, _, _, _, rfl, rfl, rfl, rfl⟩
/-- What is to be read of a queue. -/
def QC (w : World) (A0 A1 A2 A3 : Option Addr) (c0 c1 c2 c3 : Nat) (l0 : List S33) (l1 l2 : List Int) (l3 : List S33) : Prop :=
  (Kd.C k33 w A0 l0.length l0 ∧ l0.length ≤ c0) ∧ (Kd.C (Kd.int .i64) w A1 l1.length l1 ∧ l1.length ≤ c1) ∧ (Kd.C (Kd.int .i64) w A2 l2.length l2 ∧ l2.length ≤ c2) ∧ (Kd.C k33 w A3 l3.length l3 ∧ l3.length ≤ c3)
theorem QB.reads {w : World} {b lo hi : Nat} {A0 A1 A2 A3 : Option Addr} {c0 c1 c2 c3 n0 n1 n2 n3 : Nat} {l0 : List S33} {l1 l2 : List Int} {l3 : List S33} (h : QB w b lo hi (.slice A0 n0 c0) (.slice A1 n1 c1) (.slice A2 n2 c2) (.slice A3 n3 c3) l0 l1 l2 l3) : QC w A0 A1 A2 A3 c0 c1 c2 c3 l0 l1 l2 l3 := by
  obtain ⟨P0, P1, P2, P3, a0, a1, a2, a3, d⟩ := h
  obtain ⟨e0, f0, g0⟩ := Kd.S_reads' a0
  obtain ⟨e1, f1, g1⟩ := Kd.R_reads' a1
  obtain ⟨e2, f2, g2⟩ := Kd.R_reads' a2
  obtain ⟨e3, f3, g3⟩ := Kd.S_reads' a3
  exact ⟨⟨g0, by omega⟩, ⟨g1, by omega⟩, ⟨g2, by omega⟩, ⟨g3, by omega⟩⟩
theorem QC.below {w w1 : World} {A0 A1 A2 A3 : Option Addr} {c0 c1 c2 c3 : Nat} {l0 : List S33} {l1 l2 : List Int} {l3 : List S33} (h : QC w A0 A1 A2 A3 c0 c1 c2 c3 l0 l1 l2 l3) (hb : Below w.heap.size w w1) : QC w1 A0 A1 A2 A3 c0 c1 c2 c3 l0 l1 l2 l3 :=
  ⟨⟨Kd.C_below h.1.1 hb, h.1.2⟩, ⟨Kd.C_below h.2.1.1 hb, h.2.1.2⟩, ⟨Kd.C_below h.2.2.1.1 hb, h.2.2.1.2⟩, ⟨Kd.C_below h.2.2.2.1 hb, h.2.2.2.2⟩⟩
/-- A queue of one's own whose rows may have blocks in common (the reference's answer). -/
def QT (w : World) (b lo hi : Nat) (v0 v1 v2 v3 : Value) (l0 : List S33) (l1 l2 : List Int) (l3 : List S33) : Prop :=
  Kd.S k33 33 w b (fun k => lo ≤ k ∧ k < hi) v0 l0 ∧ Kd.R (Kd.int .i64) 3 w b (fun k => lo ≤ k ∧ k < hi) v1 l1 ∧ Kd.R (Kd.int .i64) 3 w b (fun k => lo ≤ k ∧ k < hi) v2 l2 ∧ Kd.S k33 33 w b (fun k => lo ≤ k ∧ k < hi) v3 l3
theorem QT.of {w : World} {b b' : Nat} {p0 p1 p2 p3 : Nat → Prop} {v0 v1 v2 v3 : Value} {l0 : List S33} {l1 l2 : List Int} {l3 : List S33} (a0 : Kd.S k33 33 w b p0 v0 l0) (a1 : Kd.R (Kd.int .i64) 3 w b p1 v1 l1) (a2 : Kd.R (Kd.int .i64) 3 w b p2 v2 l2) (a3 : Kd.S k33 33 w b p3 v3 l3) (hb : b' ≤ b) : QT w b' b w.heap.size v0 v1 v2 v3 l0 l1 l2 l3 :=
  ⟨Kd.S_lower (Kd.S_mono (Kd.S_bound a0) (fun k hk => ⟨hk.2.1, hk.2.2.1⟩)) hb, Kd.R_lower (Kd.R_mono (Kd.R_bound a1) (fun k hk => ⟨hk.2.1, hk.2.2.1⟩)) hb, Kd.R_lower (Kd.R_mono (Kd.R_bound a2) (fun k hk => ⟨hk.2.1, hk.2.2.1⟩)) hb, Kd.S_lower (Kd.S_mono (Kd.S_bound a3) (fun k hk => ⟨hk.2.1, hk.2.2.1⟩)) hb⟩
theorem QT.keep {w w1 : World} {b lo hi : Nat} {v0 v1 v2 v3 : Value} {l0 : List S33} {l1 l2 : List Int} {l3 : List S33} (h : QT w b lo hi v0 v1 v2 v3 l0 l1 l2 l3) (hm : ∀ k, lo ≤ k → k < hi → k < w.heap.size → w1.heap[k]? = w.heap[k]?) : QT w1 b lo hi v0 v1 v2 v3 l0 l1 l2 l3 :=
  ⟨Kd.S_step h.1 (fun k hk hl => hm k hk.1 hk.2 hl), Kd.R_step h.2.1 (fun k hk hl => hm k hk.1 hk.2 hl), Kd.R_step h.2.2.1 (fun k hk hl => hm k hk.1 hk.2 hl), Kd.S_step h.2.2.2 (fun k hk hl => hm k hk.1 hk.2 hl)⟩
theorem QT.below {w w1 : World} {b lo hi : Nat} {v0 v1 v2 v3 : Value} {l0 : List S33} {l1 l2 : List Int} {l3 : List S33} (h : QT w b lo hi v0 v1 v2 v3 l0 l1 l2 l3) (hb : Below w.heap.size w w1) : QT w1 b lo hi v0 v1 v2 v3 l0 l1 l2 l3 := h.keep (fun k _ _ hl => hb.block k hl)
theorem QT.kept {w w1 : World} {b lo hi lo' hi' : Nat} {v0 v1 v2 v3 : Value} {l0 : List S33} {l1 l2 : List Int} {l3 : List S33} (h : QT w b lo hi v0 v1 v2 v3 l0 l1 l2 l3) (hk : Kept w w1 (fun k => lo' ≤ k ∧ k < hi')) (ha : hi ≤ lo' ∨ hi' ≤ lo) : QT w1 b lo hi v0 v1 v2 v3 l0 l1 l2 l3 := h.keep (fun k h1 h2 hl => hk.2 k hl (by omega))
theorem QT.form {w : World} {b lo hi : Nat} {v0 v1 v2 v3 : Value} {l0 : List S33} {l1 l2 : List Int} {l3 : List S33} (h : QT w b lo hi v0 v1 v2 v3 l0 l1 l2 l3) : ∃ A0 c0 A1 c1 A2 c2 A3 c3, v0 = .slice A0 l0.length c0 ∧ v1 = .slice A1 l1.length c1 ∧ v2 = .slice A2 l2.length c2 ∧ v3 = .slice A3 l3.length c3 := by
  obtain ⟨a0, a1, a2, a3⟩ := h
  obtain ⟨A0, c0, rfl⟩ := Kd.S_slice a0
  obtain ⟨A1, c1, rfl⟩ := Kd.R_slice a1
  obtain ⟨A2, c2, rfl⟩ := Kd.R_slice a2
  obtain ⟨A3, c3, rfl⟩ := Kd.S_slice a3
  exact ⟨_, _, _, _, _, _, _, _, rfl, rfl, rfl, rfl⟩
theorem QT.reads {w : World} {b lo hi : Nat} {A0 A1 A2 A3 : Option Addr} {c0 c1 c2 c3 n0 n1 n2 n3 : Nat} {l0 : List S33} {l1 l2 : List Int} {l3 : List S33} (h : QT w b lo hi (.slice A0 n0 c0) (.slice A1 n1 c1) (.slice A2 n2 c2) (.slice A3 n3 c3) l0 l1 l2 l3) : QC w A0 A1 A2 A3 c0 c1 c2 c3 l0 l1 l2 l3 := by
  obtain ⟨a0, a1, a2, a3⟩ := h
  obtain ⟨e0, f0, g0⟩ := Kd.S_reads' a0
  obtain ⟨e1, f1, g1⟩ := Kd.R_reads' a1
  obtain ⟨e2, f2, g2⟩ := Kd.R_reads' a2
  obtain ⟨e3, f3, g3⟩ := Kd.S_reads' a3
  exact ⟨⟨g0, by omega⟩, ⟨g1, by omega⟩, ⟨g2, by omega⟩, ⟨g3, by omega⟩⟩
def laws_markQueue.f (k : Nat) (l0 : List S33) (l1 l2 : List Int) (l3 : List S33) (a1 : Int) : Option (Int × List S33 × List Int × List Int × List S33) :=
  (laws_markPacketS.f k l0 a1).bind fun b0 => (laws_markCredits.f k l1 l2 b0.1).bind fun b1 => (laws_markPacketS.f k l3 b1.1).bind fun b2 => some (b2.1, b0.2, b1.2.1, b1.2.2, b2.2)
set_option maxHeartbeats 4000000 in
set_option maxRecDepth 1000000 in
theorem laws_markQueue.callsB (k : Nat) (v0 v1 v2 v3 : Value) (l0 : List S33) (l1 l2 : List Int) (l3 : List S33) (a1 r0 : Int) (z0 : List S33) (z1 z2 : List Int) (z3 : List S33) (lo hi : Nat) (w0 w : World) (hB : Below w0.heap.size w0 w) (hQ : QB w w0.heap.size lo hi v0 v1 v2 v3 l0 l1 l2 l3) (hhi : hi ≤ w.heap.size) (h : laws_markQueue.f k l0 l1 l2 l3 a1 = some (r0, z0, z1, z2, z3)) :
    Calls Try.prog 27 #[.agg #[v0, v1, v2, v3], .int .i64 a1] w fun e w' => e = .returned (.int .i64 r0) ∧ QB w' w0.heap.size lo hi v0 v1 v2 v3 z0 z1 z2 z3 ∧ Below w0.heap.size w0 w' ∧ Kept w w' (fun k => lo ≤ k ∧ k < hi) := by
  unfold laws_markQueue.f at h
  obtain ⟨⟨y0, x0⟩, h0, h⟩ := Option.bind_eq_some_iff.1 h
  obtain ⟨⟨y1, x1, x2⟩, h1, h⟩ := Option.bind_eq_some_iff.1 h
  obtain ⟨⟨y3, x3⟩, h3, h⟩ := Option.bind_eq_some_iff.1 h
  injection h with h; injection h with e0 h; injection h with e1 h; injection h with e2 h; injection h with e3 e4
  subst e0 e1 e2 e3 e4
  obtain ⟨A0, c0, A1, c1, A2, c2, A3, c3, rfl, rfl, rfl, rfl⟩ := hQ.form
  obtain ⟨P0, P1, P2, P3, a0, a1', a2, a3, d0, d1, d2, d3⟩ := hQ
  have hu29 := Try.underlying29
  have hu27 := Try.underlying27
  have mixed : Try.prog.follows Departure.mixedOrders = true := by kernel_rfl
  have H0 := Aside0.mk h0
  have H1 := Aside0.mk h1
  have H3 := Aside0.mk h3
  have HB := Aside0.mk hB
  have G0 := Aside0.mk a0
  have G1 := Aside0.mk a1'
  have G2 := Aside0.mk a2
  have G3 := Aside0.mk a3
  have D := Aside0.mk (And.intro d0 (And.intro d1 (And.intro d2 d3)))
  have HI := Aside0.mk hhi
  clear h0 h1 h3 hB a0 a1' a2 a3 d0 d1 d2 d3 hhi
  go_enter Try.func27, Try.ntmps27
  go_wp2_with (first
    | ((with_reducible refine gate_dst (N := 2) rfl ?_); refine box_event ?hg (N := 2) ?hd (cs := #[.slice A0 l0.length c0, .slice A1 l1.length c1, .slice A2 l2.length c2, .slice A3 l3.length c3]) (t := 29) ?hr ?_; (case hd => rfl); (case hg => rfl); (case hr => exact hr_); intro gb hg wa hbox hb; have BK := Aside0.mk hbox; have HBa := Aside0.mk (below_then HB.out HB.out.size hb); have Hab := Aside0.mk hb; have EG := Aside0.mk hg; clear hbox hb hg; obtain ⟨hc0, hc1, hc2, hc3, hf0, hf1, hf2, hf3⟩ := bx4 BK.out)
    | (go_at_call 61; (with_reducible refine (laws_markPacketS.calls k P0 (.slice A0 l0.length c0) l0 a1 y0 x0 w0 wa HBa.out (Kd.S_below G0.out Hab.out) H0.out).mono ?_); rintro e wb ⟨rfl, hS, hBb, hKb⟩; have gn : ∀ k, lo ≤ k → k < hi → k ≠ gb := fun k h1 h2 => (by have := HI.out; have := EG.out; omega); have GN := Aside0.mk gn; have SS := Aside0.mk hS; have HBb := Aside0.mk hBb; have Kb := Aside0.mk hKb; have BKb := Aside0.mk ((hKb.2 gb (blk_lt BK.out) (fun hp => gn gb (D.out.2.2.2 gb (.inl hp)).1 (D.out.2.2.2 gb (.inl hp)).2 rfl)).trans BK.out); clear hS hBb hKb gn hc0 hc1 hc2 hc3 hf0 hf1 hf2 hf3; obtain ⟨hc0, hc1, hc2, hc3, hf0, hf1, hf2, hf3⟩ := bx4 BKb.out)
    | (go_at_call 62; have hr1 := (Kd.R_step (Kd.R_below G1.out Hab.out) (fun k hk hl => Kb.out.2 k hl (fun hp => (D.out.1 k hp).1 hk))); have hp1 : ∀ k, P1 k → ¬ P2 k := (fun k hk => (D.out.2.1 k hk).1); have hr2 := (Kd.R_step (Kd.R_below G2.out Hab.out) (fun k hk hl => Kb.out.2 k hl (fun hp => (D.out.1 k hp).2.1 hk))); have hp2 : ∀ k, P2 k → ¬ P1 k := (fun k h2 h1 => (D.out.2.1 k h1).1 h2); (with_reducible refine (laws_markCredits.calls k P1 (.slice A1 l1.length c1) l1 P2 (.slice A2 l2.length c2) l2 y0 y1 x1 x2 w0 wb HBb.out  hr1 hp1 hr2 hp2  H1.out).mono ?_); rintro e wc ⟨rfl, hR1, hR2, hBc, hKc⟩; have RR1 := Aside0.mk hR1; have RR2 := Aside0.mk hR2; have HBc := Aside0.mk hBc; have Kc := Aside0.mk hKc; have BKc := Aside0.mk ((hKc.2 gb (blk_lt BKb.out) (fun hp => hp.elim (fun hp => GN.out gb (D.out.2.2.2 gb (.inr (.inl hp))).1 (D.out.2.2.2 gb (.inr (.inl hp))).2 rfl) (fun hp => GN.out gb (D.out.2.2.2 gb (.inr (.inr (.inl hp)))).1 (D.out.2.2.2 gb (.inr (.inr (.inl hp)))).2 rfl))).trans BKb.out); clear hR1 hR2 hBc hKc hc0 hc1 hc2 hc3 hf0 hf1 hf2 hf3; obtain ⟨hc0, hc1, hc2, hc3, hf0, hf1, hf2, hf3⟩ := bx4 BKc.out)
    | (go_at_call 61; have hs3 := (Kd.S_step (Kd.S_step (Kd.S_below G3.out Hab.out) (fun k hk hl => Kb.out.2 k hl (fun hp => (D.out.1 k hp).2.2 hk))) (fun k hk hl => Kc.out.2 k hl (fun hp => hp.elim (fun hp => (D.out.2.1 k hp).2 hk) (fun hp => D.out.2.2.1 k hp hk)))); (with_reducible refine (laws_markPacketS.calls k P3 (.slice A3 l3.length c3) l3 y1 y3 x3 w0 wc HBc.out hs3 H3.out).mono ?_); rintro e wd ⟨rfl, hS3, hBd, hKd⟩))
  go_ret
  have s1 := Hab.out.size
  have s2 := Kb.out.1
  have s3 := Kc.out.1
  obtain ⟨d0, d1, d2, d3⟩ := D.out
  refine ⟨rfl, ⟨P0, P1, P2, P3, Kd.S_step (Kd.S_step SS.out (fun k hk hl => Kc.out.2 k hl (fun hp => hp.elim (fun hp => (d0 k hk).1 hp) (fun hp => (d0 k hk).2.1 hp)))) (fun k hk hl => hKd.2 k hl (fun hp => (d0 k hk).2.2 hp)), Kd.R_mono (Kd.R_step (Kd.R_tight rfl RR1.out) (fun k hk hl => hKd.2 k hl (fun hp => (d1 k (G1.out.1 k hk.symm)).2 hp))) (fun k hk => G1.out.1 k hk.symm), Kd.R_mono (Kd.R_step (Kd.R_tight rfl RR2.out) (fun k hk hl => hKd.2 k hl (fun hp => d2 k (G2.out.1 k hk.symm) hp))) (fun k hk => G2.out.1 k hk.symm), hS3, d0, d1, d2, d3⟩, hBd, ⟨by have := hKd.1; omega, fun i hi' hn => ?_⟩⟩
  have n0 : ¬ P0 i := fun hp => hn (d3 i (.inl hp))
  have n1 : ¬ P1 i := fun hp => hn (d3 i (.inr (.inl hp)))
  have n2 : ¬ P2 i := fun hp => hn (d3 i (.inr (.inr (.inl hp))))
  have n3 : ¬ P3 i := fun hp => hn (d3 i (.inr (.inr (.inr hp))))
  exact (hKd.2 i (by omega) n3).trans ((Kc.out.2 i (by omega) (fun hp => hp.elim n1 n2)).trans ((Kb.out.2 i (by omega) n0).trans (Hab.out.block i hi')))
set_option maxHeartbeats 4000000 in
set_option maxRecDepth 1000000 in
theorem laws_toQueue.callsQ (k : Nat) (A0 : Option Addr) (c0 : Nat) (l0 : List S46) (A1 : Option Addr) (c1 : Nat) (l1 : List Int) (A2 : Option Addr) (c2 : Nat) (l2 : List Int) (A3 : Option Addr) (c3 : Nat) (l3 : List S46) (r0 : List S33) (r1 r2 : List Int) (r3 : List S33) (w : World)
    (hr0 : Kd.C k46 w A0 l0.length l0) (hc0' : l0.length ≤ c0) (hr1 : Kd.C (Kd.int .i64) w A1 l1.length l1) (hc1' : l1.length ≤ c1) (hr2 : Kd.C (Kd.int .i64) w A2 l2.length l2) (hc2' : l2.length ≤ c2) (hr3 : Kd.C k46 w A3 l3.length l3) (hc3' : l3.length ≤ c3)
    (h : laws_toQueue.f k l0 l1 l2 l3 = some (r0, r1, r2, r3)) :
    Calls Try.prog 17 #[.agg #[.slice A0 l0.length c0, .slice A1 l1.length c1, .slice A2 l2.length c2, .slice A3 l3.length c3]] w fun e w' => ∃ u0 u1 u2 u3 : Value, e = .returned (.agg #[u0, u1, u2, u3]) ∧ QHas w' w.heap.size u0 u1 u2 u3 r0 r1 r2 r3 ∧ Below w.heap.size w w' := by
  unfold laws_toQueue.f at h
  obtain ⟨y0, h0, h⟩ := Option.bind_eq_some_iff.1 h
  obtain ⟨⟨y1, y2⟩, h1, h⟩ := Option.bind_eq_some_iff.1 h
  obtain ⟨y3, h3, h⟩ := Option.bind_eq_some_iff.1 h
  injection h with h; injection h with e1 e2; injection e2 with e2 e3; injection e3 with e3 e4
  subst e1 e2 e3 e4
  have hu40 := Try.underlying40
  have hu29 := Try.underlying29
  have hu38 := Try.underlying38
  have hu27 := Try.underlying27
  have mixed : Try.prog.follows Departure.mixedOrders = true := by kernel_rfl
  have H0 := Aside0.mk h0
  have H1 := Aside0.mk h1
  have H3 := Aside0.mk h3
  clear h0 h1 h3
  go_enter Try.func17, Try.ntmps17
  go_wp2_with (first
    | ((with_reducible refine gate_dst (N := 1) rfl ?_); refine box_event ?hg (N := 1) ?hd (cs := #[.slice A0 l0.length c0, .slice A1 l1.length c1, .slice A2 l2.length c2, .slice A3 l3.length c3]) (t := 40) ?hr ?_; (case hd => rfl); (case hg => rfl); (case hr => exact hr_); intro gb1 hg wa hbox hb; have K1 := Aside0.mk hbox; have Ha := Aside0.mk hb; have E1 := Aside0.mk hg; clear hbox hb hg)
    | ((with_reducible refine gate_dst (N := 2) rfl ?_); refine box_event ?hg (N := 2) ?hd (cs := #[.slice none 0 0, .slice none 0 0, .slice none 0 0, .slice none 0 0]) (t := 29) ?hr ?_; (case hd => rfl); (case hg => rfl); (case hr => exact hr_); intro gb2 hg wb hbox hb; have K2 := Aside0.mk hbox; have Hb := Aside0.mk (below_then Ha.out Ha.out.size hb); have K1b := Aside0.mk (blk_below K1.out hb); have E2 := Aside0.mk hg; clear hbox hb hg K1)
    | ((with_reducible refine gate_dst (N := 3) rfl ?_); refine box_event ?hg (N := 3) ?hd (cs := #[.slice none 0 0, .slice none 0 0, .slice none 0 0, .slice none 0 0]) (t := 29) ?hr ?_; (case hd => rfl); (case hg => rfl); (case hr => exact hr_); intro gb3 hg wc hbox hb; have K3 := Aside0.mk hbox; have Hc := Aside0.mk (below_then Hb.out Hb.out.size hb); have K1c := Aside0.mk (blk_below K1b.out hb); have K2c := Aside0.mk (blk_below K2.out hb); have E3 := Aside0.mk hg; have n13 : gb1 ≠ gb3 := (by have := blk_lt K1b.out; have := E3.out; omega); have n31 : gb3 ≠ gb1 := n13.symm; have n23 : gb2 ≠ gb3 := (by have := blk_lt K2.out; have := E3.out; omega); have n32 : gb3 ≠ gb2 := n23.symm; have LT2 := Aside0.mk (blk_lt K2c.out); have LT3 := Aside0.mk (blk_lt hbox); have m1 := Aside0.mk (by have := E1.out; omega : w.heap.size ≤ gb1); have m2 := Aside0.mk (by have := E2.out; have := Ha.out.size; omega : w.heap.size ≤ gb2); have m3 := Aside0.mk (by have := E3.out; have := Hb.out.size; omega : w.heap.size ≤ gb3); clear hbox hb hg K1b K2; obtain ⟨hc0, hc1, hc2, hc3, hf0, hf1, hf2, hf3⟩ := bx4 K1c.out)
    | (go_at_call 46; (with_reducible refine (laws_toPacketS.calls k A0 c0 l0 y0 wc (Kd.C_below hr0 Hc.out) hc0' H0.out).mono ?_); rintro e wd ⟨u0, rfl, hu0, hb⟩; have U0 := Aside0.mk hu0; have Bd := Aside0.mk hb; have Hd := Aside0.mk (below_then Hc.out Hc.out.size hb); have K1d := Aside0.mk (blk_below K1c.out hb); have K2d := Aside0.mk (blk_below K2c.out hb); have K3d := Aside0.mk (blk_below K3.out hb); clear hu0 hb K1c K2c hc0 hc1 hc2 hc3 hf0 hf1 hf2 hf3; obtain ⟨D0, d0, rfl⟩ := Kd.S_slice U0.out; obtain ⟨hc0, hc1, hc2, hc3, hf0, hf1, hf2, hf3⟩ := bx4 K1d.out; obtain ⟨gc0, gc1, gc2, gc3, gf0, gf1, gf2, gf3⟩ := bx4 K3d.out; have HW1 := Aside0.mk (below_set Hd.out m3.out (j := 0) (v := .slice D0 y0.length d0)))
    | (go_at_call 47; have hb1 := Kd.C_below hr1 HW1.out; have hb2 := Kd.C_below hr2 HW1.out; (with_reducible refine (laws_toCredits.calls k A1 c1 l1 A2 c2 l2 y1 y2 (wd.setCell ⟨gb3, 0, none⟩ (.slice D0 y0.length d0)) hb1 hc1' hb2 hc2' H1.out).mono ?_); clear hb1 hb2; rintro e we ⟨u1, u2, rfl, hu1, hu2, hb⟩; have U1 := Aside0.mk hu1; have U2 := Aside0.mk hu2; have Be := Aside0.mk hb; have He := Aside0.mk (below_then HW1.out HW1.out.size hb); have K1e := Aside0.mk (blk_below (blk_far K1d.out n13 _) hb); have K2e := Aside0.mk (blk_below (blk_far K2d.out n23 _) hb); have K3e := Aside0.mk (blk_below (blk_put K3d.out 0 (.slice D0 y0.length d0) rfl) hb); clear hu1 hu2 hb hc0 hc1 hc2 hc3 hf0 hf1 hf2 hf3 gc0 gc1 gc2 gc3 gf0 gf1 gf2 gf3; obtain ⟨D1, d1, rfl⟩ := Kd.R_slice U1.out; obtain ⟨D2, d2, rfl⟩ := Kd.R_slice U2.out; obtain ⟨hc0, hc1, hc2, hc3, hf0, hf1, hf2, hf3⟩ := bx4 K1e.out; obtain ⟨gc0, gc1, gc2, gc3, gf0, gf1, gf2, gf3⟩ := bx4 K3e.out; have HW2 := Aside0.mk (below_set (below_set He.out m3.out (j := 1) (v := .slice D1 y1.length d1)) m3.out (j := 2) (v := .slice D2 y2.length d2)))
    | (go_at_call 46; have hb3 := Kd.C_below hr3 HW2.out; (with_reducible refine (laws_toPacketS.calls k A3 c3 l3 y3 ((we.setCell ⟨gb3, 1, none⟩ (.slice D1 y1.length d1)).setCell ⟨gb3, 2, none⟩ (.slice D2 y2.length d2)) hb3 hc3' H3.out).mono ?_); clear hb3; rintro e wf ⟨u3, rfl, hu3, hb⟩; have U3 := Aside0.mk hu3; have Bf := Aside0.mk hb; have Hf := Aside0.mk (below_then HW2.out HW2.out.size hb); have K2f := Aside0.mk (blk_below (blk_far (blk_far K2e.out n23 _) n23 _) hb); have K3f := Aside0.mk (blk_below (blk_put (blk_put K3e.out 1 (.slice D1 y1.length d1) rfl) 2 (.slice D2 y2.length d2) rfl) hb); clear hu3 hb hc0 hc1 hc2 hc3 hf0 hf1 hf2 hf3 gc0 gc1 gc2 gc3 gf0 gf1 gf2 gf3; obtain ⟨D3, d3, rfl⟩ := Kd.S_slice U3.out; obtain ⟨hc0, hc1, hc2, hc3, hf0, hf1, hf2, hf3⟩ := bx4 K3f.out; obtain ⟨gc0, gc1, gc2, gc3, gf0, gf1, gf2, gf3⟩ := bx4 K2f.out))
  obtain ⟨wg, hwg⟩ : ∃ wg, wg = ((((wf.setCell ⟨gb3, 3, none⟩ (.slice D3 y3.length d3)).setCell ⟨gb2, 0, none⟩ (.slice D0 y0.length d0)).setCell ⟨gb2, 1, none⟩ (.slice D1 y1.length d1)).setCell ⟨gb2, 2, none⟩ (.slice D2 y2.length d2)).setCell ⟨gb2, 3, none⟩ (.slice D3 y3.length d3) := ⟨_, rfl⟩
  have kg : wg.heap[gb2]? = some (.cells #[.slice D0 y0.length d0, .slice D1 y1.length d1, .slice D2 y2.length d2, .slice D3 y3.length d3] 29 (0, 0)) := by
    rw [hwg]; exact blk_put (blk_put (blk_put (blk_put (blk_far K2f.out n23 _) 0 _ rfl) 1 _ rfl) 2 _ rfl) 3 _ rfl
  have farg : ∀ k, k ≠ gb2 → k ≠ gb3 → wg.heap[k]? = wf.heap[k]? := fun k h2 h3 => by
    rw [hwg]
    exact ((Below.heap_setCell _ ⟨gb2, 3, none⟩ _ k h2).trans (Below.heap_setCell _ ⟨gb2, 2, none⟩ _ k h2)).trans (((Below.heap_setCell _ ⟨gb2, 1, none⟩ _ k h2).trans (Below.heap_setCell _ ⟨gb2, 0, none⟩ _ k h2)).trans (Below.heap_setCell _ ⟨gb3, 3, none⟩ _ k h3))
  have Hg : Below w.heap.size w wg := by rw [hwg]; exact below_set (below_set (below_set (below_set (below_set Hf.out m3.out) m2.out) m2.out) m2.out) m2.out
  have zs : ∀ (W : World) (p : Addr) (v : Value), (W.setCell p v).heap.size = W.heap.size := fun W p v => by simp [World.setCell]
  have x1 : (wd.setCell ⟨gb3, 0, none⟩ (.slice D0 y0.length d0)).heap.size = wd.heap.size := zs _ _ _
  have x2 : ((we.setCell ⟨gb3, 1, none⟩ (.slice D1 y1.length d1)).setCell ⟨gb3, 2, none⟩ (.slice D2 y2.length d2)).heap.size = we.heap.size := (zs _ _ _).trans (zs _ _ _)
  have se : wd.heap.size ≤ we.heap.size := by have := Be.out.size; omega
  have sf : we.heap.size ≤ wf.heap.size := by have := Bf.out.size; omega
  have g2 := LT2.out
  have g3 := LT3.out
  have fe : ∀ k, wc.heap.size ≤ k → k < we.heap.size → wg.heap[k]? = we.heap[k]? := fun k h1 h2 => (farg k (by omega) (by omega)).trans ((Bf.out.block k (by rw [x2]; exact h2)).trans ((Below.heap_setCell _ ⟨gb3, 2, none⟩ _ k (by show k ≠ gb3; omega)).trans (Below.heap_setCell _ ⟨gb3, 1, none⟩ _ k (by show k ≠ gb3; omega))))
  have fd : ∀ k, wc.heap.size ≤ k → k < wd.heap.size → wg.heap[k]? = wd.heap[k]? := fun k h1 h2 => (fe k h1 (Nat.lt_of_lt_of_le h2 se)).trans ((Be.out.block k (by rw [x1]; exact h2)).trans (Below.heap_setCell _ ⟨gb3, 0, none⟩ _ k (by show k ≠ gb3; omega)))
  have sd : wc.heap.size ≤ wd.heap.size := Bd.out.size
  have sc := Hc.out.size
  have z0 := Kd.S_step (Kd.S_mono (ok' := fun k => wc.heap.size ≤ k ∧ k < wd.heap.size) (Kd.S_bound U0.out) (fun k hk => ⟨hk.2.1, hk.2.2.1⟩)) (w1 := wg) (fun k hk hl => fd k hk.1 hl)
  have t1 : ∀ k, some k = (Value.slice D1 y1.length d1).ownBlock → wd.heap.size ≤ k := fun k hk => by have := Kd.R_base U1.out k hk.symm; omega
  have t2 : ∀ k, some k = (Value.slice D2 y2.length d2).ownBlock → wd.heap.size ≤ k := fun k hk => by have := Kd.R_base U2.out k hk.symm; omega
  have t3 := Kd.R_lt U1.out
  have t4 := Kd.R_lt U2.out
  have n12 := U1.out.1
  have z1 := Kd.R_step (Kd.R_tight rfl U1.out) (w1 := wg) (fun k hk hl => fe k (by have := t1 k hk; omega) hl)
  have z2 := Kd.R_step (Kd.R_tight rfl U2.out) (w1 := wg) (fun k hk hl => fe k (by have := t2 k hk; omega) hl)
  have z3 := Kd.S_step (Kd.S_mono (ok' := fun k => we.heap.size ≤ k) (Kd.S_bound U3.out) (fun k hk => by have := hk.2.1; omega)) (w1 := wg) (fun k hk hl => farg k (by omega) (by omega))
  rw [← hwg]
  refine bodyPost_ret (results_cell_row rfl _ _ gb2 29 #[.slice D0 y0.length d0, .slice D1 y1.length d1, .slice D2 y2.length d2, .slice D3 y3.length d3] (0, 0) _ rfl kg hu29 rfl (by kernel_rfl)) rfl ?_
  refine ⟨_, _, _, _, rfl, ⟨fun k => wc.heap.size ≤ k ∧ k < wd.heap.size, fun k => some k = (Value.slice D1 y1.length d1).ownBlock, fun k => some k = (Value.slice D2 y2.length d2).ownBlock, fun k => we.heap.size ≤ k,
    Kd.S_lower z0 sc, Kd.R_lower z1 (by omega), Kd.R_lower z2 (by omega), Kd.S_lower z3 (by omega), fun k hk => ⟨fun h => ?_, fun h => ?_, fun h => ?_⟩, fun k hk => ⟨fun h => n12 k hk.symm h, fun h => ?_⟩, fun k hk h => ?_⟩, Hg⟩
  · have := t1 k h; omega
  · have := t2 k h; omega
  · omega
  · have := t3 k hk.symm; omega
  · have := t4 k hk.symm; omega

theorem set4_below {w wx : World} {g : Nat} (hb : Below w.heap.size w wx) (hg : w.heap.size ≤ g) (v0 v1 v2 v3 : Value) : Below w.heap.size w ((((wx.setCell ⟨g, 0, none⟩ v0).setCell ⟨g, 1, none⟩ v1).setCell ⟨g, 2, none⟩ v2).setCell ⟨g, 3, none⟩ v3) := below_set (below_set (below_set (below_set hb hg) hg) hg) hg
theorem put4 {w : World} {g : Nat} (h : w.heap[g]? = some (.cells #[.slice none 0 0, .slice none 0 0, .slice none 0 0, .slice none 0 0] 29 (0, 0))) (v0 v1 v2 v3 : Value) : ((((w.setCell ⟨g, 0, none⟩ v0).setCell ⟨g, 1, none⟩ v1).setCell ⟨g, 2, none⟩ v2).setCell ⟨g, 3, none⟩ v3).heap[g]? = some (.cells #[v0, v1, v2, v3] 29 (0, 0)) := blk_put (blk_put (blk_put (blk_put h 0 _ rfl) 1 _ rfl) 2 _ rfl) 3 _ rfl
theorem QB.lens {w : World} {b lo hi : Nat} {A0 A1 A2 A3 : Option Addr} {c0 c1 c2 c3 n0 n1 n2 n3 : Nat} {l0 : List S33} {l1 l2 : List Int} {l3 : List S33} (h : QB w b lo hi (.slice A0 n0 c0) (.slice A1 n1 c1) (.slice A2 n2 c2) (.slice A3 n3 c3) l0 l1 l2 l3) : n0 = l0.length ∧ n1 = l1.length ∧ n2 = l2.length ∧ n3 = l3.length := by
  obtain ⟨P0, P1, P2, P3, a0, a1, a2, a3, d⟩ := h
  exact ⟨(Kd.S_reads' a0).1, (Kd.R_reads' a1).1, (Kd.R_reads' a2).1, (Kd.S_reads' a3).1⟩

end Go.Proofs.Ytabefbjagompoaa.PFnExactEnterQueue
