/- Printed by a program of this session out of the translation: each Go function as a Lean function, with the proof that Go comes to just its answer (no condition beyond what each theorem says). (squeezed) -/
import Derived.Test.YtbbppknnkghkjaaPFnIdRoutesx0
import Derived.Test.YtbbppknnkghkjaaPFnIdRoutesx3
namespace Go.Proofs.Ytbbppknnkghkjaa.PFnIdRoutes
open Go.RowKit Go.Proofs.YtbbppknnkghkjaaW.PrintWords Go.Proofs.YtbbppknnkghkjaaW.PrintLast Go.Proofs.YtbbppknnkghkjaaW.PrintMore Go.Proofs.Ytbbppknnkghkjaa.Kit Go.Proofs.Ytbbppknnkghkjaa.Kit2
attribute [local go_sem] max2_int min2_int max_two min_two max_three min_three max_four min_four   -- for this text's walks alone
set_option linter.unusedVariables false
set_option linter.unusedSimpArgs false

/-! ### impl_areNumbers: function 76 -/
def impl_areNumbers.f (k : Nat) (l0 : List (S50)) (l1_0 : List Int) (l1_1 : List Int) (l1_2 : List Int) : Option (Bool) := (impl_Enumerate.f k l0).bind fun bt177 => (if bt177.2.2.2 = true then ((slices_Equal_int_int.f k bt177.1 l1_0).bind fun t188 => (if t188 = true then ((slices_Equal_int_int.f k bt177.2.1 l1_1).bind fun t189 => (if t189 = true then ((slices_Equal_int_int.f k bt177.2.2.1 l1_2).bind fun t190 => (some t190)) else (some false))) else (some false))) else (some false))
set_option maxHeartbeats 8000000 in
set_option maxRecDepth 100000 in
theorem impl_areNumbers.calls (k : Nat) (A0 : Option Addr) (c0 : Nat) (l0 : List (S50)) (A1_0 : Option Addr) (c1_0 : Nat) (l1_0 : List Int) (A1_1 : Option Addr) (c1_1 : Nat) (l1_1 : List Int) (A1_2 : Option Addr) (c1_2 : Nat) (l1_2 : List Int) (r : Bool) (w : World) (hr0 : Kd.C k50 w A0 l0.length l0) (hc0 : l0.length ≤ c0) (hr1_0 : Kd.C (Kd.int .i64) w A1_0 l1_0.length l1_0) (hc1_0 : l1_0.length ≤ c1_0) (hr1_1 : Kd.C (Kd.int .i64) w A1_1 l1_1.length l1_1) (hc1_1 : l1_1.length ≤ c1_1) (hr1_2 : Kd.C (Kd.int .i64) w A1_2 l1_2.length l1_2) (hc1_2 : l1_2.length ≤ c1_2) (h : impl_areNumbers.f k l0 l1_0 l1_1 l1_2 = some r) :
  Calls Try.prog 76 #[.slice A0 l0.length c0, .agg #[.slice A1_0 l1_0.length c1_0, .slice A1_1 l1_1.length c1_1, .slice A1_2 l1_2.length c1_2]] w fun e w' => e = .returned (.bool r) ∧ Below w.heap.size w w' := by
 have hu31 := Try.underlying31
 have HR0 := Aside0.mk hr0
 have HC0 := Aside0.mk hc0
 clear hr0 hc0
 have HR1_0 := Aside0.mk hr1_0
 have HC1_0 := Aside0.mk hc1_0
 clear hr1_0 hc1_0
 have HR1_1 := Aside0.mk hr1_1
 have HC1_1 := Aside0.mk hc1_1
 clear hr1_1 hc1_1
 have HR1_2 := Aside0.mk hr1_2
 have HC1_2 := Aside0.mk hc1_2
 clear hr1_2 hc1_2
 have HB := Aside0.mk (Below.refl w.heap.size w)
 have H : ((impl_Enumerate.f k l0).bind fun bt177 => (if bt177.2.2.2 = true then ((slices_Equal_int_int.f k bt177.1 l1_0).bind fun t188 => (if t188 = true then ((slices_Equal_int_int.f k bt177.2.1 l1_1).bind fun t189 => (if t189 = true then ((slices_Equal_int_int.f k bt177.2.2.1 l1_2).bind fun t190 => (some t190)) else (some false))) else (some false))) else (some false))) = some r := h
 clear h
 replace H := Option.bind_eq_some_iff.mp H
 obtain ⟨⟨t177, t180, t183, t186⟩, A30, H⟩ := H
 replace H : (if t186 = true then ((slices_Equal_int_int.f k t177 l1_0).bind fun t188 => (if t188 = true then ((slices_Equal_int_int.f k t180 l1_1).bind fun t189 => (if t189 = true then ((slices_Equal_int_int.f k t183 l1_2).bind fun t190 => (some t190)) else (some false))) else (some false))) else (some false)) = some r := H
 have A3 := Aside0.mk A30
 clear A30
 by_cases c4 : t186 = true
 ·subst c4
  have H1 : ((slices_Equal_int_int.f k t177 l1_0).bind fun t188 => (if t188 = true then ((slices_Equal_int_int.f k t180 l1_1).bind fun t189 => (if t189 = true then ((slices_Equal_int_int.f k t183 l1_2).bind fun t190 => (some t190)) else (some false))) else (some false))) = some r := by rw [if_pos rfl] at H; exact H
  clear H
  have H := H1
  clear H1
  replace H := Option.bind_eq_some_iff.mp H
  obtain ⟨t188, A50, H⟩ := H
  replace H : (if t188 = true then ((slices_Equal_int_int.f k t180 l1_1).bind fun t189 => (if t189 = true then ((slices_Equal_int_int.f k t183 l1_2).bind fun t190 => (some t190)) else (some false))) else (some false)) = some r := H
  have A5 := Aside0.mk A50
  clear A50
  by_cases c6 : t188 = true
  ·subst c6
   have H1 : ((slices_Equal_int_int.f k t180 l1_1).bind fun t189 => (if t189 = true then ((slices_Equal_int_int.f k t183 l1_2).bind fun t190 => (some t190)) else (some false))) = some r := by rw [if_pos rfl] at H; exact H
   clear H
   have H := H1
   clear H1
   replace H := Option.bind_eq_some_iff.mp H
   obtain ⟨t189, A70, H⟩ := H
   replace H : (if t189 = true then ((slices_Equal_int_int.f k t183 l1_2).bind fun t190 => (some t190)) else (some false)) = some r := H
   have A7 := Aside0.mk A70
   clear A70
   by_cases c8 : t189 = true
   ·subst c8
    have H1 : ((slices_Equal_int_int.f k t183 l1_2).bind fun t190 => (some t190)) = some r := by rw [if_pos rfl] at H; exact H
    clear H
    have H := H1
    clear H1
    replace H := Option.bind_eq_some_iff.mp H
    obtain ⟨t190, A90, H⟩ := H
    replace H : (some t190) = some r := H
    have A9 := Aside0.mk A90
    clear A90
    obtain rfl := Option.some.inj H
    go_enter Try.func76, Try.ntmps76
    go_wp2_with (first | ((with_reducible refine gate_dst (N := 3) rfl ?_); refine box_event ?hg (N := 3) ?hd (cs := #[.slice A1_0 l1_0.length c1_0, .slice A1_1 l1_1.length c1_1, .slice A1_2 l1_2.length c1_2]) (t := 31) ?hr ?_; (case hd => rfl); (case hg => rfl); (case hr => first | (go_simp; done) | (go_simp; rfl)); intro gb176 hg w10 hbox hb; have t_ := fc4 (below_step bb hb) (hbox) (bg hg : w.heap.size ≤ gb176) (bg hg : w.heap.size ≤ gb176); clear HB; obtain ⟨HB, BK176, GW176, GE176⟩ := t_; clear hb hbox hg) | ((with_reducible refine gate_callee (f := 42) rfl ?_); refine goesL_ (some 9) rfl rfl Try.func42 (by kernel_rfl) rfl #[.slice A0 l0.length c0] rfl ms ?_; (with_reducible refine (impl_Enumerate.calls k _ _ l0 t177 t180 t183 true _ ?side1 ?side2 A3.out).mono ?_); (case side1 => exact kc); (case side2 => exact HC0.out); rintro e w11 ⟨v178, v181, v184, rfl, ho0, ho1, ho2, hb⟩; refine ⟨_, rfl, ?_⟩; have t_ := fc5 (Kd.R_lower ho0 (below_size bb)) (Kd.R_lower ho1 (below_size bb)) (Kd.R_lower ho2 (below_size bb)) (bw BK176 hb) (below_step bb hb); clear BK176 HB; obtain ⟨HO179, HO182, HO185, BK176, HB⟩ := t_; (try clear hb); (try clear ho0); (try clear ho1); (try clear ho2)) | ((with_reducible refine gate_dst (N := 5) rfl ?_); refine box_event ?hg (N := 5) ?hd (cs := #[.slice none 0 0, .slice none 0 0, .slice none 0 0]) (t := 31) ?hr ?_; (case hd => rfl); (case hg => rfl); (case hr => first | (go_simp; done) | (go_simp; rfl)); intro gb187 hg w12 hbox hb; have t_ := fc10 (Kd.R_below (ra HO179.out) hb) (Kd.R_below (ra HO182.out) hb) (Kd.R_below (ra HO185.out) hb) (bw BK176 hb) (below_step bb hb) (hbox) (bg hg : w.heap.size ≤ gb187) (bg hg : w.heap.size ≤ gb187) ((nl BK176 hg : gb176 ≠ gb187)) ((ng BK176 hg : gb187 ≠ gb176)); clear HO179 HO182 HO185 BK176 HB; obtain ⟨HO179, HO182, HO185, BK176, HB, BK187, GW187, GE187, NB176_187, NB187_176⟩ := t_; clear hb hbox hg; obtain ⟨Ao13, co13, eo13⟩ := Kd.R_slice HO179.out; subst eo13; have hnb14 := NB187_176.out; have hnc14 := NB176_187.out; obtain ⟨hcz15_0, hcz15_1, hcz15_2, hfz15_0, hfz15_1, hfz15_2⟩ := bx3 BK187.out; obtain ⟨Ao16, co16, eo16⟩ := Kd.R_slice HO182.out; subst eo16; obtain ⟨Ao17, co17, eo17⟩ := Kd.R_slice HO185.out; subst eo17; obtain ⟨hcz18_0, hcz18_1, hcz18_2, hfz18_0, hfz18_1, hfz18_2⟩ := bx3 BK176.out) | (go_at_call 121; (with_reducible refine (slices_Equal_int_int.calls k _ _ t177 _ _ l1_0 true _ ?side1 ?side2 ?side3 ?side4 A5.out).mono ?_); (case side1 => refine (Kd.R_reads' (e := 3) (base := w.heap.size) (ok := fun k_ => (some k_ ≠ (.slice Ao16 t180.length co16 : Value).ownBlock ∧ some k_ ≠ (.slice Ao17 t183.length co17 : Value).ownBlock)) (n := t177.length) (c := co13) ?_).2.2; exact (ra (Kd.R_mono (Kd.R_far (p := ⟨gb187, 2, none⟩) (Kd.R_far (p := ⟨gb187, 1, none⟩) (Kd.R_far (p := ⟨gb187, 0, none⟩) (Kd.R_types HO179.out BK187.out (by decide)) fk (.slice Ao13 t177.length co13)) fk (.slice Ao16 t180.length co16)) fk (.slice Ao17 t183.length co17)) (fun _ h_ => h_.1)))); (case side2 => exact (Kd.R_reads' HO179.out).2.1); (case side3 => exact Kd.C_below HR1_0.out bb); (case side4 => exact HC1_0.out); rintro e w' ⟨rfl, ⟨nd, rfl⟩⟩) | (go_at_call 121; (with_reducible refine (slices_Equal_int_int.calls k _ _ t180 _ _ l1_1 true _ ?side1 ?side2 ?side3 ?side4 A7.out).mono ?_); (case side1 => refine (Kd.R_reads' (e := 3) (base := w.heap.size) (ok := fun k_ => (some k_ ≠ (.slice Ao13 t177.length co13 : Value).ownBlock ∧ some k_ ≠ (.slice Ao17 t183.length co17 : Value).ownBlock)) (n := t180.length) (c := co16) ?_).2.2; exact (ra (Kd.R_mono (Kd.R_far (p := ⟨gb187, 2, none⟩) (Kd.R_far (p := ⟨gb187, 1, none⟩) (Kd.R_far (p := ⟨gb187, 0, none⟩) (Kd.R_types HO182.out BK187.out (by decide)) fk (.slice Ao13 t177.length co13)) fk (.slice Ao16 t180.length co16)) fk (.slice Ao17 t183.length co17)) (fun _ h_ => h_.1)))); (case side2 => exact (Kd.R_reads' HO182.out).2.1); (case side3 => exact Kd.C_below HR1_1.out bb); (case side4 => exact HC1_1.out); rintro e w' ⟨rfl, ⟨nd, rfl⟩⟩) | (go_at_call 121; (with_reducible refine (slices_Equal_int_int.calls k _ _ t183 _ _ l1_2 t190 _ ?side1 ?side2 ?side3 ?side4 A9.out).mono ?_); (case side1 => refine (Kd.R_reads' (e := 3) (base := w.heap.size) (ok := fun k_ => (some k_ ≠ (.slice Ao13 t177.length co13 : Value).ownBlock ∧ some k_ ≠ (.slice Ao16 t180.length co16 : Value).ownBlock)) (n := t183.length) (c := co17) ?_).2.2; exact (ra (Kd.R_mono (Kd.R_far (p := ⟨gb187, 2, none⟩) (Kd.R_far (p := ⟨gb187, 1, none⟩) (Kd.R_far (p := ⟨gb187, 0, none⟩) (Kd.R_types HO185.out BK187.out (by decide)) fk (.slice Ao13 t177.length co13)) fk (.slice Ao16 t180.length co16)) fk (.slice Ao17 t183.length co17)) (fun _ h_ => h_.1)))); (case side2 => exact (Kd.R_reads' HO185.out).2.1); (case side3 => exact Kd.C_below HR1_2.out bb); (case side4 => exact HC1_2.out); rintro e w' ⟨rfl, ⟨nd, rfl⟩⟩))
    go_ret
    exact ⟨er, bb⟩
   ·replace c8 := Bool.eq_false_iff.mpr c8
    subst c8
    have H1 : (some false) = some r := by rw [if_neg (show ¬ (false = true) by decide)] at H; exact H
    clear H
    have H := H1
    clear H1
    obtain rfl := Option.some.inj H
    go_enter Try.func76, Try.ntmps76
    go_wp2_with (first | ((with_reducible refine gate_dst (N := 3) rfl ?_); refine box_event ?hg (N := 3) ?hd (cs := #[.slice A1_0 l1_0.length c1_0, .slice A1_1 l1_1.length c1_1, .slice A1_2 l1_2.length c1_2]) (t := 31) ?hr ?_; (case hd => rfl); (case hg => rfl); (case hr => first | (go_simp; done) | (go_simp; rfl)); intro gb176 hg w19 hbox hb; have t_ := fc4 (below_step bb hb) (hbox) (bg hg : w.heap.size ≤ gb176) (bg hg : w.heap.size ≤ gb176); clear HB; obtain ⟨HB, BK176, GW176, GE176⟩ := t_; clear hb hbox hg) | ((with_reducible refine gate_callee (f := 42) rfl ?_); refine goesL_ (some 9) rfl rfl Try.func42 (by kernel_rfl) rfl #[.slice A0 l0.length c0] rfl ms ?_; (with_reducible refine (impl_Enumerate.calls k _ _ l0 t177 t180 t183 true _ ?side1 ?side2 A3.out).mono ?_); (case side1 => exact kc); (case side2 => exact HC0.out); rintro e w20 ⟨v178, v181, v184, rfl, ho0, ho1, ho2, hb⟩; refine ⟨_, rfl, ?_⟩; have t_ := fc5 (Kd.R_lower ho0 (below_size bb)) (Kd.R_lower ho1 (below_size bb)) (Kd.R_lower ho2 (below_size bb)) (bw BK176 hb) (below_step bb hb); clear BK176 HB; obtain ⟨HO179, HO182, HO185, BK176, HB⟩ := t_; (try clear hb); (try clear ho0); (try clear ho1); (try clear ho2)) | ((with_reducible refine gate_dst (N := 5) rfl ?_); refine box_event ?hg (N := 5) ?hd (cs := #[.slice none 0 0, .slice none 0 0, .slice none 0 0]) (t := 31) ?hr ?_; (case hd => rfl); (case hg => rfl); (case hr => first | (go_simp; done) | (go_simp; rfl)); intro gb187 hg w21 hbox hb; have t_ := fc10 (Kd.R_below (ra HO179.out) hb) (Kd.R_below (ra HO182.out) hb) (Kd.R_below (ra HO185.out) hb) (bw BK176 hb) (below_step bb hb) (hbox) (bg hg : w.heap.size ≤ gb187) (bg hg : w.heap.size ≤ gb187) ((nl BK176 hg : gb176 ≠ gb187)) ((ng BK176 hg : gb187 ≠ gb176)); clear HO179 HO182 HO185 BK176 HB; obtain ⟨HO179, HO182, HO185, BK176, HB, BK187, GW187, GE187, NB176_187, NB187_176⟩ := t_; clear hb hbox hg; obtain ⟨Ao22, co22, eo22⟩ := Kd.R_slice HO179.out; subst eo22; have hnb23 := NB187_176.out; have hnc23 := NB176_187.out; obtain ⟨hcz24_0, hcz24_1, hcz24_2, hfz24_0, hfz24_1, hfz24_2⟩ := bx3 BK187.out; obtain ⟨Ao25, co25, eo25⟩ := Kd.R_slice HO182.out; subst eo25; obtain ⟨Ao26, co26, eo26⟩ := Kd.R_slice HO185.out; subst eo26; obtain ⟨hcz27_0, hcz27_1, hcz27_2, hfz27_0, hfz27_1, hfz27_2⟩ := bx3 BK176.out) | (go_at_call 121; (with_reducible refine (slices_Equal_int_int.calls k _ _ t177 _ _ l1_0 true _ ?side1 ?side2 ?side3 ?side4 A5.out).mono ?_); (case side1 => refine (Kd.R_reads' (e := 3) (base := w.heap.size) (ok := fun k_ => (some k_ ≠ (.slice Ao25 t180.length co25 : Value).ownBlock ∧ some k_ ≠ (.slice Ao26 t183.length co26 : Value).ownBlock)) (n := t177.length) (c := co22) ?_).2.2; exact (ra (Kd.R_mono (Kd.R_far (p := ⟨gb187, 2, none⟩) (Kd.R_far (p := ⟨gb187, 1, none⟩) (Kd.R_far (p := ⟨gb187, 0, none⟩) (Kd.R_types HO179.out BK187.out (by decide)) fk (.slice Ao22 t177.length co22)) fk (.slice Ao25 t180.length co25)) fk (.slice Ao26 t183.length co26)) (fun _ h_ => h_.1)))); (case side2 => exact (Kd.R_reads' HO179.out).2.1); (case side3 => exact Kd.C_below HR1_0.out bb); (case side4 => exact HC1_0.out); rintro e w' ⟨rfl, ⟨nd, rfl⟩⟩) | (go_at_call 121; (with_reducible refine (slices_Equal_int_int.calls k _ _ t180 _ _ l1_1 false _ ?side1 ?side2 ?side3 ?side4 A7.out).mono ?_); (case side1 => refine (Kd.R_reads' (e := 3) (base := w.heap.size) (ok := fun k_ => (some k_ ≠ (.slice Ao22 t177.length co22 : Value).ownBlock ∧ some k_ ≠ (.slice Ao26 t183.length co26 : Value).ownBlock)) (n := t180.length) (c := co25) ?_).2.2; exact (ra (Kd.R_mono (Kd.R_far (p := ⟨gb187, 2, none⟩) (Kd.R_far (p := ⟨gb187, 1, none⟩) (Kd.R_far (p := ⟨gb187, 0, none⟩) (Kd.R_types HO182.out BK187.out (by decide)) fk (.slice Ao22 t177.length co22)) fk (.slice Ao25 t180.length co25)) fk (.slice Ao26 t183.length co26)) (fun _ h_ => h_.1)))); (case side2 => exact (Kd.R_reads' HO182.out).2.1); (case side3 => exact Kd.C_below HR1_1.out bb); (case side4 => exact HC1_1.out); rintro e w' ⟨rfl, ⟨nd, rfl⟩⟩))
    go_ret
    exact ⟨er, bb⟩
  ·replace c6 := Bool.eq_false_iff.mpr c6
   subst c6
   have H1 : (some false) = some r := by rw [if_neg (show ¬ (false = true) by decide)] at H; exact H
   clear H
   have H := H1
   clear H1
   obtain rfl := Option.some.inj H
   go_enter Try.func76, Try.ntmps76
   go_wp2_with (first | ((with_reducible refine gate_dst (N := 3) rfl ?_); refine box_event ?hg (N := 3) ?hd (cs := #[.slice A1_0 l1_0.length c1_0, .slice A1_1 l1_1.length c1_1, .slice A1_2 l1_2.length c1_2]) (t := 31) ?hr ?_; (case hd => rfl); (case hg => rfl); (case hr => first | (go_simp; done) | (go_simp; rfl)); intro gb176 hg w28 hbox hb; have t_ := fc4 (below_step bb hb) (hbox) (bg hg : w.heap.size ≤ gb176) (bg hg : w.heap.size ≤ gb176); clear HB; obtain ⟨HB, BK176, GW176, GE176⟩ := t_; clear hb hbox hg) | ((with_reducible refine gate_callee (f := 42) rfl ?_); refine goesL_ (some 9) rfl rfl Try.func42 (by kernel_rfl) rfl #[.slice A0 l0.length c0] rfl ms ?_; (with_reducible refine (impl_Enumerate.calls k _ _ l0 t177 t180 t183 true _ ?side1 ?side2 A3.out).mono ?_); (case side1 => exact kc); (case side2 => exact HC0.out); rintro e w29 ⟨v178, v181, v184, rfl, ho0, ho1, ho2, hb⟩; refine ⟨_, rfl, ?_⟩; have t_ := fc5 (Kd.R_lower ho0 (below_size bb)) (Kd.R_lower ho1 (below_size bb)) (Kd.R_lower ho2 (below_size bb)) (bw BK176 hb) (below_step bb hb); clear BK176 HB; obtain ⟨HO179, HO182, HO185, BK176, HB⟩ := t_; (try clear hb); (try clear ho0); (try clear ho1); (try clear ho2)) | ((with_reducible refine gate_dst (N := 5) rfl ?_); refine box_event ?hg (N := 5) ?hd (cs := #[.slice none 0 0, .slice none 0 0, .slice none 0 0]) (t := 31) ?hr ?_; (case hd => rfl); (case hg => rfl); (case hr => first | (go_simp; done) | (go_simp; rfl)); intro gb187 hg w30 hbox hb; have t_ := fc10 (Kd.R_below (ra HO179.out) hb) (Kd.R_below (ra HO182.out) hb) (Kd.R_below (ra HO185.out) hb) (bw BK176 hb) (below_step bb hb) (hbox) (bg hg : w.heap.size ≤ gb187) (bg hg : w.heap.size ≤ gb187) ((nl BK176 hg : gb176 ≠ gb187)) ((ng BK176 hg : gb187 ≠ gb176)); clear HO179 HO182 HO185 BK176 HB; obtain ⟨HO179, HO182, HO185, BK176, HB, BK187, GW187, GE187, NB176_187, NB187_176⟩ := t_; clear hb hbox hg; obtain ⟨Ao31, co31, eo31⟩ := Kd.R_slice HO179.out; subst eo31; have hnb32 := NB187_176.out; have hnc32 := NB176_187.out; obtain ⟨hcz33_0, hcz33_1, hcz33_2, hfz33_0, hfz33_1, hfz33_2⟩ := bx3 BK187.out; obtain ⟨Ao34, co34, eo34⟩ := Kd.R_slice HO182.out; subst eo34; obtain ⟨Ao35, co35, eo35⟩ := Kd.R_slice HO185.out; subst eo35; obtain ⟨hcz36_0, hcz36_1, hcz36_2, hfz36_0, hfz36_1, hfz36_2⟩ := bx3 BK176.out) | (go_at_call 121; (with_reducible refine (slices_Equal_int_int.calls k _ _ t177 _ _ l1_0 false _ ?side1 ?side2 ?side3 ?side4 A5.out).mono ?_); (case side1 => refine (Kd.R_reads' (e := 3) (base := w.heap.size) (ok := fun k_ => (some k_ ≠ (.slice Ao34 t180.length co34 : Value).ownBlock ∧ some k_ ≠ (.slice Ao35 t183.length co35 : Value).ownBlock)) (n := t177.length) (c := co31) ?_).2.2; exact (ra (Kd.R_mono (Kd.R_far (p := ⟨gb187, 2, none⟩) (Kd.R_far (p := ⟨gb187, 1, none⟩) (Kd.R_far (p := ⟨gb187, 0, none⟩) (Kd.R_types HO179.out BK187.out (by decide)) fk (.slice Ao31 t177.length co31)) fk (.slice Ao34 t180.length co34)) fk (.slice Ao35 t183.length co35)) (fun _ h_ => h_.1)))); (case side2 => exact (Kd.R_reads' HO179.out).2.1); (case side3 => exact Kd.C_below HR1_0.out bb); (case side4 => exact HC1_0.out); rintro e w' ⟨rfl, ⟨nd, rfl⟩⟩))
   go_ret
   exact ⟨er, bb⟩
 ·replace c4 := Bool.eq_false_iff.mpr c4
  subst c4
  have H1 : (some false) = some r := by rw [if_neg (show ¬ (false = true) by decide)] at H; exact H
  clear H
  have H := H1
  clear H1
  obtain rfl := Option.some.inj H
  go_enter Try.func76, Try.ntmps76
  go_wp2_with (first | ((with_reducible refine gate_dst (N := 3) rfl ?_); refine box_event ?hg (N := 3) ?hd (cs := #[.slice A1_0 l1_0.length c1_0, .slice A1_1 l1_1.length c1_1, .slice A1_2 l1_2.length c1_2]) (t := 31) ?hr ?_; (case hd => rfl); (case hg => rfl); (case hr => first | (go_simp; done) | (go_simp; rfl)); intro gb176 hg w37 hbox hb; have t_ := fc4 (below_step bb hb) (hbox) (bg hg : w.heap.size ≤ gb176) (bg hg : w.heap.size ≤ gb176); clear HB; obtain ⟨HB, BK176, GW176, GE176⟩ := t_; clear hb hbox hg) | ((with_reducible refine gate_callee (f := 42) rfl ?_); refine goesL_ (some 9) rfl rfl Try.func42 (by kernel_rfl) rfl #[.slice A0 l0.length c0] rfl ms ?_; (with_reducible refine (impl_Enumerate.calls k _ _ l0 t177 t180 t183 false _ ?side1 ?side2 A3.out).mono ?_); (case side1 => exact kc); (case side2 => exact HC0.out); rintro e w38 ⟨v178, v181, v184, rfl, ho0, ho1, ho2, hb⟩; refine ⟨_, rfl, ?_⟩; have t_ := fc5 (Kd.R_lower ho0 (below_size bb)) (Kd.R_lower ho1 (below_size bb)) (Kd.R_lower ho2 (below_size bb)) (bw BK176 hb) (below_step bb hb); clear BK176 HB; obtain ⟨HO179, HO182, HO185, BK176, HB⟩ := t_; (try clear hb); (try clear ho0); (try clear ho1); (try clear ho2)) | ((with_reducible refine gate_dst (N := 5) rfl ?_); refine box_event ?hg (N := 5) ?hd (cs := #[.slice none 0 0, .slice none 0 0, .slice none 0 0]) (t := 31) ?hr ?_; (case hd => rfl); (case hg => rfl); (case hr => first | (go_simp; done) | (go_simp; rfl)); intro gb187 hg w39 hbox hb; have t_ := fc10 (Kd.R_below (ra HO179.out) hb) (Kd.R_below (ra HO182.out) hb) (Kd.R_below (ra HO185.out) hb) (bw BK176 hb) (below_step bb hb) (hbox) (bg hg : w.heap.size ≤ gb187) (bg hg : w.heap.size ≤ gb187) ((nl BK176 hg : gb176 ≠ gb187)) ((ng BK176 hg : gb187 ≠ gb176)); clear HO179 HO182 HO185 BK176 HB; obtain ⟨HO179, HO182, HO185, BK176, HB, BK187, GW187, GE187, NB176_187, NB187_176⟩ := t_; clear hb hbox hg; obtain ⟨Ao40, co40, eo40⟩ := Kd.R_slice HO179.out; subst eo40; have hnb41 := NB187_176.out; have hnc41 := NB176_187.out; obtain ⟨hcz42_0, hcz42_1, hcz42_2, hfz42_0, hfz42_1, hfz42_2⟩ := bx3 BK187.out; obtain ⟨Ao43, co43, eo43⟩ := Kd.R_slice HO182.out; subst eo43; obtain ⟨Ao44, co44, eo44⟩ := Kd.R_slice HO185.out; subst eo44))
  go_ret
  exact ⟨er, bb⟩

/-! ### impl_BusOf: function 77 -/
def impl_BusOf.f (a0 : Int) : Option (Int) := (impl_IsId.f a0).bind fun t191 => (if t191 = true then (some (wrap64 (Int.tdiv a0 16))) else (some (-1)))
set_option maxHeartbeats 8000000 in
set_option maxRecDepth 100000 in
theorem impl_BusOf.calls (a0 : Int) (r : Int) (w : World) (h : impl_BusOf.f a0 = some r) :
  Calls Try.prog 77 #[.int .i64 a0] w fun e w' => e = .returned (.int .i64 r) ∧ Drawn0 w w' := by
 have H : ((impl_IsId.f a0).bind fun t191 => (if t191 = true then (some (wrap64 (Int.tdiv a0 16))) else (some (-1)))) = some r := h
 clear h
 replace H := Option.bind_eq_some_iff.mp H
 obtain ⟨t191, A20, H⟩ := H
 replace H : (if t191 = true then (some (wrap64 (Int.tdiv a0 16))) else (some (-1))) = some r := H
 have A2 := Aside0.mk A20
 clear A20
 by_cases c3 : t191 = true
 ·subst c3
  have H1 : (some (wrap64 (Int.tdiv a0 16))) = some r := by rw [if_pos rfl] at H; exact H
  clear H
  have H := H1
  clear H1
  obtain rfl := Option.some.inj H
  go_enter Try.func77, Try.ntmps77
  go_wp2_with (first | ((with_reducible refine gate_callee (f := 47) rfl ?_); refine goesL_ (some 4) rfl rfl Try.func47 (by kernel_rfl) rfl #[.int .i64 a0] rfl ms ?_; (with_reducible refine (impl_IsId.calls a0 true _ A2.out).mono ?_); rintro e w' ⟨rfl, ⟨nd, rfl⟩⟩; refine ⟨_, rfl, ?_⟩))
  go_ret
  exact ⟨by first | rfl | (simp; done) | (simp [*]; done), by repeat (first | exact Drawn0.refl _ | apply Drawn0.step)⟩
 ·replace c3 := Bool.eq_false_iff.mpr c3
  subst c3
  have H1 : (some (-1)) = some r := by rw [if_neg (show ¬ (false = true) by decide)] at H; exact H
  clear H
  have H := H1
  clear H1
  obtain rfl := Option.some.inj H
  go_enter Try.func77, Try.ntmps77
  go_wp2_with (first | ((with_reducible refine gate_callee (f := 47) rfl ?_); refine goesL_ (some 4) rfl rfl Try.func47 (by kernel_rfl) rfl #[.int .i64 a0] rfl ms ?_; (with_reducible refine (impl_IsId.calls a0 false _ A2.out).mono ?_); rintro e w' ⟨rfl, ⟨nd, rfl⟩⟩; refine ⟨_, rfl, ?_⟩))
  go_ret
  exact ⟨by first | rfl | (simp; done) | (simp [*]; done), by repeat (first | exact Drawn0.refl _ | apply Drawn0.step)⟩

end Go.Proofs.Ytbbppknnkghkjaa.PFnIdRoutes
