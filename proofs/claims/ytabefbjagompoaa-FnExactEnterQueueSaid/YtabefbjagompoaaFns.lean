/- Contracts of the library's IndexFunc and ContainsFunc over whole numbers, for whatever predicate that only computes. -/
import Derived.Test.YtabefbjagompoaaProg
import Derived.Test.YtabefbjagompoaaWMore
import Derived.Deep.LoopGhost
import Derived.Deep.Draws
import Derived.Shelf.Abstract
import Derived.WalkSpells
namespace Go.Proofs.Ytabefbjagompoaa.Fns
open Go.RowKit Go.Proofs.YtabefbjagompoaaW.PrintWords
set_option linter.unusedVariables false
set_option linter.unusedSimpArgs false

/-- The place of the first element at which p holds, from i on; -1 if there is none. -/
def idxFrom {α : Type} (p : α → Bool) : Int → List α → Int
  | _, [] => -1
  | i, x :: xs => if p x then i else idxFrom p (i + 1) xs
theorem idxFrom_any {α : Type} (p : α → Bool) : ∀ (xs : List α) (i : Int), 0 ≤ i → decide (0 ≤ idxFrom p i xs) = xs.any p
  | [], i, h => by simp [idxFrom]
  | x :: xs, i, h => by
    unfold idxFrom
    cases hp : p x
    · simp [hp, idxFrom_any p xs (i + 1) (by omega)]
    · simp [hp, h]
theorem idxFrom_miss {α : Type} (p : α → Bool) : ∀ (xs : List α) (i : Int), (∀ x ∈ xs, p x = false) → idxFrom p i xs = -1
  | [], i, h => rfl
  | x :: xs, i, h => by
    unfold idxFrom
    rw [h x (by simp)]
    exact idxFrom_miss p xs (i + 1) (fun y hy => h y (by simp [hy]))
theorem idxFrom_hit {α : Type} (p : α → Bool) : ∀ (xs : List α) (i : Int) (k : Nat) (hk : k < xs.length), (∀ j (hj : j < k), p (xs[j]'(by omega)) = false) → p xs[k] = true → idxFrom p i xs = i + k
  | [], i, k, hk, _, _ => absurd hk (by simp)
  | x :: xs, i, 0, hk, _, h => by
    unfold idxFrom
    simp only [List.getElem_cons_zero] at h
    rw [h]
    simp
  | x :: xs, i, k + 1, hk, hm, h => by
    unfold idxFrom
    rw [show p x = false from hm 0 (by omega)]
    simp only [List.getElem_cons_succ] at h
    have := idxFrom_hit p xs (i + 1) k (by simpa using hk) (fun j hj => hm (j + 1) (by omega)) h
    rw [if_neg (by simp), this]
    omega
theorem drawn_drewN (w : World) (q : Nat) : Drawn0 w (w.drewN q) := ⟨⟨q, rfl⟩⟩

set_option maxHeartbeats 2000000 in
theorem index_int (p : Int → Bool) (g : Nat) (A : Option Addr) (c : Nat) (l : List Int) (w : World) (hr : Kd.C (Kd.int .i64) w A l.length l) (hc : l.length ≤ c)
    (hp : ∀ (W : World) (x : Int), Calls Try.prog g #[.int .i64 x] W fun e w' => e = .returned (.bool (p x)) ∧ Drawn0 W w')
    (eg : ∀ args w, (callFunc g args).run Try.prog w = .ok (.enter g args) w) :
    Calls Try.prog 110 #[.slice A l.length c, .func (.func g) #[] #[]] w fun e w' => e = .returned (.int .i64 (idxFrom p 0 l)) ∧ Drawn0 w w' := by
  have hlen : l.length ≤ 9223372036854775807 := hr.2.1
  have HR := Aside0.mk hr
  have HP := Aside0.mk hp
  clear hr hp
  go_enter Try.func110, Try.ntmps110
  go_wp2
  go_loopg [5, 8] l.length (fun gg _ s8 wr => ∃ kk q : Nat, kk ≤ l.length ∧ l.length - kk ≤ gg ∧ s8 = .int .i64 kk ∧ wr = w.drewN q ∧ Aside0 (∀ j (hj : j < kk) (hl : j < l.length), p l[j] = false))
  case atStart => exact ⟨0, 0, Nat.zero_le _, by omega, rfl, rfl, ⟨fun j hj => absurd hj (Nat.not_lt_zero _)⟩⟩
  case round =>
    obtain ⟨kk, q, hkk, hg, rfl, rfl, B⟩ := hrel
    by_cases hlt : kk < l.length
    · have hltz : (kk : Int) < (l.length : Int) := by omega
      obtain ⟨ad, rfl, hcell0⟩ := Kd.at_int HR.out (kk : Int) (by omega) hltz
      have hcell : w.cell? (ad.add kk) = some (.int .i64 (rd l kk)) := by simpa using hcell0
      have hx : rd l (kk : Int) = l[kk] := by unfold rd; simp [List.getD_eq_getElem?_getD, hlt]
      have HX := Aside0.mk hx
      clear hx hcell0
      generalize rd l (kk : Int) = y at hcell HX
      have hcall := HP.out (w.drewN q) y
      cases hq : p y with
      | true =>
        rw [hq] at hcall
        go_wp2_with (go_at_fn g; refine hcall.mono ?_; rintro e w' ⟨rfl, ⟨q', rfl⟩⟩)
        go_ret
        refine ⟨?_, drawn_drewN _ _⟩
        rw [idxFrom_hit p l 0 kk hlt (fun j hj => B.out j hj (by omega)) (by rw [← HX.out]; exact hq)]
        simp
      | false =>
        rw [hq] at hcall
        go_wp2_with (go_at_fn g; refine hcall.mono ?_; rintro e w' ⟨rfl, ⟨q', rfl⟩⟩)
        go_roundg (l.length - (kk + 1))
        case measure => omega
        case rel =>
          refine ⟨kk + 1, _, by omega, by omega, by go_num, (by first | rfl | exact World.drewN_drewN _ _ _), ⟨fun j hj hl => ?_⟩⟩
          by_cases e : j = kk
          · subst e
            rw [← HX.out]; exact hq
          · exact B.out j (by omega) hl
    · obtain rfl : kk = l.length := by omega
      clear hlt
      go_wp2
      go_ret
      refine ⟨?_, drawn_drewN _ _⟩
      rw [idxFrom_miss p l 0 (fun x hx => by
        obtain ⟨i, hi, rfl⟩ := List.mem_iff_getElem.1 hx
        exact B.out i (by omega) hi)]
      rfl

set_option maxHeartbeats 1000000 in
theorem contains_int (p : Int → Bool) (g : Nat) (A : Option Addr) (c : Nat) (l : List Int) (w : World) (hr : Kd.C (Kd.int .i64) w A l.length l) (hc : l.length ≤ c)
    (hp : ∀ (W : World) (x : Int), Calls Try.prog g #[.int .i64 x] W fun e w' => e = .returned (.bool (p x)) ∧ Drawn0 W w')
    (eg : ∀ args w, (callFunc g args).run Try.prog w = .ok (.enter g args) w) :
    Calls Try.prog 103 #[.slice A l.length c, .func (.func g) #[] #[]] w fun e w' => e = .returned (.bool (l.any p)) ∧ Drawn0 w w' := by
  have hI := fun W hr => index_int p g A c l W hr hc hp eg
  rw [← idxFrom_any p l 0 (by omega)]
  have HR := Aside0.mk hr
  have HI := Aside0.mk hI
  clear hr hp hI
  go_enter Try.func103, Try.ntmps103
  go_wp2_with (go_at_call 110; refine (HI.out _ ?_).mono ?_; exact HR.out; rintro e w' ⟨rfl, ⟨q, rfl⟩⟩)
  go_ret
  exact ⟨rfl, drawn_drewN _ _⟩
theorem info_int : (Try.prog.info? 3).map (fun i => (i.zero, i.size, i.bytes)) = some (some (.int .i64 0), 1, 8) := by kernel_rfl
set_option maxHeartbeats 1000000 in
theorem clone_int (A : Option Addr) (c : Nat) (l : List Int) (w : World) (hr : Kd.C (Kd.int .i64) w A l.length l) (hc : l.length ≤ c) (hb : l.length ≤ 17592186044416) :
    Calls Try.prog 91 #[.slice A l.length c] w fun e w' => ∃ v0_ : Value, e = .returned (v0_) ∧ Kd.R (Kd.int .i64) 3 w' w.heap.size (fun _ => True) v0_ l ∧ Below w.heap.size w w' := by
  have q22 : ∀ (w : World) (a : Option Addr) (n c n' c' : Nat), (binOp .eql 25 (.slice a n c) (.slice none n' c')).run Try.prog w = .ok (.bool a.isNone) w := fun w a n c n' c' => Lib.run_eql_slice_nil w _ _ a n c n' c' Try.underlying25
  have HR := Aside0.mk hr
  clear hr
  cases A with
  | none =>
    have h0 : l = [] := by
      cases l with
      | nil => rfl
      | cons x xs => obtain ⟨ad, h, _⟩ := HR.out.2.2 (by simp); cases h
    subst h0
    go_enter Try.func91, Try.ntmps91
    go_wp2
    go_ret
    exact ⟨_, rfl, Kd.R_nil _ _ _ _ _, Below.refl _ _⟩
  | some ad =>
    have HR1 : Aside0 (ReadsInt (w.alloc (.cells #[] 3)) .i64 (some ad) l.length l) := ⟨by
      refine ⟨rfl, HR.out.2.1, fun hn => ?_⟩
      refine ⟨ad, rfl, fun j hj => ?_⟩
      obtain ⟨ad', e, hcell⟩ := Kd.at_int HR.out (j : Int) (by omega) (by omega)
      injection e with e
      subst e
      have h1 := pw_cell_below (below_alloc (Below.refl w.heap.size w) (.cells #[] 3)) hcell
      simpa [rd] using h1⟩
    go_enter Try.func91, Try.ntmps91
    go_wp2_with (at_builtin; refine print_append_row (w0 := w) w.heap.size rfl _ _ 25 3 .i64 8 rfl Try.underlying25 info_int (by omega) (.slice (some ⟨w.heap.size, 0, none⟩) 0 0) [] l (some ad) l.length c rfl rfl ?c1 HR1.out ?c2 ?c3 ?c4 ?_)
    case c1 => exact World.ownsRow_made w #[] 0 (Nat.le_refl _) (Nat.zero_le _) (by simp)
    case c2 => exact below_alloc (Below.refl _ _) _
    case c3 => simp
    case c4 => simp; omega
    intro v1 w1 hown hB _ _
    go_wp2
    go_ret
    exact ⟨v1, rfl, Kd.R_of_own (by simpa [nums, encs] using hown) (fun _ _ => trivial), hB⟩
end Go.Proofs.Ytabefbjagompoaa.Fns
