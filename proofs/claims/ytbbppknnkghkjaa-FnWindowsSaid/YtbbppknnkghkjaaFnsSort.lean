/- The contract of slices.SortFunc over a row of ints of the call's own (12 or fewer), out of the library's, for a literal that only reads. -/
import Derived.Test.YtbbppknnkghkjaaFns
import Derived.Test.YtbbppknnkghkjaaFnsLay
namespace Go.Proofs.Ytbbppknnkghkjaa.Fns
open Go.RowKit Go.Sort Go.Shelf Go.Proofs.YtbbppknnkghkjaaW.PrintWords
set_option linter.unusedVariables false
set_option linter.unusedSimpArgs false

theorem hlen12 (n : Nat) (W : World) (h : n ≤ 12) : Calls Try.prog (sortRen.f 15) #[.int .u64 n] W fun e w' => (∃ l : Int, e = .returned (.int .i64 l)) ∧ w' = W :=
  (Any.bits_Len lenLaid n W (by omega) (by omega)).mono fun _ _ ⟨he, hw⟩ => ⟨⟨_, he⟩, hw⟩

/-- The row, written over as a whole: it stays the call's own; nothing else is touched. -/
theorem put_row (t : Nat) {w0 w : World} {P0 : Nat → Prop} {g cap : Nat} {l : List Int} (hB : Below w0.heap.size w0 w)
    (ho : Kd.R (Kd.int .i64) t w w0.heap.size P0 (.slice (some ⟨g, 0, none⟩) l.length cap) l) (hg : w0.heap.size ≤ g) (hP : P0 g) (d : List Int) (hd : d.length = l.length) :
    Kd.R (Kd.int .i64) t (putRow (Value.int .i64) w g 0 d.toArray) w0.heap.size P0 (.slice (some ⟨g, 0, none⟩) l.length cap) d ∧ Below w0.heap.size w0 (putRow (Value.int .i64) w g 0 d.toArray) ∧ Kept w (putRow (Value.int .i64) w g 0 d.toArray) P0 := by
  have hH : Holds (Value.int .i64) w g 0 l.toArray := by
    intro j hj
    have hj' : j < l.length := by simpa using hj
    obtain ⟨h1, h2⟩ := Kd.R_celln (enc := Value.int .i64) (h1 := fun _ => rfl) (0 : Int) ho (j : Int) (by omega) (by omega)
    simp only [Int.toNat_natCast] at h1 h2
    rw [Nat.zero_add]
    refine ⟨h1.trans ?_, h2⟩
    congr 2
    simp [rdOf, hj', List.getD_eq_getElem?_getD, getElem!_pos]
  have key : ∀ k, k ≤ l.length → Kd.R (Kd.int .i64) t (putRow (Value.int .i64) w g 0 (d.take k ++ l.drop k).toArray) w0.heap.size P0 (.slice (some ⟨g, 0, none⟩) l.length cap) (d.take k ++ l.drop k) ∧ Below w0.heap.size w0 (putRow (Value.int .i64) w g 0 (d.take k ++ l.drop k).toArray) ∧ Kept w (putRow (Value.int .i64) w g 0 (d.take k ++ l.drop k).toArray) P0 := by
    intro k
    induction k with
    | zero =>
      intro _
      simp only [List.take_zero, List.drop_zero, List.nil_append]
      rw [putRow_self _ _ _ _ _ hH]
      exact ⟨ho, hB, Kept.refl _ _⟩
    | succ k ih =>
      intro hk
      obtain ⟨i1, i2, i3⟩ := ih (by omega)
      have hk2 : k < d.length := by omega
      have e : (d.take k ++ l.drop k).set k d[k] = d.take (k + 1) ++ l.drop (k + 1) := by
        have ht : (d.take k).length = k := by simp; omega
        rw [List.set_append_right _ _ (by omega), ht, Nat.sub_self, List.take_succ_eq_append_getElem hk2, List.drop_eq_getElem_cons (by omega : k < l.length), List.set_cons_zero, List.append_assoc]
        rfl
      have e2 : putRow (Value.int .i64) w g 0 (d.take (k + 1) ++ l.drop (k + 1)).toArray = (putRow (Value.int .i64) w g 0 (d.take k ++ l.drop k).toArray).setCell ⟨g, (k : Int).toNat, none⟩ (.int .i64 d[k]) := by
        have := putRow_set (Value.int .i64) w g 0 (d.take k ++ l.drop k).toArray k d[k] (by simp; omega)
        rw [Nat.zero_add] at this
        rw [Int.toNat_natCast, this, ← e]
        simp
      rw [e2]
      have hp := Kd.R_putg (enc := Value.int .i64) (h1 := fun _ => rfl) i1 (k : Int) d[k]
      refine ⟨?_, below_set i2 hg, i3.setCell (.inl hP) _⟩
      have := hp.1
      rw [show ((k : Int)).toNat = k from Int.toNat_natCast k, e] at this
      exact this
  have := key l.length (Nat.le_refl _)
  rw [List.drop_of_length_le (Nat.le_refl _), List.append_nil, List.take_of_length_le (by omega)] at this
  exact this

set_option maxHeartbeats 2000000 in
theorem ins0 (A : Option Addr) (c : Nat) (F : Value) (w : World) : Calls Try.prog 138 #[.slice A 0 c, .int .i64 0, .int .i64 0, F] w fun e w' => e = .returned (.tuple #[]) ∧ ∃ n, w' = w.drewN n := by
  go_enter Try.func138, Try.ntmps138
  go_wp2
  refine wp_loop_rounds 1 ?_
  rw [rounds_succ]
  go_wp2
  go_end0
  exact ⟨rfl, 0, rfl⟩
set_option maxHeartbeats 2000000 in
theorem pdq0 (A : Option Addr) (c : Nat) (lim : Int) (F : Value) (w : World) : Calls Try.prog 125 #[.slice A 0 c, .int .i64 0, .int .i64 0, .int .i64 lim, F] w fun e w' => e = .returned (.tuple #[]) ∧ ∃ n, w' = w.drewN n := by
  have hi := ins0 A c F w
  go_enter Try.func125, Try.ntmps125
  go_wp2
  refine wp_loop_rounds 1 ?_
  rw [rounds_succ]
  go_wp2_with (go_at_call 138; refine hi.mono ?_; rintro e w' ⟨rfl, n, rfl⟩)
  (try simp only [Exit.inBlock, Exit.then]); refine bodyPost_ret (results_none rfl _ _ _) rfl ?_
  exact ⟨rfl, n, rfl⟩
set_option maxHeartbeats 2000000 in
theorem sort0 (A : Option Addr) (c : Nat) (F : Value) (w : World) : Calls Try.prog 91 #[.slice A 0 c, F] w fun e w' => e = .returned (.tuple #[]) ∧ ∃ n, w' = w.drewN n := by
  have hp := fun lim => pdq0 A c lim F w
  have hl := hlen12 0 w (by omega)
  change Calls Try.prog 126 _ _ _ at hl
  go_enter Try.func91, Try.ntmps91
  go_wp2_with (first | (go_at_call 126; refine hl.mono ?_; rintro e w' ⟨⟨l, rfl⟩, rfl⟩) | (go_at_call 125; refine (hp _).mono ?_; rintro e w' ⟨rfl, n, rfl⟩))
  go_end0
  exact ⟨rfl, n, rfl⟩

theorem kept_sortWorld {α : Type} [Inhabited α] (enc : α → Value) (w : World) (g off m : Nat) (dk : Array α) (os : Array Obj) (P0 : Nat → Prop) (hP : P0 g) : Kept w (sortWorld enc w g off m dk os) P0 := by
  refine ⟨?_, fun i hi hn => ?_⟩
  · simp [sortWorld, grow, putRow, mapBlock, Sort.ahead]
  · have hne : g ≠ i := fun e => hn (e ▸ hP)
    simp only [sortWorld, grow, putRow, mapBlock, Sort.ahead]
    rw [Array.getElem?_append_left (by simpa using hi), Array.getElem?_modify, if_neg hne]

set_option maxHeartbeats 1000000 in
/-- A row of ints of the call's own is sorted in place, by a literal that only reads. -/
theorem sort_int (p : Int → Prop) (cf : Int → Int → Int) (hS : SWO (fun x y : {x : Int // p x} => decide (cf x.1 y.1 < 0))) (g : Nat) (cb : Array Value) (P0 : Nat → Prop) (u : Value) (l : List Int) (w0 w : World) (hB : Below w0.heap.size w0 w)
    (ho : Kd.R (Kd.int .i64) 3 w w0.heap.size P0 u l) (h12 : l.length ≤ 12) (hp : ∀ x ∈ l, p x)
    (eg : ∀ args w, (callFunc g args).run Try.prog w = .ok (.enter g args) w)
    (hcmp : ∀ W, Kept w W P0 → ∀ x y, p x → p y → Calls Try.prog g (#[.int .i64 x, .int .i64 y] ++ cb) W fun e w' => e = .returned (.int .i64 (cf x y)) ∧ ∃ q, w' = W.drewN q) :
    Calls Try.prog 91 #[u, .func (.func g) #[] cb] w fun e w' => e = .returned (.tuple #[]) ∧ ∃ l' : List Int, l'.Perm l ∧ l'.Pairwise (fun x y => ¬ cf y x < 0) ∧
      Kd.R (Kd.int .i64) 3 w' w0.heap.size P0 u l' ∧ Below w0.heap.size w0 w' ∧ Kept w w' P0 := by
  by_cases hl : 0 < l.length
  · obtain ⟨gg, cap, rfl, hg, hgl, _⟩ := Kd.R_form ho hl
    have hP : P0 gg := ho.1 gg (by simp [Value.ownBlock])
    obtain ⟨x0, hx0⟩ : ∃ x, x ∈ l := by
      cases l with
      | nil => simp at hl
      | cons x xs => exact ⟨x, by simp⟩
    haveI : Inhabited {x : Int // p x} := ⟨⟨x0, hp x0 hx0⟩⟩
    let da : List {x : Int // p x} := l.pmap Subtype.mk hp
    have hda : da.map (·.1) = l := by simp [da, List.map_pmap]
    have hdl : da.length = l.length := by simp [da]
    have hH : Holds (fun x : {x : Int // p x} => Value.int .i64 x.1) w gg 0 da.toArray := by
      intro j hj
      have hj0 : j < da.length := by simpa using hj
      have hj' : j < l.length := by omega
      obtain ⟨h1, h2⟩ := Kd.R_celln (enc := Value.int .i64) (h1 := fun _ => rfl) (0 : Int) ho (j : Int) (by omega) (by omega)
      simp only [Int.toNat_natCast] at h1 h2
      rw [Nat.zero_add]
      refine ⟨h1.trans ?_, h2⟩
      congr 2
      rw [getElem!_pos da.toArray j hj]
      simp [rdOf, hj', List.getD_eq_getElem?_getD, da]
    have hc := Any.slices_SortFunc_small_sorted sortLaid (fun x : {x : Int // p x} => Value.int .i64 x.1) (fun _ => rfl) (fun x y => cf x.1 y.1) hS g cb gg 0 cap da.toArray w eg
      (fun m os dk hdk x y => hcmp _ (kept_sortWorld _ w gg 0 m dk os P0 hP) x.1 y.1 x.2 y.2) hH (by simpa [hdl] using h12) hlen12
    change Calls Try.prog 91 _ _ _ at hc
    have hsz : da.toArray.size = l.length := by simp [hdl]
    rw [hsz] at hc
    refine hc.mono ?_
    rintro e w' ⟨rfl, d', n, hperm, hsort, rfl⟩
    have hd' : d'.size = l.length := hperm.1.trans hsz
    have ex : ∀ d : Array {x : Int // p x}, d.size = l.length → d.extract 0 l.length = d := fun d h => by rw [← h]; simp
    have hpl : (d'.toList.map (·.1)).Perm l := by
      have := hperm.2.2
      rw [ex d' hd', ex _ hsz] at this
      have := this.map (·.1)
      rw [hda] at this
      exact this
    have hput : putRow (fun x : {x : Int // p x} => Value.int .i64 x.1) w gg 0 d' = putRow (Value.int .i64) w gg 0 (d'.toList.map (·.1)).toArray := by
      unfold putRow
      refine mapBlock_congr _ _ _ _ fun c e fr hcx => ?_
      unfold putCells
      congr 1
      funext k x
      have hs : (d'.toList.map (·.1)).toArray.size = d'.size := by simp
      by_cases hk : 0 ≤ k ∧ k < 0 + d'.size
      · rw [if_pos hk, if_pos (by rw [hs]; exact hk), getElem!_pos _ _ (by omega), getElem!_pos _ _ (by rw [hs]; omega)]
        simp
      · rw [if_neg hk, if_neg (by rw [hs]; exact hk)]
    obtain ⟨r1, r2, r3⟩ := put_row 3 hB ho hg hP (d'.toList.map (·.1)) (by simp [hd'])
    refine ⟨rfl, d'.toList.map (·.1), hpl, ?_, ?_, ?_, ?_⟩
    · rw [List.pairwise_map, List.pairwise_iff_getElem]
      intro i j hi hj hij
      have := hsort i j (Nat.zero_le _) hij (by simpa [hd'] using hj)
      rw [getElem!_pos d' j (by simpa using hj), getElem!_pos d' i (by simpa using hi)] at this
      simpa [ltOf] using this
    · rw [hput]; exact Kd.R_drewN r1 _
    · rw [hput]; exact pw_below_drewN r2 _
    · rw [hput]; exact r3.drewN _
  · have h0 : l = [] := List.eq_nil_of_length_eq_zero (by omega)
    subst h0
    obtain ⟨A, c, rfl⟩ := Kd.R_slice ho
    refine (sort0 A c _ w).mono ?_
    rintro e w' ⟨rfl, n, rfl⟩
    exact ⟨rfl, [], List.Perm.refl _, List.Pairwise.nil, Kd.R_drewN ho _, pw_below_drewN hB _, (Kept.refl _ _).drewN _⟩

theorem uniq_sorted (key : Int → Int) : ∀ (a b : List Int), a.Perm b → a.Pairwise (fun x y => key x < key y) → b.Pairwise (fun x y => key x < key y) → a = b := by
  intro a
  induction a with
  | nil => intro b h _ _; exact (List.nil_perm.1 h).symm
  | cons x xs ih =>
    intro b h ha hb
    cases b with
    | nil => exact absurd (List.perm_nil.1 h) (by simp)
    | cons y ys =>
      have hx : x ∈ y :: ys := h.subset (by simp)
      have hy : y ∈ x :: xs := h.symm.subset (by simp)
      rw [List.pairwise_cons] at ha hb
      have e : x = y := by
        rcases List.mem_cons.1 hx with e | hx
        · exact e
        · rcases List.mem_cons.1 hy with e | hy
          · exact e.symm
          · have h1 := hb.1 x hx
            have h2 := ha.1 y hy
            omega
      subst e
      rw [ih ys ((List.perm_cons x).1 h) ha.2 hb.2]
theorem buckets_eq (key : Int → Int) (l l' : List Int) (hk : ∀ x ∈ l, 0 ≤ key x ∧ key x ≤ 3) (hn : (l.map key).Nodup) (hp : l'.Perm l) (hs : l'.Pairwise (fun x y => ¬ key y < key x)) :
    l' = l.filter (fun x => decide (key x = 0)) ++ (l.filter (fun x => decide (key x = 1)) ++ (l.filter (fun x => decide (key x = 2)) ++ l.filter (fun x => decide (key x = 3)))) := by
  have hne : l.Pairwise (fun x y => key x ≠ key y) := List.pairwise_map.1 hn
  have hne' : l'.Pairwise (fun x y => key x ≠ key y) := (hp.pairwise_iff (fun {x y} h => h.symm)).2 hne
  have hlt : l'.Pairwise (fun x y => key x < key y) := by
    refine (hs.and hne').imp ?_
    rintro x y ⟨h1, h2⟩
    omega
  have hb : ∀ d : Int, (l.filter (fun x => decide (key x = d))).Pairwise (fun x y => key x < key y) := fun d => by
    refine List.Pairwise.imp_of_mem ?_ (hne.filter _)
    intro x y hx hy h
    rw [List.mem_filter, decide_eq_true_eq] at hx hy
    exact absurd (hx.2.trans hy.2.symm) h
  have hm : ∀ (d : Int) x, x ∈ l.filter (fun x => decide (key x = d)) → key x = d := fun d x hx => by
    rw [List.mem_filter, decide_eq_true_eq] at hx; exact hx.2
  have hr : (l.filter (fun x => decide (key x = 0)) ++ (l.filter (fun x => decide (key x = 1)) ++ (l.filter (fun x => decide (key x = 2)) ++ l.filter (fun x => decide (key x = 3))))).Pairwise (fun x y => key x < key y) := by
    refine List.pairwise_append.2 ⟨hb 0, List.pairwise_append.2 ⟨hb 1, List.pairwise_append.2 ⟨hb 2, hb 3, ?_⟩, ?_⟩, ?_⟩
    · intro x hx y hy
      have := hm 2 x hx; have := hm 3 y hy; omega
    · intro x hx y hy
      have := hm 1 x hx
      rcases List.mem_append.1 hy with hy | hy
      · have := hm 2 y hy; omega
      · have := hm 3 y hy; omega
    · intro x hx y hy
      have := hm 0 x hx
      rcases List.mem_append.1 hy with hy | hy
      · have := hm 1 y hy; omega
      · rcases List.mem_append.1 hy with hy | hy
        · have := hm 2 y hy; omega
        · have := hm 3 y hy; omega
  have nd : ∀ a : List Int, a.Pairwise (fun x y => key x < key y) → a.Nodup := fun a h => h.imp (fun {x y} h e => by subst e; omega)
  refine uniq_sorted key _ _ ?_ hlt hr
  refine hp.trans ((List.perm_ext_iff_of_nodup ((hp.nodup_iff).1 (nd _ hlt)) (nd _ hr)).2 fun x => ?_)
  simp only [List.mem_append, List.mem_filter, decide_eq_true_eq]
  constructor
  · intro hx
    have := hk x hx
    have : key x = 0 ∨ key x = 1 ∨ key x = 2 ∨ key x = 3 := by omega
    rcases this with h | h | h | h
    · exact .inl ⟨hx, h⟩
    · exact .inr (.inl ⟨hx, h⟩)
    · exact .inr (.inr (.inl ⟨hx, h⟩))
    · exact .inr (.inr (.inr ⟨hx, h⟩))
  · rintro (h | h | h | h) <;> exact h.1
end Go.Proofs.Ytbbppknnkghkjaa.Fns
