/- Of every code: a capability put before the drawn ones is found first, and dropping it gives the chain back. -/
import Derived.Test.YtgnadhokljjmnaaPFnCapsx4
import Derived.Test.YtgnadhokljjmnaaCom
namespace Go.Proofs.Ytgnadhokljjmnaa.Pure
open Go.RowKit Go.Proofs.Ytgnadhokljjmnaa.PFnCaps Go.Proofs.YtgnadhokljjmnaaW.PrintWords Go.Proofs.YtgnadhokljjmnaaW.PrintLast Go.Proofs.YtgnadhokljjmnaaW.PrintMore Go.Proofs.Ytgnadhokljjmnaa.Com
set_option linter.unusedVariables false
set_option linter.unusedSimpArgs false

theorem within_eq (a b c : Int) : impl_within.f a b c = some (decide (b ≤ a ∧ a ≤ c)) := by
  unfold impl_within.f; by_cases h : a ≥ b <;> simp [h]

theorem l01In_eq (a b c : Int) : spec_l01In.f a b c = some (decide (b ≤ a ∧ a ≤ c)) := by
  unfold spec_l01In.f; by_cases h : a ≥ b <;> simp [h]

theorem rd_mem (l : List Int) (p : Int) (h0 : 0 ≤ p) (h1 : p < (l.length : Int)) : rd l p ∈ l := by
  obtain ⟨m, rfl⟩ : ∃ m : Nat, p = m := ⟨p.toNat, by omega⟩
  rw [rd_nat _ _ (by omega)]; exact List.getElem_mem _

def reg_ (l : List Int) : Prop := l.length = 64 ∧ ∀ x ∈ l, 0 ≤ x ∧ x ≤ 65535
instance (l : List Int) : Decidable (reg_ l) := by unfold reg_; infer_instance
theorem sreg_eq (k : Nat) (l : List Int) (hk : 64 < k) : spec_RegistersOk.f k l = some (decide (reg_ l)) := by
  unfold spec_RegistersOk.f
  by_cases h64 : l.length = 64
  · rw [if_pos (by omega)]
    have h := scan_loop (fun k (_ : Unit) i => spec_l04Words.l0 k l i) l (fun _ x => if 0 ≤ x ∧ x ≤ 65535 then Sum.inl () else Sum.inr false) (fun _ => true)
      (fun k s i h s' e => by
        have hx : 0 ≤ l[i] ∧ l[i] ≤ 65535 := by
          by_cases hx : 0 ≤ l[i] ∧ l[i] ≤ 65535
          · exact hx
          · simp [hx] at e
        simp only [spec_l04Words.l0]
        rw [if_pos (by omega), if_pos (by omega), l01In_eq, Option.bind_some, rd_nat _ _ h, if_pos (by simp [hx]), wr ((i : Int) + 1) (by omega) (by omega)]
        rfl)
      (fun k s i h r e => by
        have hx : ¬ (0 ≤ l[i] ∧ l[i] ≤ 65535) := by
          intro hx; simp [hx] at e
        rw [if_neg hx] at e
        injection e with e
        subst e
        simp only [spec_l04Words.l0]
        rw [if_pos (by omega), if_pos (by omega), l01In_eq, Option.bind_some, rd_nat _ _ h, if_neg (by simp only [decide_eq_true_eq]; exact hx)])
      (fun k s => by
        simp only [spec_l04Words.l0]
        rw [if_neg (by omega)]) l.length k () 0 (by omega) (by omega)
    have e : ∀ xs : List Int, runL (fun _ x => if 0 ≤ x ∧ x ≤ 65535 then Sum.inl () else Sum.inr false) (fun _ => true) () xs = decide (∀ x ∈ xs, 0 ≤ x ∧ x ≤ 65535) := by
      intro xs
      induction xs with
      | nil => simp [runL]
      | cons x xs ih =>
        unfold runL
        by_cases hx : 0 ≤ x ∧ x ≤ 65535
        · rw [if_pos hx]; simp only [ih]; simp [hx]
        · rw [if_neg hx]; simp only [List.mem_cons, forall_eq_or_imp, hx, false_and, decide_false]
    rw [e] at h
    have h' : spec_l04Words.f k l = some (decide (∀ x ∈ l, 0 ≤ x ∧ x ≤ 65535)) := h
    rw [h']
    simp only [Option.bind_some]
    congr 1
    rw [Bool.eq_iff_iff, decide_eq_true_eq, decide_eq_true_eq]
    exact ⟨fun h => ⟨h64, h⟩, fun h => h.2⟩
  · rw [if_neg (by omega)]
    congr 1; symm; rw [decide_eq_false_iff_not]; exact fun h => h64 h.1
theorem ireg_eq (l : List Int) : impl_RegistersOk.f l = some (decide (reg_ l)) := by
  have hv : ∀ x, (impl_RegistersOk_1.f x).getD false = !decide (0 ≤ x ∧ x ≤ 65535) := by
    intro x; unfold impl_RegistersOk_1.f impl_isWord.f; rw [within_eq]; rfl
  have hany : slices_ContainsFunc_int_int_impl_RegistersOk_1.f l = some (!decide (∀ x ∈ l, 0 ≤ x ∧ x ≤ 65535)) := by
    unfold slices_ContainsFunc_int_int_impl_RegistersOk_1.f
    congr 1
    simp only [hv]
    rw [Bool.eq_iff_iff, List.any_eq_true, Bool.not_eq_true', decide_eq_false_iff_not]
    simp only [Bool.not_eq_true', decide_eq_false_iff_not, Classical.not_forall, exists_prop]
  unfold impl_RegistersOk.f
  rw [hany]
  by_cases h64 : l.length = 64
  · rw [if_pos (by omega)]
    simp only [Option.bind_some, Bool.not_not]
    congr 1
    rw [Bool.eq_iff_iff, decide_eq_true_eq, decide_eq_true_eq]
    exact ⟨fun h => ⟨h64, h⟩, fun h => h.2⟩
  · rw [if_neg (by omega)]
    congr 1; symm; rw [decide_eq_false_iff_not]; exact fun h => h64 h.1

theorem has_eq (k : Nat) (l : List Int) (a : Int) (hl : l.length ≤ 1048576) (hk : l.length < k) : spec_l19Has.f k l a = some (decide (a ∈ l)) := by
  have h := scan_loop (fun k (_ : Unit) i => spec_l19Has.l0 k l a i) l (fun _ x => if x = a then Sum.inr true else Sum.inl ()) (fun _ => false)
    (fun k s i h s' e => by
      have hx : ¬ l[i] = a := by intro hx; simp [hx] at e
      simp only [spec_l19Has.l0]
      rw [if_pos (by omega), if_pos (by omega), rd_nat _ _ h, if_neg hx, wr ((i : Int) + 1) (by omega) (by omega)]
      rfl)
    (fun k s i h r e => by
      have hx : l[i] = a := by
        by_cases hx : l[i] = a
        · exact hx
        · simp [hx] at e
      rw [if_pos hx] at e
      injection e with e
      subst e
      simp only [spec_l19Has.l0]
      rw [if_pos (by omega), if_pos (by omega), rd_nat _ _ h, if_pos hx])
    (fun k s => by
      simp only [spec_l19Has.l0]
      rw [if_neg (by omega)]) l.length k () 0 (by omega) hk
  have e : ∀ xs : List Int, runL (fun _ x => if x = a then Sum.inr true else Sum.inl ()) (fun _ => false) () xs = decide (a ∈ xs) := by
    intro xs
    induction xs with
    | nil => simp [runL]
    | cons x xs ih =>
      unfold runL
      by_cases hx : x = a
      · rw [if_pos hx]; simp [hx]
      · rw [if_neg hx]; simp only [ih]; simp [show ¬ a = x from fun h => hx h.symm]
  rw [e] at h
  exact h
/-- Where an element first stands. -/
def ix_ (a : Int) : Nat → List Int → Int
  | _, [] => -1
  | i, x :: xs => if a = x then i else ix_ a (i + 1) xs
theorem ix_spec (a : Int) : ∀ (xs : List Int) (i : Nat), (a ∈ xs → ∃ j : Nat, ix_ a i xs = ((i + j : Nat) : Int) ∧ xs[j]? = some a) ∧ (a ∉ xs → ix_ a i xs = -1) := by
  intro xs
  induction xs with
  | nil => intro i; exact ⟨fun h => by simp at h, fun _ => rfl⟩
  | cons x xs ih =>
    intro i
    unfold ix_
    by_cases hx : a = x
    · rw [if_pos hx]
      exact ⟨fun _ => ⟨0, by simp, by simp [hx]⟩, fun h => absurd (by simp [hx]) h⟩
    · rw [if_neg hx]
      refine ⟨fun h => ?_, fun h => (ih (i + 1)).2 (fun h2 => h (by simp [h2]))⟩
      obtain ⟨j, e1, e2⟩ := (ih (i + 1)).1 (by simpa [hx] using h)
      exact ⟨j + 1, by rw [e1]; congr 1; omega, by simpa using e2⟩
theorem index_eq (k : Nat) (l : List Int) (a : Int) (hl : l.length ≤ 1048576) (hk : l.length < k) : slices_Index_int_int.f k l a = some (ix_ a 0 l) := by
  have h : ∀ (d k i : Nat), i + d = l.length → d < k → slices_Index_int_int.l0 k l a (l.length : Int) (i : Int) = some (ix_ a i (l.drop i)) := by
    intro d
    induction d with
    | zero =>
      intro k i hi hk
      obtain ⟨k, rfl⟩ : ∃ m, k = m + 1 := ⟨k - 1, by omega⟩
      simp only [slices_Index_int_int.l0]
      rw [if_neg (by omega), List.drop_of_length_le (by omega)]; rfl
    | succ d ih =>
      intro k i hi hk
      obtain ⟨k, rfl⟩ : ∃ m, k = m + 1 := ⟨k - 1, by omega⟩
      simp only [slices_Index_int_int.l0]
      rw [if_pos (by omega), if_pos (by omega), if_pos (by omega), rd_nat _ _ (by omega), List.drop_eq_getElem_cons (by omega), wr ((i : Int) + 1) (by omega) (by omega)]
      unfold ix_
      by_cases hx : a = l[i]'(by omega)
      · rw [if_pos hx, if_pos hx]
      · rw [if_neg hx, if_neg hx]; exact ih k (i + 1) (by omega) (by omega)
  have := h l.length k 0 (by omega) hk
  unfold slices_Index_int_int.f
  simpa using this
theorem cont_eq (k : Nat) (l : List Int) (a : Int) (hl : l.length ≤ 1048576) (hk : l.length < k) : slices_Contains_int_int.f k l a = some (decide (a ∈ l)) := by
  unfold slices_Contains_int_int.f
  rw [index_eq k l a hl hk]
  simp only [Option.bind_some]
  congr 1
  rw [Bool.eq_iff_iff, decide_eq_true_eq, decide_eq_true_eq]
  by_cases h : a ∈ l
  · obtain ⟨j, e, _⟩ := (ix_spec a l 0).1 h
    rw [e]; exact ⟨fun _ => h, fun _ => by omega⟩
  · rw [(ix_spec a l 0).2 h]; exact ⟨fun h2 => by omega, fun h2 => absurd h2 h⟩
theorem nodup_len : ∀ (n : Nat) (l : List Int), l.Nodup → (∀ x ∈ l, 0 ≤ x ∧ x < (n : Int)) → l.length ≤ n := by
  intro n
  induction n with
  | zero =>
    intro l _ h
    cases l with
    | nil => simp
    | cons x xs => have := h x (by simp); omega
  | succ n ih =>
    intro l hn h
    by_cases hx : (n : Int) ∈ l
    · have h1 := ih (l.erase (n : Int)) (hn.erase _) (fun x hx => by
        have h2 := (hn.mem_erase_iff).mp hx
        have := h x h2.2
        have := h2.1
        omega)
      rw [List.length_erase_of_mem hx] at h1
      omega
    · have := ih l hn (fun x hx2 => by
        have h2 := h x hx2
        have : x ≠ (n : Int) := fun e => hx (e ▸ hx2)
        omega)
      omega
/-- The chain of capabilities from x on. -/
def cap_ (r : List Int) : Nat → List Int → Int → List Int × Bool
  | 0, _, _ => ([], false)
  | d + 1, out, x => if x = 0 then (out, true) else if 8 ≤ x ∧ x ≤ 63 then (if x ∈ out then ([], false) else cap_ r d (out ++ [x]) (Int.tdiv (rd r x) 256)) else ([], false)
def caps_ (r : List Int) : List Int × Bool := if reg_ r then cap_ r 64 [] (rd r 4) else ([], false)
theorem cap_in (r : List Int) : ∀ d out x, out.Nodup → (∀ y ∈ out, 8 ≤ y ∧ y ≤ 63) → (cap_ r d out x).1.Nodup ∧ (∀ y ∈ (cap_ r d out x).1, 8 ≤ y ∧ y ≤ 63) := by
  intro d
  induction d with
  | zero => intro out x _ _; simp [cap_]
  | succ d ih =>
    intro out x h1 h2
    unfold cap_
    by_cases hx : x = 0
    · rw [if_pos hx]; exact ⟨h1, h2⟩
    · rw [if_neg hx]
      by_cases hp : 8 ≤ x ∧ x ≤ 63
      · rw [if_pos hp]
        by_cases hm : x ∈ out
        · rw [if_pos hm]; simp
        · rw [if_neg hm]
          refine ih _ _ (List.nodup_append.mpr ⟨h1, by simp, ?_⟩) ?_
          · intro a ha b hb
            rintro rfl
            simp at hb; exact hm (hb ▸ ha)
          · intro y hy
            rcases List.mem_append.mp hy with hy | hy
            · exact h2 y hy
            · simp at hy; omega
      · rw [if_neg hp]; simp
theorem caps_in (r : List Int) : (caps_ r).1.Nodup ∧ (∀ y ∈ (caps_ r).1, 8 ≤ y ∧ y ≤ 63) := by
  unfold caps_
  split
  · exact cap_in r _ _ _ (by simp) (by simp)
  · simp
theorem nd_len (l : List Int) (h1 : l.Nodup) (h2 : ∀ y ∈ l, 8 ≤ y ∧ y ≤ 63) : l.length ≤ 64 :=
  nodup_len 64 l h1 (fun x hx => by have := h2 x hx; omega)
theorem caps_len (r : List Int) : (caps_ r).1.length ≤ 64 := nd_len _ (caps_in r).1 (caps_in r).2
theorem td_ (x : Int) (h0 : 0 ≤ x) (h1 : x ≤ 65535) : 0 ≤ Int.tdiv x 256 ∧ Int.tdiv x 256 ≤ 255 := by
  rw [Int.tdiv_eq_ediv_of_nonneg h0]; omega
theorem nd56 (l : List Int) (h1 : l.Nodup) (h2 : ∀ y ∈ l, 8 ≤ y ∧ y ≤ 63) : l.length ≤ 56 := by
  have hm : (l.map (fun y => y - 8)).Nodup := by
    have : ∀ l : List Int, l.Nodup → (l.map (fun y => y - 8)).Nodup := by
      intro l
      induction l with
      | nil => intro _; simp
      | cons x xs ih =>
        intro h
        rw [List.nodup_cons] at h
        rw [List.map_cons, List.nodup_cons]
        refine ⟨fun hm => ?_, ih h.2⟩
        obtain ⟨y, hy, e⟩ := List.mem_map.mp hm
        have : y = x := by omega
        exact h.1 (this ▸ hy)
    exact this l h1
  have := nodup_len 56 _ hm (fun x hx => by
    obtain ⟨y, hy, rfl⟩ := List.mem_map.mp hx
    have := h2 y hy; omega)
  simpa using this
theorem scl_eq (r : List Int) (hr : reg_ r) : ∀ (d k : Nat) (out : List Int) (x : Int), 64 ≤ d + out.length → out.Nodup → (∀ y ∈ out, 8 ≤ y ∧ y ≤ 63) → d + 64 < k → spec_CapsOf.l0 k r out x = some (cap_ r d out x) := by
  intro d
  induction d with
  | zero => intro k out x h h1 h2 hk; have := nd56 out h1 h2; omega
  | succ d ih =>
    intro k out x h h1 h2 hk
    obtain ⟨k, rfl⟩ : ∃ m, k = m + 1 := ⟨k - 1, by omega⟩
    have hl := nd56 out h1 h2
    simp only [spec_CapsOf.l0, cap_]
    by_cases hx : x = 0
    · rw [if_pos hx, if_pos hx]
    · rw [if_neg hx, if_neg hx, l01In_eq]
      simp only [Option.bind_some, decide_eq_true_eq]
      by_cases hp : 8 ≤ x ∧ x ≤ 63
      · rw [if_pos hp, if_pos hp, has_eq k out x (by omega) (by omega)]
        simp only [Option.bind_some, decide_eq_true_eq]
        by_cases hm : x ∈ out
        · rw [if_pos hm, if_pos hm]
        · have hr0 := hr.1
          have hv := hr.2 _ (rd_mem r x (by omega) (by omega))
          have ht := td_ _ hv.1 hv.2
          rw [if_neg hm, if_neg hm, if_pos (by omega), if_pos (by omega), if_pos (by omega), wr _ (by omega) (by omega)]
          have hi := cap_in r 0 (out ++ [x])
          refine ih k _ _ (by simp; omega) (List.nodup_append.mpr ⟨h1, by simp, ?_⟩) ?_ (by omega)
          · intro a ha b hb
            rintro rfl
            simp at hb; exact hm (hb ▸ ha)
          · intro y hy
            rcases List.mem_append.mp hy with hy | hy
            · exact h2 y hy
            · simp at hy; omega
      · rw [if_neg hp, if_neg hp]
theorem icl_eq (r : List Int) (hr : reg_ r) : ∀ (d k : Nat) (out : List Int) (x : Int), 64 ≤ d + out.length → out.Nodup → (∀ y ∈ out, 8 ≤ y ∧ y ≤ 63) → d + 64 < k → impl_CapsOf.l0 k r out x = some (cap_ r d out x) := by
  intro d
  induction d with
  | zero => intro k out x h h1 h2 hk; have := nd56 out h1 h2; omega
  | succ d ih =>
    intro k out x h h1 h2 hk
    obtain ⟨k, rfl⟩ : ∃ m, k = m + 1 := ⟨k - 1, by omega⟩
    have hl := nd56 out h1 h2
    simp only [impl_CapsOf.l0, cap_]
    by_cases hx : x = 0
    · rw [if_pos hx, if_pos hx]
    · rw [if_neg hx, if_neg hx]
      unfold impl_isPlace.f
      rw [within_eq]
      simp only [Option.bind_some, decide_eq_true_eq]
      by_cases hp : 8 ≤ x ∧ x ≤ 63
      · rw [if_pos hp, if_pos hp, cont_eq k out x (by omega) (by omega)]
        simp only [Option.bind_some, decide_eq_true_eq]
        by_cases hm : x ∈ out
        · rw [if_pos hm, if_pos hm]
        · have hr0 := hr.1
          have hv := hr.2 _ (rd_mem r x (by omega) (by omega))
          have ht := td_ _ hv.1 hv.2
          rw [if_neg hm, if_neg hm, if_pos (by omega), if_pos (by omega), if_pos (by omega), wr _ (by omega) (by omega)]
          refine ih k _ _ (by simp; omega) (List.nodup_append.mpr ⟨h1, by simp, ?_⟩) ?_ (by omega)
          · intro a ha b hb
            rintro rfl
            simp at hb; exact hm (hb ▸ ha)
          · intro y hy
            rcases List.mem_append.mp hy with hy | hy
            · exact h2 y hy
            · simp at hy; omega
      · rw [if_neg hp, if_neg hp]
theorem scaps_eq (k : Nat) (r : List Int) (hk : 128 < k) : spec_CapsOf.f k r = some (caps_ r) := by
  unfold spec_CapsOf.f caps_
  simp only [Option.bind_some]
  rw [sreg_eq k r (by omega)]
  simp only [Option.bind_some, decide_eq_true_eq]
  by_cases h : reg_ r
  · have := h.1
    rw [if_pos h, if_pos h, if_pos (by omega)]
    exact scl_eq r h 64 k [] _ (by simp) (by simp) (by simp) (by omega)
  · rw [if_neg h, if_neg h]
theorem icaps_eq (k : Nat) (r : List Int) (hk : 128 < k) : impl_CapsOf.f k r = some (caps_ r) := by
  unfold impl_CapsOf.f caps_
  rw [ireg_eq r]
  simp only [Option.bind_some, decide_eq_true_eq]
  by_cases h : reg_ r
  · have := h.1
    rw [if_pos h, if_pos h, if_pos (by omega)]
    exact icl_eq r h 64 k [] _ (by simp) (by simp) (by simp) (by omega)
  · rw [if_neg h, if_neg h]

theorem caps_true (r : List Int) (h : (caps_ r).2 = true) : reg_ r := by
  unfold caps_ at h
  by_cases hr : reg_ r
  · exact hr
  · rw [if_neg hr] at h; cases h
def ac_ (r : List Int) (p q : Int) : Prop := (caps_ r).2 = true ∧ (8 ≤ p ∧ p ≤ 63) ∧ p ∉ (caps_ r).1 ∧ (0 ≤ q ∧ q ≤ 255)
instance (r : List Int) (p q : Int) : Decidable (ac_ r p q) := by unfold ac_; infer_instance
/-- A capability put before the chain. -/
def add_ (r : List Int) (p q : Int) : List Int × Bool :=
  if ac_ r p q then ((r.set p.toNat (wrap64 (wrap64 (rd r 4 * 256) + q))).set 4 p, true) else (r, false)
theorem add_len (r : List Int) (p q : Int) : (add_ r p q).1.length = r.length := by unfold add_; split <;> simp

/-- l is the chain that starts at x. -/
def Ch (r : List Int) : List Int → Int → Prop
  | [], x => x = 0
  | y :: l, x => y = x ∧ (8 ≤ x ∧ x ≤ 63) ∧ Ch r l (Int.tdiv (rd r x) 256)
theorem Ch.in {r : List Int} : ∀ {l : List Int} {x : Int}, Ch r l x → ∀ y ∈ l, 8 ≤ y ∧ y ≤ 63 := by
  intro l
  induction l with
  | nil => intro x _ y hy; simp at hy
  | cons z l ih =>
    intro x h y hy
    obtain ⟨rfl, h1, h2⟩ := h
    rcases List.mem_cons.mp hy with rfl | hy
    · exact h1
    · exact ih h2 y hy
theorem cap_of_ch (r : List Int) : ∀ (l : List Int) (d : Nat) (out : List Int) (x : Int), Ch r l x → (out ++ l).Nodup → l.length < d → cap_ r d out x = (out ++ l, true) := by
  intro l
  induction l with
  | nil =>
    intro d out x h hn hd
    obtain ⟨d, rfl⟩ : ∃ m, d = m + 1 := ⟨d - 1, by omega⟩
    have h0 : x = 0 := h
    unfold cap_
    rw [if_pos h0, List.append_nil]
  | cons y l ih =>
    intro d out x h hn hd
    obtain ⟨d, rfl⟩ : ∃ m, d = m + 1 := ⟨d - 1, by omega⟩
    obtain ⟨rfl, h1, h2⟩ := h
    have hm : y ∉ out := by
      intro hy
      have := (List.nodup_append.mp hn).2.2 y hy y (by simp)
      exact this rfl
    unfold cap_
    rw [if_neg (by omega), if_pos h1, if_neg hm, ih d (out ++ [y]) _ h2 (by simpa using hn) (by simp at hd; omega)]
    simp
theorem ch_of_cap (r : List Int) : ∀ (d : Nat) (out : List Int) (x : Int), (cap_ r d out x).2 = true → ∃ l, (cap_ r d out x).1 = out ++ l ∧ Ch r l x := by
  intro d
  induction d with
  | zero => intro out x h; simp [cap_] at h
  | succ d ih =>
    intro out x h
    unfold cap_ at h ⊢
    by_cases hx : x = 0
    · rw [if_pos hx]; exact ⟨[], by simp, hx⟩
    · rw [if_neg hx] at h ⊢
      by_cases hp : 8 ≤ x ∧ x ≤ 63
      · rw [if_pos hp] at h ⊢
        by_cases hm : x ∈ out
        · rw [if_pos hm] at h; cases h
        · rw [if_neg hm] at h ⊢
          obtain ⟨l, e, hc⟩ := ih _ _ h
          exact ⟨x :: l, by rw [e]; simp, rfl, hp, hc⟩
      · rw [if_neg hp] at h; cases h
/-- A row of registers with the chain l. -/
def Has (r l : List Int) : Prop := reg_ r ∧ Ch r l (rd r 4) ∧ l.Nodup
theorem Has.caps {r l : List Int} (h : Has r l) : caps_ r = (l, true) := by
  obtain ⟨h1, h2, h3⟩ := h
  unfold caps_
  rw [if_pos h1, cap_of_ch r l 64 [] _ h2 (by simpa using h3) (by have := nd56 l h3 h2.in; omega)]
  rfl
theorem has_of_caps {r : List Int} (h : (caps_ r).2 = true) : Has r (caps_ r).1 := by
  have hr := caps_true r h
  have hn := (caps_in r).1
  unfold caps_ at h hn ⊢
  rw [if_pos hr] at h hn ⊢
  obtain ⟨l, e, hc⟩ := ch_of_cap r 64 [] _ h
  rw [List.nil_append] at e
  rw [e] at hn ⊢
  exact ⟨hr, hc, hn⟩
theorem Ch.eq {r r' : List Int} : ∀ {l : List Int} {x : Int}, (∀ y ∈ l, rd r' y = rd r y) → Ch r l x → Ch r' l x := by
  intro l
  induction l with
  | nil => intro x _ h; exact h
  | cons z l ih =>
    intro x he h
    obtain ⟨rfl, h1, h2⟩ := h
    refine ⟨rfl, h1, ?_⟩
    rw [he z (by simp)]
    exact ih (fun y hy => he y (by simp [hy])) h2
theorem rd_set_ne (r : List Int) (p y v : Int) (h0 : 0 ≤ p) (h1 : 0 ≤ y) (h : y ≠ p) : rd (r.set p.toNat v) y = rd r y := by
  unfold rd
  simp only [List.getD_eq_getElem?_getD]
  rw [List.getElem?_set_ne (by omega)]
theorem rd_set_eq (r : List Int) (p v : Int) (h0 : 0 ≤ p) (h1 : p < (r.length : Int)) : rd (r.set p.toNat v) p = v := by
  unfold rd
  simp only [List.getD_eq_getElem?_getD]
  rw [List.getElem?_set_self (by omega)]; rfl
theorem reg_set (r : List Int) (p v : Int) (hr : reg_ r) (h0 : 0 ≤ v) (h1 : v ≤ 65535) : reg_ (r.set p.toNat v) := by
  refine ⟨by simp [hr.1], fun x hx => ?_⟩
  rcases List.mem_or_eq_of_mem_set hx with hx | rfl
  · exact hr.2 x hx
  · exact ⟨h0, h1⟩
theorem Ch.head {r l : List Int} {x : Int} (h : Ch r l x) : 0 ≤ x ∧ x ≤ 63 := by
  cases l with
  | nil => have : x = 0 := h; omega
  | cons y l => have := h.2.1; omega
theorem tdm (x y : Int) (hx : 0 ≤ x) (hy0 : 0 ≤ y) (hy : y ≤ 255) : Int.tdiv (x * 256 + y) 256 = x ∧ Int.tmod (x * 256 + y) 256 = y := by
  rw [Int.tdiv_eq_ediv_of_nonneg (by omega), Int.tmod_eq_emod_of_nonneg (by omega)]; omega
/-- The chain behind an added capability. -/
theorem Has.add {r l : List Int} {p q : Int} (h : Has r l) (hp : 8 ≤ p ∧ p ≤ 63) (hn : p ∉ l) (hq : 0 ≤ q ∧ q ≤ 255) :
    add_ r p q = ((r.set p.toNat (rd r 4 * 256 + q)).set 4 p, true) ∧ Has (add_ r p q).1 (p :: l) ∧ (∀ y ∈ l, rd (add_ r p q).1 y = rd r y) ∧ rd (add_ r p q).1 p = rd r 4 * 256 + q := by
  obtain ⟨hr, hc, hd⟩ := h
  have h4 := hc.head
  have hcp := Has.caps ⟨hr, hc, hd⟩
  have e : add_ r p q = ((r.set p.toNat (rd r 4 * 256 + q)).set 4 p, true) := by
    unfold add_
    rw [if_pos (show ac_ r p q from ⟨by rw [hcp], hp, by rw [hcp]; exact hn, hq⟩), wr (rd r 4 * 256) (by omega) (by omega), wr _ (by omega) (by omega)]
  have hlen : ((r.set p.toNat (rd r 4 * 256 + q)).length : Int) = 64 := by have := hr.1; simp; omega
  have e4 : rd ((r.set p.toNat (rd r 4 * 256 + q)).set 4 p) 4 = p := rd_set_eq _ 4 p (by omega) (by omega)
  have ep : rd ((r.set p.toNat (rd r 4 * 256 + q)).set 4 p) p = rd r 4 * 256 + q :=
    (rd_set_ne _ 4 p p (by omega) (by omega) (by omega)).trans (rd_set_eq r p _ (by omega) (by have := hr.1; omega))
  have ey : ∀ y ∈ l, rd ((r.set p.toNat (rd r 4 * 256 + q)).set 4 p) y = rd r y := by
    intro y hy
    have h8 := hc.in y hy
    exact (rd_set_ne _ 4 y p (by omega) (by omega) (by omega)).trans (rd_set_ne r p y _ (by omega) (by omega) (fun e => hn (e ▸ hy)))
  rw [e]
  refine ⟨rfl, ⟨reg_set _ 4 p (reg_set r p _ hr (by omega) (by omega)) (by omega) (by omega), ?_, List.nodup_cons.mpr ⟨hn, hd⟩⟩, ey, ep⟩
  show Ch ((r.set p.toNat (rd r 4 * 256 + q)).set 4 p) (p :: l) (rd ((r.set p.toNat (rd r 4 * 256 + q)).set 4 p) 4)
  rw [e4]
  refine ⟨rfl, hp, ?_⟩
  rw [ep, (tdm (rd r 4) q (by omega) hq.1 hq.2).1]
  exact hc.eq ey
/-- The registers without a capability: the one before it, or the first register, leads past it. -/
def dv_ (r l : List Int) (a : Int) : List Int :=
  if rd r 4 = a then r.set 4 (Int.tdiv (rd r a) 256) else r.set (rd l (ix_ a 0 l - 1)).toNat (Int.tdiv (rd r a) 256 * 256 + Int.tmod (rd r (rd l (ix_ a 0 l - 1))) 256)
def drop_ (r : List Int) (a : Int) : List Int × Bool :=
  if (caps_ r).2 = true ∧ a ∈ (caps_ r).1 then (dv_ r (caps_ r).1 a, true) else (r, false)
theorem drop_len (r : List Int) (a : Int) : (drop_ r a).1.length = r.length := by
  unfold drop_ dv_; split
  · split <;> simp
  · rfl
theorem ch_first {r l : List Int} {x a : Int} (h : Ch r l x) (ha : a ∈ l) (hn : l.Nodup) : (ix_ a 0 l = 0 ↔ x = a) ∧ 0 ≤ ix_ a 0 l ∧ ix_ a 0 l < (l.length : Int) ∧ rd l (ix_ a 0 l) = a := by
  obtain ⟨j, e, hj⟩ := (ix_spec a l 0).1 ha
  have hjl : j < l.length := by
    rcases Nat.lt_or_ge j l.length with h | h
    · exact h
    · rw [List.getElem?_eq_none h] at hj; cases hj
  have hja : l[j] = a := by rw [List.getElem?_eq_getElem hjl] at hj; injection hj
  rw [e, Nat.zero_add]
  refine ⟨?_, by omega, by omega, by rw [rd_nat _ _ hjl]; exact hja⟩
  cases l with
  | nil => simp at ha
  | cons y l =>
    obtain ⟨rfl, _, _⟩ := h
    constructor
    · intro h0
      obtain rfl : j = 0 := by omega
      simpa using hja
    · rintro rfl
      by_cases h0 : j = 0
      · omega
      · exfalso
        obtain ⟨m, rfl⟩ : ∃ m, j = m + 1 := ⟨j - 1, by omega⟩
        simp only [List.getElem_cons_succ] at hja
        have := (List.nodup_cons.mp hn).1
        exact this (hja ▸ List.getElem_mem _)

theorem iadd_eq (k : Nat) (r : List Int) (p q : Int) (hl : r.length ≤ 1048576) (hk : 200 < k) : impl_AddCap.f k r p q = some (add_ r p q) := by
  unfold impl_AddCap.f add_ slices_Clone_int_int.f impl_isPlace.f impl_isByte.f
  rw [if_pos (by omega)]
  simp only [Option.bind_some, icaps_eq k r (by omega : 128 < k), within_eq, cont_eq k (caps_ r).1 p (by have := caps_len r; omega) (by have := caps_len r; omega), decide_eq_true_eq]
  by_cases h1 : (caps_ r).2 = true
  · rw [if_pos h1]
    have hr := (caps_true r h1).1
    by_cases h2 : 8 ≤ p ∧ p ≤ 63
    · rw [if_pos h2]
      by_cases h3 : p ∈ (caps_ r).1
      · rw [if_pos h3, if_neg (show ¬ ac_ r p q from fun h => h.2.2.1 h3)]
      · rw [if_neg h3]
        by_cases h4 : 0 ≤ q ∧ q ≤ 255
        · rw [if_pos h4, if_pos (show ac_ r p q from ⟨h1, h2, h3, h4⟩), if_pos (by omega), if_pos (by omega), if_pos (by omega), if_pos (by omega)]; rfl
        · rw [if_neg h4, if_neg (show ¬ ac_ r p q from fun h => h4 h.2.2.2)]
    · rw [if_neg h2, if_neg (show ¬ ac_ r p q from fun h => h2 h.2.1)]
  · rw [if_neg h1, if_neg (show ¬ ac_ r p q from fun h => h1 h.1)]

theorem idrop_eq (k : Nat) (r : List Int) (a : Int) (hl : r.length ≤ 1048576) (hk : 200 < k) : impl_DropCap.f k r a = some (drop_ r a) := by
  obtain ⟨k, rfl⟩ : ∃ m, k = m + 1 := ⟨k - 1, by omega⟩
  have hcl := caps_len r
  unfold impl_DropCap.f slices_Clone_int_int.f
  rw [if_pos (by omega)]
  simp only [Option.bind_some, icaps_eq (k + 1) r (by omega), index_eq (k + 1) (caps_ r).1 a (by omega) (by omega)]
  unfold drop_
  by_cases h : (caps_ r).2 = true
  · rw [if_pos h]
    simp only [impl_DropCap.j0]
    by_cases ha : a ∈ (caps_ r).1
    · obtain ⟨hr, hc, hn⟩ := has_of_caps h
      obtain ⟨f1, f2, f3, f4⟩ := ch_first hc ha hn
      have h8 := (caps_in r).2 a ha
      have h64 := hr.1
      have hv := hr.2 _ (rd_mem r a (by omega) (by omega))
      have ht := td_ _ hv.1 hv.2
      rw [if_neg (by simp; omega), if_pos (show (caps_ r).2 = true ∧ a ∈ (caps_ r).1 from ⟨h, ha⟩)]
      unfold dv_
      by_cases h0 : ix_ a 0 (caps_ r).1 = 0
      · rw [if_pos h0, if_pos (f1.mp h0), if_pos (by omega), if_pos (by omega), if_pos (by omega), wr _ (by omega) (by omega)]
        rfl
      · have hb := (caps_in r).2 _ (rd_mem (caps_ r).1 (ix_ a 0 (caps_ r).1 - 1) (by omega) (by omega))
        have hw := hr.2 _ (rd_mem r (rd (caps_ r).1 (ix_ a 0 (caps_ r).1 - 1)) (by omega) (by omega))
        have hm : 0 ≤ Int.tmod (rd r (rd (caps_ r).1 (ix_ a 0 (caps_ r).1 - 1))) 256 ∧ Int.tmod (rd r (rd (caps_ r).1 (ix_ a 0 (caps_ r).1 - 1))) 256 < 256 := ⟨Int.tmod_nonneg _ hw.1, Int.tmod_lt_of_pos _ (by omega)⟩
        rw [if_neg h0, if_neg (fun e => h0 (f1.mpr e)), wr (ix_ a 0 (caps_ r).1 - 1) (by omega) (by omega), if_pos (by omega), if_pos (by omega), if_pos (by omega), if_pos (by omega), if_pos (by omega), if_pos (by omega), if_pos (by omega), wr (Int.tdiv (rd r a) 256) (by omega) (by omega), wr (Int.tdiv (rd r a) 256 * 256) (by omega) (by omega), wr _ (by omega) (by omega)]
    · rw [(ix_spec a (caps_ r).1 0).2 ha, if_pos (by simp), if_neg (fun h => ha h.2)]
  · rw [if_neg h, if_neg (fun h2 => h h2.1)]
    simp only [impl_DropCap.j0]
    rw [if_pos trivial]

def fc_ (r : List Int) (a : Int) : Unit → Int → Unit ⊕ Int := fun _ x => if Int.tmod (rd r x) 256 = a then Sum.inr x else Sum.inl ()
/-- The first place of the chain whose kind is a, or -1. -/
def find_ (r : List Int) (a : Int) : Int := runL (fc_ r a) (fun _ => -1) () (caps_ r).1
theorem caps_reg (r : List Int) (h : ¬ reg_ r) : (caps_ r).1 = [] := by unfold caps_; rw [if_neg h]
theorem ifind_eq (k : Nat) (r : List Int) (a : Int) (hk : 200 < k) : impl_FindCap.f k r a = some (find_ r a) := by
  unfold impl_FindCap.f
  rw [icaps_eq k r (by omega)]
  simp only [Option.bind_some]
  have hc := caps_len r
  have hin := (caps_in r).2
  have hreg : ∀ i : Nat, (h : i < (caps_ r).1.length) → 0 ≤ (caps_ r).1[i] ∧ (caps_ r).1[i] < (r.length : Int) := by
    intro i h
    have hm := hin _ (List.getElem_mem h)
    by_cases hr : reg_ r
    · have := hr.1; omega
    · have := caps_reg r hr; rw [this] at h; simp at h
  have h := scan_loop (fun k (_ : Unit) i => impl_FindCap.l0 k r a (caps_ r).1 ((caps_ r).1.length : Int) i) (caps_ r).1 (fc_ r a) (fun _ => -1)
    (fun k s i h s' e => by
      have hx : ¬ Int.tmod (rd r (caps_ r).1[i]) 256 = a := by intro hx; simp [fc_, hx] at e
      have h3 := hreg i h
      simp only [impl_FindCap.l0]
      rw [if_pos (by omega), if_pos (by omega), if_pos (by omega), rd_nat _ _ h, if_pos h3.1, if_pos h3.2, if_neg hx, wr ((i : Int) + 1) (by omega) (by omega)]
      rfl)
    (fun k s i h v e => by
      have hx : Int.tmod (rd r (caps_ r).1[i]) 256 = a := by
        by_cases hx : Int.tmod (rd r (caps_ r).1[i]) 256 = a
        · exact hx
        · simp [fc_, hx] at e
      unfold fc_ at e
      rw [if_pos hx] at e
      injection e with e
      subst e
      have h3 := hreg i h
      simp only [impl_FindCap.l0]
      rw [if_pos (by omega), if_pos (by omega), if_pos (by omega), rd_nat _ _ h, if_pos h3.1, if_pos h3.2, if_pos hx])
    (fun k s => by
      simp only [impl_FindCap.l0]
      rw [if_neg (by omega)]) (caps_ r).1.length k () 0 (by omega) (by omega)
  exact h

/-- The lowest eight bits. -/
theorem and255 (x : Int) : 0 ≤ Go.bits .and .i64 x 255 ∧ Go.bits .and .i64 x 255 ≤ 255 := by
  have h1 : (BitVec.ofInt 64 x &&& BitVec.ofInt 64 255).toNat ≤ 255 := by
    rw [BitVec.toNat_and]
    exact Nat.le_trans Nat.and_le_right (by decide)
  have h2 : Go.bits .and .i64 x 255 = IntKind.i64.wrap ((BitVec.ofInt 64 x &&& BitVec.ofInt 64 255).toNat : Int) := rfl
  rw [h2, Go.IntKind.wrap_i64]
  omega
theorem byte_some (s : List Int) (i h : Int) (hs : s.length ≤ 1048576) (h0 : 0 ≤ i) (h1 : i ≤ s.length) :
    ∃ x i' h', spec_l01Byte.f s i h = some (x, i', h') ∧ 0 ≤ x ∧ x ≤ 255 ∧ 0 ≤ i' ∧ i' ≤ s.length := by
  unfold spec_l01Byte.f
  by_cases hlt : i < (s.length : Int)
  · rw [if_pos hlt, if_pos h0]
    refine ⟨_, _, _, rfl, (and255 _).1, (and255 _).2, ?_, ?_⟩ <;> rw [wr _ (by omega) (by omega)] <;> omega
  · rw [if_neg hlt]
    exact ⟨_, _, _, rfl, (and255 _).1, (and255 _).2, h0, h1⟩
theorem below_some (s : List Int) (i h n : Int) (hs : s.length ≤ 1048576) (h0 : 0 ≤ i) (h1 : i ≤ s.length) (hn : 0 < n) (hm : n ≤ 4294967296) :
    ∃ x i' h', spec_l01Below.f s i h n = some (x, i', h') ∧ 0 ≤ x ∧ x < n ∧ 0 ≤ i' ∧ i' ≤ s.length := by
  unfold spec_l01Below.f
  rw [if_neg (by omega)]
  by_cases hlt : n ≤ 256
  · rw [if_pos hlt]
    obtain ⟨x, i1, h1', e, x0, x1, i0, i2⟩ := byte_some s i h hs h0 h1
    rw [e]
    simp only [Option.bind_some]
    rw [if_neg (by omega)]
    refine ⟨_, _, _, rfl, ?_, ?_, i0, i2⟩
    · exact Int.tmod_nonneg _ x0
    · exact Int.tmod_lt_of_pos _ hn
  · rw [if_neg hlt]
    obtain ⟨x, i1, h1', e, x0, x1, i0, i2⟩ := byte_some s i h hs h0 h1
    obtain ⟨y, i3, h3', e3, y0, y1, i4, i5⟩ := byte_some s i1 h1' hs i0 i2
    obtain ⟨z, i6, h6', e6, z0, z1, i7, i8⟩ := byte_some s i3 h3' hs i4 i5
    obtain ⟨w, i9, h9', e9, w0, w1, i10, i11⟩ := byte_some s i6 h6' hs i7 i8
    simp only [e, e3, e6, e9, Option.bind_some]
    rw [if_neg (by omega)]
    refine ⟨_, _, _, rfl, ?_, ?_, i10, i11⟩
    · rw [wr (x * 16777216) (by omega) (by omega), wr (y * 65536) (by omega) (by omega), wr (z * 256) (by omega) (by omega), wr (x * 16777216 + y * 65536) (by omega) (by omega), wr (x * 16777216 + y * 65536 + z * 256) (by omega) (by omega), wr _ (by omega) (by omega)]
      exact Int.tmod_nonneg _ (by omega)
    · exact Int.tmod_lt_of_pos _ hn
theorem new_some (k : Nat) (s : List Int) (hs : s.length ≤ 1048576) (hk : 4000 < k) : ∃ h, spec_l01New.f k s = some (s, 0, h) := by
  have key : ∀ d k (h : Int) (i : Nat), i + d = 4000 → d < k → ∃ h', spec_l01New.l0 k s h (i : Int) = some (s, 0, h') := by
    intro d
    induction d with
    | zero =>
      intro k h i hi hk
      obtain ⟨k, rfl⟩ : ∃ m, k = m + 1 := ⟨k - 1, by omega⟩
      simp only [spec_l01New.l0]
      rw [if_neg (show ¬ ((i : Int) < 4000) by omega)]
      split <;> exact ⟨_, rfl⟩
    | succ d ih =>
      intro k h i hi hk
      obtain ⟨k, rfl⟩ : ∃ m, k = m + 1 := ⟨k - 1, by omega⟩
      simp only [spec_l01New.l0]
      by_cases hlt : (i : Int) < s.length
      · rw [if_pos hlt, if_pos (by omega), if_pos (by omega), wr ((i : Int) + 1) (by omega) (by omega)]
        exact ih k _ (i + 1) (by omega) (by omega)
      · rw [if_neg hlt]; exact ⟨_, rfl⟩
  exact key 4000 k _ 0 (by omega) hk


theorem sadd_eq (k : Nat) (r : List Int) (p q : Int) (hl : r.length ≤ 1048576) (hk : 200 < k) : spec_AddCap.f k r p q = some (add_ r p q) := by
  unfold spec_AddCap.f add_
  simp only [Option.bind_some, List.nil_append, List.length_nil, scaps_eq k r (by omega : 128 < k), l01In_eq, has_eq k (caps_ r).1 p (by have := caps_len r; omega) (by have := caps_len r; omega), decide_eq_true_eq]
  rw [if_pos (by omega)]
  by_cases h1 : (caps_ r).2 = true
  · rw [if_pos h1]
    have hr := (caps_true r h1).1
    by_cases h2 : 8 ≤ p ∧ p ≤ 63
    · rw [if_pos h2]
      by_cases h3 : p ∈ (caps_ r).1
      · rw [if_pos h3, if_neg (show ¬ ac_ r p q from fun h => h.2.2.1 h3)]
      · rw [if_neg h3]
        by_cases h4 : 0 ≤ q ∧ q ≤ 255
        · rw [if_pos h4, if_pos (show ac_ r p q from ⟨h1, h2, h3, h4⟩), if_pos (by omega), if_pos (by omega), if_pos (by omega), if_pos (by omega)]; rfl
        · rw [if_neg h4, if_neg (show ¬ ac_ r p q from fun h => h4 h.2.2.2)]
    · rw [if_neg h2, if_neg (show ¬ ac_ r p q from fun h => h2 h.2.1)]
  · rw [if_neg h1, if_neg (show ¬ ac_ r p q from fun h => h1 h.1)]

/-- What the registers that are drawn hold. -/
def Drawn_ (r l : List Int) : Prop := Has r l ∧ ∀ y ∈ l, (8 ≤ y ∧ y ≤ 19) ∧ 1 ≤ Int.tmod (rd r y) 256 ∧ Int.tmod (rd r y) 256 ≤ 5
theorem Drawn_.add {r l : List Int} (h : Drawn_ r l) (p q : Int) (hp : 8 ≤ p ∧ p ≤ 19) (hq : 1 ≤ q ∧ q ≤ 5) : ∃ m, Drawn_ (add_ r p q).1 m := by
  obtain ⟨h1, h2⟩ := h
  by_cases hn : p ∈ l
  · have : add_ r p q = (r, false) := by
      unfold add_
      rw [if_neg (fun hc => by have := hc.2.2.1; rw [h1.caps] at this; exact this hn)]
    rw [this]
    exact ⟨l, h1, h2⟩
  · obtain ⟨e, g1, g2, g3⟩ := h1.add (p := p) (q := q) (by omega) hn (by omega)
    refine ⟨p :: l, g1, fun y hy => ?_⟩
    rcases List.mem_cons.mp hy with rfl | hy
    · rw [g3, (tdm (rd r 4) q h1.2.1.head.1 (by omega) (by omega)).2]; omega
    · rw [g2 y hy]; exact h2 y hy
theorem regs_some (k : Nat) (s : List Int) (hs : s.length ≤ 1048576) (hk : 5000 < k) : ∃ r l, spec_DrawRegisters.f k s = some r ∧ Drawn_ r l := by
  have key : ∀ d k (r l : List Int) (i : Nat) (j h : Int), i + d = 6 → d + 300 < k → Drawn_ r l → 0 ≤ j → j ≤ s.length →
      ∃ r' l' j' h', spec_l22Registers.l0 k r (i : Int) s j h = some (r', j', h') ∧ Drawn_ r' l' := by
    intro d
    induction d with
    | zero =>
      intro k r l i j h hi hk hr h0 h1
      obtain ⟨k, rfl⟩ : ∃ m, k = m + 1 := ⟨k - 1, by omega⟩
      simp only [spec_l22Registers.l0]
      obtain ⟨x, i1, h1', e, x0, x1, i0, i2⟩ := below_some s j h 6 hs h0 h1 (by omega) (by omega)
      rw [e]
      simp only [Option.bind_some]
      rw [if_neg (by omega)]
      exact ⟨r, l, _, _, rfl, hr⟩
    | succ d ih =>
      intro k r l i j h hi hk hr h0 h1
      obtain ⟨k, rfl⟩ : ∃ m, k = m + 1 := ⟨k - 1, by omega⟩
      simp only [spec_l22Registers.l0]
      obtain ⟨x, i1, h1', e, x0, x1, i0, i2⟩ := below_some s j h 6 hs h0 h1 (by omega) (by omega)
      rw [e]
      simp only [Option.bind_some]
      by_cases hlt : (i : Int) < x
      · obtain ⟨y, i3, h3', e3, y0, y1, i4, i5⟩ := below_some s i1 h1' 12 hs i0 i2 (by omega) (by omega)
        obtain ⟨z, i6, h6', e6, z0, z1, i7, i8⟩ := below_some s i3 h3' 5 hs i4 i5 (by omega) (by omega)
        have hlen := hr.1.1.1
        rw [if_pos hlt, e3]
        simp only [Option.bind_some, e6, wr (8 + y) (by omega) (by omega), wr (1 + z) (by omega) (by omega), sadd_eq k r (8 + y) (1 + z) (by omega) (by omega), wr ((i : Int) + 1) (by omega) (by omega)]
        obtain ⟨m, hm⟩ := hr.add (8 + y) (1 + z) (by omega) (by omega)
        exact ih k _ m (i + 1) _ _ (by omega) (by omega) hm i7 i8
      · rw [if_neg hlt]
        exact ⟨r, l, _, _, rfl, hr⟩
  obtain ⟨h, hn⟩ := new_some k s hs (by omega)
  unfold spec_DrawRegisters.f spec_l22Registers.f
  rw [hn]
  simp only [Option.bind_some]
  rw [if_pos (by omega)]
  obtain ⟨r, l, j', h', e, hr⟩ := key 6 k (List.replicate 64 0) [] 0 0 h (by omega) (by omega) ⟨⟨⟨by simp, fun x hx => by rw [List.eq_of_mem_replicate hx]; omega⟩, by show rd (List.replicate 64 0) 4 = 0; decide, by simp⟩, by simp⟩ (by omega) (by omega)
  refine ⟨r, l, ?_, hr⟩
  have e' : spec_l22Registers.l0 k (List.replicate 64 0) 0 s 0 h = some (r, j', h') := e
  rw [e']; rfl

theorem ch_cut {r r' : List Int} : ∀ (l : List Int) (x : Int) (m : Nat) (hm : m + 1 < l.length), Ch r l x → l.Nodup → (∀ y ∈ l, y ≠ l[m] → rd r' y = rd r y) → Int.tdiv (rd r' l[m]) 256 = Int.tdiv (rd r l[m + 1]) 256 → Ch r' (l.take (m + 1) ++ l.drop (m + 2)) x := by
  intro l
  induction l with
  | nil => intro x m hm; simp at hm
  | cons y l ih =>
    intro x m hm h hn he hv
    obtain ⟨rfl, h1, h2⟩ := h
    obtain ⟨hy, hn'⟩ := List.nodup_cons.mp hn
    cases m with
    | zero =>
      cases l with
      | nil => simp at hm
      | cons z l =>
        obtain ⟨rfl, h3, h4⟩ := h2
        simp only [List.getElem_cons_zero, List.getElem_cons_succ] at hv he
        refine ⟨rfl, h1, ?_⟩
        show Ch r' l _
        rw [hv]
        exact h4.eq (fun w hw => he w (by simp [hw]) (fun e => hy (by simp [← e, hw])))
    | succ m =>
      simp only [List.getElem_cons_succ] at hv he
      have hm' : m + 1 < l.length := by simpa using hm
      refine ⟨rfl, h1, ?_⟩
      show Ch r' (l.take (m + 1) ++ l.drop (m + 2)) _
      rw [he y (by simp) (fun e => hy (by rw [e]; exact List.getElem_mem _))]
      exact ih _ m hm' h2 hn' (fun w hw hne => he w (by simp [hw]) hne) hv
theorem Has.drop {r l : List Int} (h : Has r l) (i : Nat) (hi : i < l.length) : ∃ r', drop_ r l[i] = (r', true) ∧ Has r' (l.take i ++ l.drop (i + 1)) ∧ r'.length = 64 := by
  have hcp := h.caps
  obtain ⟨hr, hc, hn⟩ := h
  have ha : l[i] ∈ l := List.getElem_mem _
  obtain ⟨f1, f2, f3, f4⟩ := ch_first hc ha hn
  have h64 := hr.1
  have h8 := hc.in _ ha
  have hv := hr.2 _ (rd_mem r l[i] (by omega) (by omega))
  have ht := td_ _ hv.1 hv.2
  have hnd : (l.take i ++ l.drop (i + 1)).Nodup := by
    have : (l.take i ++ l.drop (i + 1)).Sublist l := by
      rw [← List.eraseIdx_eq_take_drop_succ]; exact List.eraseIdx_sublist _ _
    exact hn.sublist this
  have hix : ix_ l[i] 0 l = (i : Int) := by
    obtain ⟨j, ej⟩ : ∃ j : Nat, ix_ l[i] 0 l = (j : Int) := ⟨(ix_ l[i] 0 l).toNat, by omega⟩
    rw [ej] at f3 f4 ⊢
    rw [rd_nat _ _ (by omega)] at f4
    have := (List.getElem_inj hn).mp f4
    omega
  refine ⟨dv_ r l l[i], ?_, ?_, ?_⟩
  · unfold drop_
    rw [hcp, if_pos ⟨rfl, ha⟩]
  · unfold dv_
    by_cases h0 : rd r 4 = l[i]
    · have hi0 : i = 0 := by have := f1.mpr h0; omega
      subst hi0
      rw [if_pos h0]
      have hne : ∀ y ∈ l.drop 1, rd (r.set (4 : Int).toNat (Int.tdiv (rd r l[0]) 256)) y = rd r y := fun y hy => by
        have := hc.in y (List.mem_of_mem_drop hy)
        exact rd_set_ne r 4 y _ (by omega) (by omega) (by omega)
      refine ⟨reg_set r 4 _ hr ht.1 (by omega), ?_, hnd⟩
      show Ch (r.set (4 : Int).toNat (Int.tdiv (rd r l[0]) 256)) (l.take 0 ++ l.drop 1) (rd (r.set (4 : Int).toNat (Int.tdiv (rd r l[0]) 256)) 4)
      rw [rd_set_eq r 4 _ (by omega) (by omega), List.take_zero, List.nil_append]
      have hx : Ch r (l.drop 1) (Int.tdiv (rd r l[0]) 256) := by
        cases l with
        | nil => simp at hi
        | cons y l => obtain ⟨e, _, h3⟩ := hc; rw [h0] at h3; exact h3
      exact hx.eq hne
    · rw [if_neg h0, hix]
      obtain ⟨m, rfl⟩ : ∃ m, i = m + 1 := ⟨i - 1, by have : i ≠ 0 := (fun e => h0 (f1.mp (by omega))); omega⟩
      rw [show ((m + 1 : Nat) : Int) - 1 = (m : Int) by omega, rd_nat _ _ (show m < l.length by omega)]
      have hb := hc.in _ (List.getElem_mem (show m < l.length by omega))
      have hw := hr.2 _ (rd_mem r l[m] (by omega) (by omega))
      have hm : 0 ≤ Int.tmod (rd r l[m]) 256 ∧ Int.tmod (rd r l[m]) 256 < 256 := ⟨Int.tmod_nonneg _ hw.1, Int.tmod_lt_of_pos _ (by omega)⟩
      refine ⟨reg_set r _ _ hr (by omega) (by omega), ?_, hnd⟩
      rw [rd_set_ne r l[m] 4 _ (by omega) (by omega) (by omega)]
      refine ch_cut l _ m hi hc hn (fun y hy hne => rd_set_ne r l[m] y _ (by omega) (by have := hc.in y hy; omega) hne) ?_
      rw [rd_set_eq r l[m] _ (by omega) (by omega), (tdm (Int.tdiv (rd r l[m + 1]) 256) _ (by omega) (by omega) (by omega)).1]
  · unfold dv_; split <;> simp [h64]

theorem same_eq (k : Nat) (a b : List Int) (hl : a.length ≤ 1048576) (hk : a.length < k) : laws_sameInts.f k a b = some (decide (a = b)) := by
  unfold laws_sameInts.f
  by_cases e : b.length = a.length
  · rw [if_pos (by omega)]
    have h := eq_loop laws_sameInts.l0 a b hl e (fun k i h hx => by
        simp only [laws_sameInts.l0]
        rw [if_pos (by omega), if_pos (by omega), if_pos (by omega), rd_nat _ _ h, rd_nat _ _ (by omega), if_neg hx]) (fun k i h hx => by
        simp only [laws_sameInts.l0]
        rw [if_pos (by omega), if_pos (by omega), if_pos (by omega), rd_nat _ _ h, rd_nat _ _ (by omega), if_pos hx, wr _ (by omega) (by omega)]
        rfl) (fun k => by
        simp only [laws_sameInts.l0]
        rw [if_neg (by omega)]) a.length k 0 (by omega) hk
    simpa using h
  · rw [if_neg (by omega)]
    congr 1
    symm
    rw [decide_eq_false_iff_not]
    rintro rfl
    exact e rfl


theorem places_some (k : Nat) (s : List Int) (hs : s.length ≤ 1048576) (hk : 4000 < k) : ∃ p, spec_DrawPlaces.f k s = some p ∧ p.length = 12 ∧ ∀ x ∈ p, 0 ≤ x ∧ x < 10000 := by
  have key : ∀ d k (p : List Int) (i : Nat) (j h : Int), i + d = 12 → d < k → p.length = i → 0 ≤ j → j ≤ s.length → (∀ x ∈ p, 0 ≤ x ∧ x < 10000) →
      ∃ q, spec_DrawPlaces.l0 k p (i : Int) s j h = some q ∧ q.length = 12 ∧ ∀ x ∈ q, 0 ≤ x ∧ x < 10000 := by
    intro d
    induction d with
    | zero =>
      intro k p i j h hi hk hp h0 h1 hx
      obtain ⟨k, rfl⟩ : ∃ m, k = m + 1 := ⟨k - 1, by omega⟩
      simp only [spec_DrawPlaces.l0]
      rw [if_neg (by omega)]
      exact ⟨p, rfl, by omega, hx⟩
    | succ d ih =>
      intro k p i j h hi hk hp h0 h1 hx
      obtain ⟨k, rfl⟩ : ∃ m, k = m + 1 := ⟨k - 1, by omega⟩
      simp only [spec_DrawPlaces.l0]
      obtain ⟨x, i1, h1', e, x0, x1, i0, i2⟩ := below_some s j h 10000 hs h0 h1 (by omega) (by omega)
      rw [if_pos (by omega), e]
      simp only [Option.bind_some]
      rw [if_pos (by omega), wr ((i : Int) + 1) (by omega) (by omega)]
      refine ih k _ (i + 1) _ _ (by omega) (by omega) (by simp [hp]) i0 i2 (fun y hy => ?_)
      rcases List.mem_append.1 hy with hy | hy
      · exact hx y hy
      · rw [List.mem_singleton.1 hy]; exact ⟨x0, x1⟩
  obtain ⟨h, hn⟩ := new_some k s hs hk
  unfold spec_DrawPlaces.f
  rw [hn]
  exact key 12 k [] 0 0 h (by omega) (by omega) rfl (by omega) (by omega) (by simp)

/-- As Option.bind_some, but not by rfl: rewriting with it below an 'if' with a great number keeps the kernel from unfolding that number. -/
theorem obs {α β : Type} (a : α) (f : α → Option β) : (some a).bind f = f a := by rw [Option.bind_some]

theorem iadd_len (k : Nat) (r : List Int) (p q : Int) (hl : r.length = 64) (hk : 200 < k) : impl_AddCap.f k r p q = some (add_ r p q) := iadd_eq k r p q (by omega) hk
theorem idrop_len (k : Nat) (r : List Int) (p : Int) (hl : r.length = 64) (hk : 200 < k) : impl_DropCap.f k r p = some (drop_ r p) := idrop_eq k r p (by omega) hk
theorem caps_c (A : Int) (l : List Int) (h : l.length ≤ 56) : (((((A :: l).length : Nat) : Int) = wrap64 ((l.length : Int) + 1)) = True) ∧ (((0 : Int) < (((A :: l).length : Nat) : Int)) = True) ∧ (((1 : Int) ≤ (((A :: l).length : Nat) : Int)) = True) ∧ rd (A :: l) 0 = A := by
  have w1 : wrap64 ((l.length : Int) + 1) = (l.length : Int) + 1 := wr _ (by omega) (by omega)
  have e : (((A :: l).length : Nat) : Int) = (l.length : Int) + 1 := by simp
  have h0 : (0 : Int) ≤ (l.length : Int) := Int.natCast_nonneg _
  rw [w1, e]
  exact ⟨eq_true rfl, eq_true (by clear w1 e; omega), eq_true (by clear w1 e; omega), by simp [rd]⟩
theorem FnCaps : laws_FnCaps.Pure := by
  intro s h1 h2 hw
  obtain ⟨K, hK⟩ : ∃ K : Nat, 1048576 < K := ⟨1048577, by omega⟩
  refine ⟨K, ?_⟩
  unfold laws_FnCaps.f laws_big.f
  simp only [obs, decide_eq_true_eq]
  by_cases hb : (s.length : Int) > 1048576
  · rw [if_pos hb]
  · rw [if_neg hb]
    obtain ⟨r, l, e, hr, hk⟩ := regs_some K s (by omega) (by omega)
    obtain ⟨p, ep, hp12, hpx⟩ := places_some K s (by omega) (by omega)
    have hp0 := hpx _ (rd_mem p 0 (by omega) (by omega))
    have hm : 0 ≤ Int.tmod (rd p 0) 20 ∧ Int.tmod (rd p 0) 20 < 20 := ⟨Int.tmod_nonneg _ hp0.1, Int.tmod_lt_of_pos _ (by omega)⟩
    obtain ⟨A, hA⟩ : ∃ A, A = 30 + Int.tmod (rd p 0) 20 := ⟨_, rfl⟩
    have hat : wrap64 (30 + Int.tmod (rd p 0) 20) = A := (wr _ (by omega) (by omega)).trans hA.symm
    have hnl : A ∉ l := fun h => by have := (hk A h).1; omega
    obtain ⟨g0, g1, g2, g3⟩ := hr.add (p := A) (q := 9) (by omega) hnl (by omega)
    have g0' : add_ r A 9 = ((add_ r A 9).1, true) := by rw [g0]
    generalize hX : (add_ r A 9).1 = x at *
    have hll : l.length ≤ 56 := nd56 l hr.2.2 hr.2.1.in
    obtain ⟨y, d1, d2, d3⟩ := g1.drop 0 (by simp)
    simp only [List.getElem_cons_zero, List.take_zero, List.nil_append, Nat.zero_add, List.drop_succ_cons, List.drop_zero] at d1 d2
    obtain ⟨c1, c2, c3, hrd⟩ := caps_c A l hll
    have s1 : laws_sameInts.f K ((A :: l).drop 1) l = some true := (same_eq K l l (by omega) (by omega)).trans (by simp)
    have s2 : laws_sameInts.f K l l = some true := (same_eq K l l (by omega) (by omega)).trans (by simp)
    have k1 := ifind_eq K x 9 (by omega)
    have k2 := ifind_eq K r 9 (by omega)
    have k3 := icaps_eq K r (by omega)
    have k4 := iadd_len K r A 9 hr.1.1 (by omega)
    have k5 := icaps_eq K x (by omega)
    have k6 := idrop_len K x A g1.1.1 (by omega)
    have k7 := icaps_eq K y (by omega)
    have k8 : (0 : Int) < (p.length : Int) := by omega
    have hf1 : find_ x 9 = A := by
      unfold find_
      rw [g1.caps]
      show runL (fc_ x 9) (fun _ => -1) () (A :: l) = A
      unfold runL fc_
      rw [if_pos (by rw [g3]; exact (tdm (rd r 4) 9 hr.2.1.head.1 (by omega) (by omega)).2)]
    have hf2 : find_ r 9 = -1 := by
      unfold find_
      rw [hr.caps]
      have : ∀ m : List Int, (∀ y ∈ m, Int.tmod (rd r y) 256 ≤ 5) → runL (fc_ r 9) (fun _ => -1) () m = -1 := by
        intro m
        induction m with
        | nil => intro _; rfl
        | cons z m ih =>
          intro h
          have hz := h z (by simp)
          unfold runL fc_
          rw [if_neg (by omega)]
          exact ih (fun y hy => h y (by simp [hy]))
      exact this l (fun y hy => (hk y hy).2.2)
    rw [e, obs, ep, obs, k3, hr.caps, obs, if_pos k8, hat, k4, g0', obs, k5, g1.caps, obs, k6, d1, obs, k7, d2.caps, obs]
    simp only [c1, c2, c3, hrd, hat, s1, s2, obs, if_true, k1, k2, hf1, hf2]
    rfl

end Go.Proofs.Ytgnadhokljjmnaa.Pure
