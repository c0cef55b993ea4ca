/- Of every row of registers, and place: the program's DropCap and the reference's answer alike. -/
import Derived.Test.YtgnadhokljjmnaaPFnExactDropCapx4
import Derived.Test.YtgnadhokljjmnaaCom
namespace Go.Proofs.Ytgnadhokljjmnaa.Pure
open Go.RowKit Go.Proofs.Ytgnadhokljjmnaa.PFnExactDropCap Go.Proofs.YtgnadhokljjmnaaW.PrintWords Go.Proofs.YtgnadhokljjmnaaW.PrintLast Go.Proofs.YtgnadhokljjmnaaW.PrintMore Go.Proofs.Ytgnadhokljjmnaa.Com
set_option linter.unusedVariables false
set_option linter.unusedSimpArgs false

theorem within_eq (a b c : Int) : impl_within.f a b c = some (decide (b ≤ a ∧ a ≤ c)) := by
  unfold impl_within.f; by_cases h : a ≥ b <;> simp [h]

theorem l01In_eq (a b c : Int) : spec_l01In.f a b c = some (decide (b ≤ a ∧ a ≤ c)) := by
  unfold spec_l01In.f; by_cases h : a ≥ b <;> simp [h]

theorem toIntS_eq (k : Nat) (l : List Int) (hl : l.length ≤ 1048576) (hk : l.length < k) : laws_toIntS.f k l = some l := by
  unfold laws_toIntS.f
  rw [if_pos (by omega), if_pos (by omega)]
  have h := copy_loop laws_toIntS.l0 (fun x => x) l hl (fun k x3 i h h3 => by
      simp only [laws_toIntS.l0]
      rw [if_pos (by omega), if_pos (by omega), if_pos (by omega), rd_nat _ _ h, wr _ (by omega) (by omega)]
      rfl) (fun k x3 h3 => by
      simp only [laws_toIntS.l0]
      rw [if_neg (by omega)]) l.length k (List.replicate ((l.length : Int)).toNat 0) 0 (by omega) hk (by simp) (fun j hj => by omega)
  simpa using h

theorem eqIntS_eq (k : Nat) (a b : List Int) (hl : a.length ≤ 1048576) (hk : a.length < k) : laws_eqIntS.f k a b = some (decide (a = b)) := by
  unfold laws_eqIntS.f
  by_cases e : b.length = a.length
  · rw [if_pos (by omega)]
    have h := eq_loop laws_eqIntS.l0 a b hl e (fun k i h hx => by
        simp only [laws_eqIntS.l0]
        rw [if_pos (by omega), if_pos (by omega), if_pos (by omega), rd_nat _ _ h, rd_nat _ _ (by omega), if_neg hx]) (fun k i h hx => by
        simp only [laws_eqIntS.l0]
        rw [if_pos (by omega), if_pos (by omega), if_pos (by omega), rd_nat _ _ h, rd_nat _ _ (by omega), if_pos hx, wr _ (by omega) (by omega)]
        rfl) (fun k => by
        simp only [laws_eqIntS.l0]
        rw [if_neg (by omega)]) a.length k 0 (by omega) hk
    simpa using h
  · rw [if_neg (by omega)]
    congr 1
    symm
    rw [decide_eq_false_iff_not]
    rintro rfl
    exact e rfl

theorem markIntS_eq (k : Nat) (l : List Int) (m : Int) (hl : l.length ≤ 1048576) (hk : l.length < k) (h0 : 0 ≤ m) (h1 : m ≤ 4194304) : laws_markIntS.f k l m = some (m + l.length, marks m l.length) := by
  have h := mark_loop laws_markIntS.l0 l.length m (fun k x0 i h3 h => by
      simp only [laws_markIntS.l0]
      rw [if_pos (by omega), if_pos (by omega), wr (m + i + 1) (by omega) (by omega), wr ((i : Int) + 1) (by omega) (by omega), show m + (i : Int) + 1 = m + ((i + 1 : Nat) : Int) by omega]
      rfl) (fun k x0 h3 => by
      simp only [laws_markIntS.l0]
      rw [if_neg (by omega)]) l.length k l 0 rfl (by omega) hk (fun j hj => by omega)
  unfold laws_markIntS.f
  simpa using h

theorem heldIntS_eq (k n : Nat) (m : Int) (hl : n ≤ 1048576) (hk : n < k) (h0 : 0 ≤ m) (h1 : m ≤ 4194304) : laws_heldIntS.f k (marks m n) m = some (m + n) := by
  have h := held_loop laws_heldIntS.l0 n m (fun k i h => by
      have hg : rd (marks m n) (i : Int) = m + i := by
        rw [rd_nat _ _ (by rw [marks_length]; exact h)]
        have := marks_get m n i h
        rw [List.getElem?_eq_getElem (by rw [marks_length]; exact h)] at this
        injection this
      simp only [laws_heldIntS.l0, marks_length]
      rw [if_pos (by omega), if_pos (by omega), hg, if_pos rfl, wr (m + i + 1) (by omega) (by omega), wr ((i : Int) + 1) (by omega) (by omega), show m + (i : Int) + 1 = m + ((i + 1 : Nat) : Int) by omega]
      rfl) (fun k => by
      simp only [laws_heldIntS.l0, marks_length]
      rw [if_neg (by omega)]) n k 0 (by omega) hk
  unfold laws_heldIntS.f
  simpa using h

theorem rd_mem (l : List Int) (p : Int) (h0 : 0 ≤ p) (h1 : p < (l.length : Int)) : rd l p ∈ l := by
  obtain ⟨m, rfl⟩ : ∃ m : Nat, p = m := ⟨p.toNat, by omega⟩
  rw [rd_nat _ _ (by omega)]; exact List.getElem_mem _

def reg_ (l : List Int) : Prop := l.length = 64 ∧ ∀ x ∈ l, 0 ≤ x ∧ x ≤ 65535
instance (l : List Int) : Decidable (reg_ l) := by unfold reg_; infer_instance
theorem sreg_eq (k : Nat) (l : List Int) (hk : 64 < k) : spec_RegistersOk.f k l = some (decide (reg_ l)) := by
  unfold spec_RegistersOk.f
  by_cases h64 : l.length = 64
  · rw [if_pos (by omega)]
    have h := scan_loop (fun k (_ : Unit) i => spec_l04Words.l0 k l i) l (fun _ x => if 0 ≤ x ∧ x ≤ 65535 then Sum.inl () else Sum.inr false) (fun _ => true)
      (fun k s i h s' e => by
        have hx : 0 ≤ l[i] ∧ l[i] ≤ 65535 := by
          by_cases hx : 0 ≤ l[i] ∧ l[i] ≤ 65535
          · exact hx
          · simp [hx] at e
        simp only [spec_l04Words.l0]
        rw [if_pos (by omega), if_pos (by omega), l01In_eq, Option.bind_some, rd_nat _ _ h, if_pos (by simp [hx]), wr ((i : Int) + 1) (by omega) (by omega)]
        rfl)
      (fun k s i h r e => by
        have hx : ¬ (0 ≤ l[i] ∧ l[i] ≤ 65535) := by
          intro hx; simp [hx] at e
        rw [if_neg hx] at e
        injection e with e
        subst e
        simp only [spec_l04Words.l0]
        rw [if_pos (by omega), if_pos (by omega), l01In_eq, Option.bind_some, rd_nat _ _ h, if_neg (by simp only [decide_eq_true_eq]; exact hx)])
      (fun k s => by
        simp only [spec_l04Words.l0]
        rw [if_neg (by omega)]) l.length k () 0 (by omega) (by omega)
    have e : ∀ xs : List Int, runL (fun _ x => if 0 ≤ x ∧ x ≤ 65535 then Sum.inl () else Sum.inr false) (fun _ => true) () xs = decide (∀ x ∈ xs, 0 ≤ x ∧ x ≤ 65535) := by
      intro xs
      induction xs with
      | nil => simp [runL]
      | cons x xs ih =>
        unfold runL
        by_cases hx : 0 ≤ x ∧ x ≤ 65535
        · rw [if_pos hx]; simp only [ih]; simp [hx]
        · rw [if_neg hx]; simp only [List.mem_cons, forall_eq_or_imp, hx, false_and, decide_false]
    rw [e] at h
    have h' : spec_l04Words.f k l = some (decide (∀ x ∈ l, 0 ≤ x ∧ x ≤ 65535)) := h
    rw [h']
    simp only [Option.bind_some]
    congr 1
    rw [Bool.eq_iff_iff, decide_eq_true_eq, decide_eq_true_eq]
    exact ⟨fun h => ⟨h64, h⟩, fun h => h.2⟩
  · rw [if_neg (by omega)]
    congr 1; symm; rw [decide_eq_false_iff_not]; exact fun h => h64 h.1
theorem ireg_eq (l : List Int) : impl_RegistersOk.f l = some (decide (reg_ l)) := by
  have hv : ∀ x, (impl_RegistersOk_1.f x).getD false = !decide (0 ≤ x ∧ x ≤ 65535) := by
    intro x; unfold impl_RegistersOk_1.f impl_isWord.f; rw [within_eq]; rfl
  have hany : slices_ContainsFunc_int_int_impl_RegistersOk_1.f l = some (!decide (∀ x ∈ l, 0 ≤ x ∧ x ≤ 65535)) := by
    unfold slices_ContainsFunc_int_int_impl_RegistersOk_1.f
    congr 1
    simp only [hv]
    rw [Bool.eq_iff_iff, List.any_eq_true, Bool.not_eq_true', decide_eq_false_iff_not]
    simp only [Bool.not_eq_true', decide_eq_false_iff_not, Classical.not_forall, exists_prop]
  unfold impl_RegistersOk.f
  rw [hany]
  by_cases h64 : l.length = 64
  · rw [if_pos (by omega)]
    simp only [Option.bind_some, Bool.not_not]
    congr 1
    rw [Bool.eq_iff_iff, decide_eq_true_eq, decide_eq_true_eq]
    exact ⟨fun h => ⟨h64, h⟩, fun h => h.2⟩
  · rw [if_neg (by omega)]
    congr 1; symm; rw [decide_eq_false_iff_not]; exact fun h => h64 h.1

theorem has_eq (k : Nat) (l : List Int) (a : Int) (hl : l.length ≤ 1048576) (hk : l.length < k) : spec_l19Has.f k l a = some (decide (a ∈ l)) := by
  have h := scan_loop (fun k (_ : Unit) i => spec_l19Has.l0 k l a i) l (fun _ x => if x = a then Sum.inr true else Sum.inl ()) (fun _ => false)
    (fun k s i h s' e => by
      have hx : ¬ l[i] = a := by intro hx; simp [hx] at e
      simp only [spec_l19Has.l0]
      rw [if_pos (by omega), if_pos (by omega), rd_nat _ _ h, if_neg hx, wr ((i : Int) + 1) (by omega) (by omega)]
      rfl)
    (fun k s i h r e => by
      have hx : l[i] = a := by
        by_cases hx : l[i] = a
        · exact hx
        · simp [hx] at e
      rw [if_pos hx] at e
      injection e with e
      subst e
      simp only [spec_l19Has.l0]
      rw [if_pos (by omega), if_pos (by omega), rd_nat _ _ h, if_pos hx])
    (fun k s => by
      simp only [spec_l19Has.l0]
      rw [if_neg (by omega)]) l.length k () 0 (by omega) hk
  have e : ∀ xs : List Int, runL (fun _ x => if x = a then Sum.inr true else Sum.inl ()) (fun _ => false) () xs = decide (a ∈ xs) := by
    intro xs
    induction xs with
    | nil => simp [runL]
    | cons x xs ih =>
      unfold runL
      by_cases hx : x = a
      · rw [if_pos hx]; simp [hx]
      · rw [if_neg hx]; simp only [ih]; simp [show ¬ a = x from fun h => hx h.symm]
  rw [e] at h
  exact h
/-- Where an element first stands. -/
def ix_ (a : Int) : Nat → List Int → Int
  | _, [] => -1
  | i, x :: xs => if a = x then i else ix_ a (i + 1) xs
theorem ix_spec (a : Int) : ∀ (xs : List Int) (i : Nat), (a ∈ xs → ∃ j : Nat, ix_ a i xs = ((i + j : Nat) : Int) ∧ xs[j]? = some a) ∧ (a ∉ xs → ix_ a i xs = -1) := by
  intro xs
  induction xs with
  | nil => intro i; exact ⟨fun h => by simp at h, fun _ => rfl⟩
  | cons x xs ih =>
    intro i
    unfold ix_
    by_cases hx : a = x
    · rw [if_pos hx]
      exact ⟨fun _ => ⟨0, by simp, by simp [hx]⟩, fun h => absurd (by simp [hx]) h⟩
    · rw [if_neg hx]
      refine ⟨fun h => ?_, fun h => (ih (i + 1)).2 (fun h2 => h (by simp [h2]))⟩
      obtain ⟨j, e1, e2⟩ := (ih (i + 1)).1 (by simpa [hx] using h)
      exact ⟨j + 1, by rw [e1]; congr 1; omega, by simpa using e2⟩
theorem index_eq (k : Nat) (l : List Int) (a : Int) (hl : l.length ≤ 1048576) (hk : l.length < k) : slices_Index_int_int.f k l a = some (ix_ a 0 l) := by
  have h : ∀ (d k i : Nat), i + d = l.length → d < k → slices_Index_int_int.l0 k l a (l.length : Int) (i : Int) = some (ix_ a i (l.drop i)) := by
    intro d
    induction d with
    | zero =>
      intro k i hi hk
      obtain ⟨k, rfl⟩ : ∃ m, k = m + 1 := ⟨k - 1, by omega⟩
      simp only [slices_Index_int_int.l0]
      rw [if_neg (by omega), List.drop_of_length_le (by omega)]; rfl
    | succ d ih =>
      intro k i hi hk
      obtain ⟨k, rfl⟩ : ∃ m, k = m + 1 := ⟨k - 1, by omega⟩
      simp only [slices_Index_int_int.l0]
      rw [if_pos (by omega), if_pos (by omega), if_pos (by omega), rd_nat _ _ (by omega), List.drop_eq_getElem_cons (by omega), wr ((i : Int) + 1) (by omega) (by omega)]
      unfold ix_
      by_cases hx : a = l[i]'(by omega)
      · rw [if_pos hx, if_pos hx]
      · rw [if_neg hx, if_neg hx]; exact ih k (i + 1) (by omega) (by omega)
  have := h l.length k 0 (by omega) hk
  unfold slices_Index_int_int.f
  simpa using this
theorem cont_eq (k : Nat) (l : List Int) (a : Int) (hl : l.length ≤ 1048576) (hk : l.length < k) : slices_Contains_int_int.f k l a = some (decide (a ∈ l)) := by
  unfold slices_Contains_int_int.f
  rw [index_eq k l a hl hk]
  simp only [Option.bind_some]
  congr 1
  rw [Bool.eq_iff_iff, decide_eq_true_eq, decide_eq_true_eq]
  by_cases h : a ∈ l
  · obtain ⟨j, e, _⟩ := (ix_spec a l 0).1 h
    rw [e]; exact ⟨fun _ => h, fun _ => by omega⟩
  · rw [(ix_spec a l 0).2 h]; exact ⟨fun h2 => by omega, fun h2 => absurd h2 h⟩
theorem nodup_len : ∀ (n : Nat) (l : List Int), l.Nodup → (∀ x ∈ l, 0 ≤ x ∧ x < (n : Int)) → l.length ≤ n := by
  intro n
  induction n with
  | zero =>
    intro l _ h
    cases l with
    | nil => simp
    | cons x xs => have := h x (by simp); omega
  | succ n ih =>
    intro l hn h
    by_cases hx : (n : Int) ∈ l
    · have h1 := ih (l.erase (n : Int)) (hn.erase _) (fun x hx => by
        have h2 := (hn.mem_erase_iff).mp hx
        have := h x h2.2
        have := h2.1
        omega)
      rw [List.length_erase_of_mem hx] at h1
      omega
    · have := ih l hn (fun x hx2 => by
        have h2 := h x hx2
        have : x ≠ (n : Int) := fun e => hx (e ▸ hx2)
        omega)
      omega
/-- The chain of capabilities from x on. -/
def cap_ (r : List Int) : Nat → List Int → Int → List Int × Bool
  | 0, _, _ => ([], false)
  | d + 1, out, x => if x = 0 then (out, true) else if 8 ≤ x ∧ x ≤ 63 then (if x ∈ out then ([], false) else cap_ r d (out ++ [x]) (Int.tdiv (rd r x) 256)) else ([], false)
def caps_ (r : List Int) : List Int × Bool := if reg_ r then cap_ r 64 [] (rd r 4) else ([], false)
theorem cap_in (r : List Int) : ∀ d out x, out.Nodup → (∀ y ∈ out, 8 ≤ y ∧ y ≤ 63) → (cap_ r d out x).1.Nodup ∧ (∀ y ∈ (cap_ r d out x).1, 8 ≤ y ∧ y ≤ 63) := by
  intro d
  induction d with
  | zero => intro out x _ _; simp [cap_]
  | succ d ih =>
    intro out x h1 h2
    unfold cap_
    by_cases hx : x = 0
    · rw [if_pos hx]; exact ⟨h1, h2⟩
    · rw [if_neg hx]
      by_cases hp : 8 ≤ x ∧ x ≤ 63
      · rw [if_pos hp]
        by_cases hm : x ∈ out
        · rw [if_pos hm]; simp
        · rw [if_neg hm]
          refine ih _ _ (List.nodup_append.mpr ⟨h1, by simp, ?_⟩) ?_
          · intro a ha b hb
            rintro rfl
            simp at hb; exact hm (hb ▸ ha)
          · intro y hy
            rcases List.mem_append.mp hy with hy | hy
            · exact h2 y hy
            · simp at hy; omega
      · rw [if_neg hp]; simp
theorem caps_in (r : List Int) : (caps_ r).1.Nodup ∧ (∀ y ∈ (caps_ r).1, 8 ≤ y ∧ y ≤ 63) := by
  unfold caps_
  split
  · exact cap_in r _ _ _ (by simp) (by simp)
  · simp
theorem nd_len (l : List Int) (h1 : l.Nodup) (h2 : ∀ y ∈ l, 8 ≤ y ∧ y ≤ 63) : l.length ≤ 64 :=
  nodup_len 64 l h1 (fun x hx => by have := h2 x hx; omega)
theorem caps_len (r : List Int) : (caps_ r).1.length ≤ 64 := nd_len _ (caps_in r).1 (caps_in r).2
theorem td_ (x : Int) (h0 : 0 ≤ x) (h1 : x ≤ 65535) : 0 ≤ Int.tdiv x 256 ∧ Int.tdiv x 256 ≤ 255 := by
  rw [Int.tdiv_eq_ediv_of_nonneg h0]; omega
theorem nd56 (l : List Int) (h1 : l.Nodup) (h2 : ∀ y ∈ l, 8 ≤ y ∧ y ≤ 63) : l.length ≤ 56 := by
  have hm : (l.map (fun y => y - 8)).Nodup := by
    have : ∀ l : List Int, l.Nodup → (l.map (fun y => y - 8)).Nodup := by
      intro l
      induction l with
      | nil => intro _; simp
      | cons x xs ih =>
        intro h
        rw [List.nodup_cons] at h
        rw [List.map_cons, List.nodup_cons]
        refine ⟨fun hm => ?_, ih h.2⟩
        obtain ⟨y, hy, e⟩ := List.mem_map.mp hm
        have : y = x := by omega
        exact h.1 (this ▸ hy)
    exact this l h1
  have := nodup_len 56 _ hm (fun x hx => by
    obtain ⟨y, hy, rfl⟩ := List.mem_map.mp hx
    have := h2 y hy; omega)
  simpa using this
theorem scl_eq (r : List Int) (hr : reg_ r) : ∀ (d k : Nat) (out : List Int) (x : Int), 64 ≤ d + out.length → out.Nodup → (∀ y ∈ out, 8 ≤ y ∧ y ≤ 63) → d + 64 < k → spec_CapsOf.l0 k r out x = some (cap_ r d out x) := by
  intro d
  induction d with
  | zero => intro k out x h h1 h2 hk; have := nd56 out h1 h2; omega
  | succ d ih =>
    intro k out x h h1 h2 hk
    obtain ⟨k, rfl⟩ : ∃ m, k = m + 1 := ⟨k - 1, by omega⟩
    have hl := nd56 out h1 h2
    simp only [spec_CapsOf.l0, cap_]
    by_cases hx : x = 0
    · rw [if_pos hx, if_pos hx]
    · rw [if_neg hx, if_neg hx, l01In_eq]
      simp only [Option.bind_some, decide_eq_true_eq]
      by_cases hp : 8 ≤ x ∧ x ≤ 63
      · rw [if_pos hp, if_pos hp, has_eq k out x (by omega) (by omega)]
        simp only [Option.bind_some, decide_eq_true_eq]
        by_cases hm : x ∈ out
        · rw [if_pos hm, if_pos hm]
        · have hr0 := hr.1
          have hv := hr.2 _ (rd_mem r x (by omega) (by omega))
          have ht := td_ _ hv.1 hv.2
          rw [if_neg hm, if_neg hm, if_pos (by omega), if_pos (by omega), if_pos (by omega), wr _ (by omega) (by omega)]
          have hi := cap_in r 0 (out ++ [x])
          refine ih k _ _ (by simp; omega) (List.nodup_append.mpr ⟨h1, by simp, ?_⟩) ?_ (by omega)
          · intro a ha b hb
            rintro rfl
            simp at hb; exact hm (hb ▸ ha)
          · intro y hy
            rcases List.mem_append.mp hy with hy | hy
            · exact h2 y hy
            · simp at hy; omega
      · rw [if_neg hp, if_neg hp]
theorem icl_eq (r : List Int) (hr : reg_ r) : ∀ (d k : Nat) (out : List Int) (x : Int), 64 ≤ d + out.length → out.Nodup → (∀ y ∈ out, 8 ≤ y ∧ y ≤ 63) → d + 64 < k → impl_CapsOf.l0 k r out x = some (cap_ r d out x) := by
  intro d
  induction d with
  | zero => intro k out x h h1 h2 hk; have := nd56 out h1 h2; omega
  | succ d ih =>
    intro k out x h h1 h2 hk
    obtain ⟨k, rfl⟩ : ∃ m, k = m + 1 := ⟨k - 1, by omega⟩
    have hl := nd56 out h1 h2
    simp only [impl_CapsOf.l0, cap_]
    by_cases hx : x = 0
    · rw [if_pos hx, if_pos hx]
    · rw [if_neg hx, if_neg hx]
      unfold impl_isPlace.f
      rw [within_eq]
      simp only [Option.bind_some, decide_eq_true_eq]
      by_cases hp : 8 ≤ x ∧ x ≤ 63
      · rw [if_pos hp, if_pos hp, cont_eq k out x (by omega) (by omega)]
        simp only [Option.bind_some, decide_eq_true_eq]
        by_cases hm : x ∈ out
        · rw [if_pos hm, if_pos hm]
        · have hr0 := hr.1
          have hv := hr.2 _ (rd_mem r x (by omega) (by omega))
          have ht := td_ _ hv.1 hv.2
          rw [if_neg hm, if_neg hm, if_pos (by omega), if_pos (by omega), if_pos (by omega), wr _ (by omega) (by omega)]
          refine ih k _ _ (by simp; omega) (List.nodup_append.mpr ⟨h1, by simp, ?_⟩) ?_ (by omega)
          · intro a ha b hb
            rintro rfl
            simp at hb; exact hm (hb ▸ ha)
          · intro y hy
            rcases List.mem_append.mp hy with hy | hy
            · exact h2 y hy
            · simp at hy; omega
      · rw [if_neg hp, if_neg hp]
theorem scaps_eq (k : Nat) (r : List Int) (hk : 128 < k) : spec_CapsOf.f k r = some (caps_ r) := by
  unfold spec_CapsOf.f caps_
  simp only [Option.bind_some]
  rw [sreg_eq k r (by omega)]
  simp only [Option.bind_some, decide_eq_true_eq]
  by_cases h : reg_ r
  · have := h.1
    rw [if_pos h, if_pos h, if_pos (by omega)]
    exact scl_eq r h 64 k [] _ (by simp) (by simp) (by simp) (by omega)
  · rw [if_neg h, if_neg h]
theorem icaps_eq (k : Nat) (r : List Int) (hk : 128 < k) : impl_CapsOf.f k r = some (caps_ r) := by
  unfold impl_CapsOf.f caps_
  rw [ireg_eq r]
  simp only [Option.bind_some, decide_eq_true_eq]
  by_cases h : reg_ r
  · have := h.1
    rw [if_pos h, if_pos h, if_pos (by omega)]
    exact icl_eq r h 64 k [] _ (by simp) (by simp) (by simp) (by omega)
  · rw [if_neg h, if_neg h]

theorem caps_true (r : List Int) (h : (caps_ r).2 = true) : reg_ r := by
  unfold caps_ at h
  by_cases hr : reg_ r
  · exact hr
  · rw [if_neg hr] at h; cases h
def ac_ (r : List Int) (p q : Int) : Prop := (caps_ r).2 = true ∧ (8 ≤ p ∧ p ≤ 63) ∧ p ∉ (caps_ r).1 ∧ (0 ≤ q ∧ q ≤ 255)
instance (r : List Int) (p q : Int) : Decidable (ac_ r p q) := by unfold ac_; infer_instance
/-- A capability put before the chain. -/
def add_ (r : List Int) (p q : Int) : List Int × Bool :=
  if ac_ r p q then ((r.set p.toNat (wrap64 (wrap64 (rd r 4 * 256) + q))).set 4 p, true) else (r, false)
theorem add_len (r : List Int) (p q : Int) : (add_ r p q).1.length = r.length := by unfold add_; split <;> simp

/-- l is the chain that starts at x. -/
def Ch (r : List Int) : List Int → Int → Prop
  | [], x => x = 0
  | y :: l, x => y = x ∧ (8 ≤ x ∧ x ≤ 63) ∧ Ch r l (Int.tdiv (rd r x) 256)
theorem Ch.in {r : List Int} : ∀ {l : List Int} {x : Int}, Ch r l x → ∀ y ∈ l, 8 ≤ y ∧ y ≤ 63 := by
  intro l
  induction l with
  | nil => intro x _ y hy; simp at hy
  | cons z l ih =>
    intro x h y hy
    obtain ⟨rfl, h1, h2⟩ := h
    rcases List.mem_cons.mp hy with rfl | hy
    · exact h1
    · exact ih h2 y hy
theorem cap_of_ch (r : List Int) : ∀ (l : List Int) (d : Nat) (out : List Int) (x : Int), Ch r l x → (out ++ l).Nodup → l.length < d → cap_ r d out x = (out ++ l, true) := by
  intro l
  induction l with
  | nil =>
    intro d out x h hn hd
    obtain ⟨d, rfl⟩ : ∃ m, d = m + 1 := ⟨d - 1, by omega⟩
    have h0 : x = 0 := h
    unfold cap_
    rw [if_pos h0, List.append_nil]
  | cons y l ih =>
    intro d out x h hn hd
    obtain ⟨d, rfl⟩ : ∃ m, d = m + 1 := ⟨d - 1, by omega⟩
    obtain ⟨rfl, h1, h2⟩ := h
    have hm : y ∉ out := by
      intro hy
      have := (List.nodup_append.mp hn).2.2 y hy y (by simp)
      exact this rfl
    unfold cap_
    rw [if_neg (by omega), if_pos h1, if_neg hm, ih d (out ++ [y]) _ h2 (by simpa using hn) (by simp at hd; omega)]
    simp
theorem ch_of_cap (r : List Int) : ∀ (d : Nat) (out : List Int) (x : Int), (cap_ r d out x).2 = true → ∃ l, (cap_ r d out x).1 = out ++ l ∧ Ch r l x := by
  intro d
  induction d with
  | zero => intro out x h; simp [cap_] at h
  | succ d ih =>
    intro out x h
    unfold cap_ at h ⊢
    by_cases hx : x = 0
    · rw [if_pos hx]; exact ⟨[], by simp, hx⟩
    · rw [if_neg hx] at h ⊢
      by_cases hp : 8 ≤ x ∧ x ≤ 63
      · rw [if_pos hp] at h ⊢
        by_cases hm : x ∈ out
        · rw [if_pos hm] at h; cases h
        · rw [if_neg hm] at h ⊢
          obtain ⟨l, e, hc⟩ := ih _ _ h
          exact ⟨x :: l, by rw [e]; simp, rfl, hp, hc⟩
      · rw [if_neg hp] at h; cases h
/-- A row of registers with the chain l. -/
def Has (r l : List Int) : Prop := reg_ r ∧ Ch r l (rd r 4) ∧ l.Nodup
theorem Has.caps {r l : List Int} (h : Has r l) : caps_ r = (l, true) := by
  obtain ⟨h1, h2, h3⟩ := h
  unfold caps_
  rw [if_pos h1, cap_of_ch r l 64 [] _ h2 (by simpa using h3) (by have := nd56 l h3 h2.in; omega)]
  rfl
theorem has_of_caps {r : List Int} (h : (caps_ r).2 = true) : Has r (caps_ r).1 := by
  have hr := caps_true r h
  have hn := (caps_in r).1
  unfold caps_ at h hn ⊢
  rw [if_pos hr] at h hn ⊢
  obtain ⟨l, e, hc⟩ := ch_of_cap r 64 [] _ h
  rw [List.nil_append] at e
  rw [e] at hn ⊢
  exact ⟨hr, hc, hn⟩
theorem Ch.eq {r r' : List Int} : ∀ {l : List Int} {x : Int}, (∀ y ∈ l, rd r' y = rd r y) → Ch r l x → Ch r' l x := by
  intro l
  induction l with
  | nil => intro x _ h; exact h
  | cons z l ih =>
    intro x he h
    obtain ⟨rfl, h1, h2⟩ := h
    refine ⟨rfl, h1, ?_⟩
    rw [he z (by simp)]
    exact ih (fun y hy => he y (by simp [hy])) h2
theorem rd_set_ne (r : List Int) (p y v : Int) (h0 : 0 ≤ p) (h1 : 0 ≤ y) (h : y ≠ p) : rd (r.set p.toNat v) y = rd r y := by
  unfold rd
  simp only [List.getD_eq_getElem?_getD]
  rw [List.getElem?_set_ne (by omega)]
theorem rd_set_eq (r : List Int) (p v : Int) (h0 : 0 ≤ p) (h1 : p < (r.length : Int)) : rd (r.set p.toNat v) p = v := by
  unfold rd
  simp only [List.getD_eq_getElem?_getD]
  rw [List.getElem?_set_self (by omega)]; rfl
theorem reg_set (r : List Int) (p v : Int) (hr : reg_ r) (h0 : 0 ≤ v) (h1 : v ≤ 65535) : reg_ (r.set p.toNat v) := by
  refine ⟨by simp [hr.1], fun x hx => ?_⟩
  rcases List.mem_or_eq_of_mem_set hx with hx | rfl
  · exact hr.2 x hx
  · exact ⟨h0, h1⟩
theorem Ch.head {r l : List Int} {x : Int} (h : Ch r l x) : 0 ≤ x ∧ x ≤ 63 := by
  cases l with
  | nil => have : x = 0 := h; omega
  | cons y l => have := h.2.1; omega
theorem tdm (x y : Int) (hx : 0 ≤ x) (hy0 : 0 ≤ y) (hy : y ≤ 255) : Int.tdiv (x * 256 + y) 256 = x ∧ Int.tmod (x * 256 + y) 256 = y := by
  rw [Int.tdiv_eq_ediv_of_nonneg (by omega), Int.tmod_eq_emod_of_nonneg (by omega)]; omega
/-- The chain behind an added capability. -/
theorem Has.add {r l : List Int} {p q : Int} (h : Has r l) (hp : 8 ≤ p ∧ p ≤ 63) (hn : p ∉ l) (hq : 0 ≤ q ∧ q ≤ 255) :
    add_ r p q = ((r.set p.toNat (rd r 4 * 256 + q)).set 4 p, true) ∧ Has (add_ r p q).1 (p :: l) ∧ (∀ y ∈ l, rd (add_ r p q).1 y = rd r y) ∧ rd (add_ r p q).1 p = rd r 4 * 256 + q := by
  obtain ⟨hr, hc, hd⟩ := h
  have h4 := hc.head
  have hcp := Has.caps ⟨hr, hc, hd⟩
  have e : add_ r p q = ((r.set p.toNat (rd r 4 * 256 + q)).set 4 p, true) := by
    unfold add_
    rw [if_pos (show ac_ r p q from ⟨by rw [hcp], hp, by rw [hcp]; exact hn, hq⟩), wr (rd r 4 * 256) (by omega) (by omega), wr _ (by omega) (by omega)]
  have hlen : ((r.set p.toNat (rd r 4 * 256 + q)).length : Int) = 64 := by have := hr.1; simp; omega
  have e4 : rd ((r.set p.toNat (rd r 4 * 256 + q)).set 4 p) 4 = p := rd_set_eq _ 4 p (by omega) (by omega)
  have ep : rd ((r.set p.toNat (rd r 4 * 256 + q)).set 4 p) p = rd r 4 * 256 + q :=
    (rd_set_ne _ 4 p p (by omega) (by omega) (by omega)).trans (rd_set_eq r p _ (by omega) (by have := hr.1; omega))
  have ey : ∀ y ∈ l, rd ((r.set p.toNat (rd r 4 * 256 + q)).set 4 p) y = rd r y := by
    intro y hy
    have h8 := hc.in y hy
    exact (rd_set_ne _ 4 y p (by omega) (by omega) (by omega)).trans (rd_set_ne r p y _ (by omega) (by omega) (fun e => hn (e ▸ hy)))
  rw [e]
  refine ⟨rfl, ⟨reg_set _ 4 p (reg_set r p _ hr (by omega) (by omega)) (by omega) (by omega), ?_, List.nodup_cons.mpr ⟨hn, hd⟩⟩, ey, ep⟩
  show Ch ((r.set p.toNat (rd r 4 * 256 + q)).set 4 p) (p :: l) (rd ((r.set p.toNat (rd r 4 * 256 + q)).set 4 p) 4)
  rw [e4]
  refine ⟨rfl, hp, ?_⟩
  rw [ep, (tdm (rd r 4) q (by omega) hq.1 hq.2).1]
  exact hc.eq ey
/-- The registers without a capability: the one before it, or the first register, leads past it. -/
def dv_ (r l : List Int) (a : Int) : List Int :=
  if rd r 4 = a then r.set 4 (Int.tdiv (rd r a) 256) else r.set (rd l (ix_ a 0 l - 1)).toNat (Int.tdiv (rd r a) 256 * 256 + Int.tmod (rd r (rd l (ix_ a 0 l - 1))) 256)
def drop_ (r : List Int) (a : Int) : List Int × Bool :=
  if (caps_ r).2 = true ∧ a ∈ (caps_ r).1 then (dv_ r (caps_ r).1 a, true) else (r, false)
theorem drop_len (r : List Int) (a : Int) : (drop_ r a).1.length = r.length := by
  unfold drop_ dv_; split
  · split <;> simp
  · rfl
theorem ch_first {r l : List Int} {x a : Int} (h : Ch r l x) (ha : a ∈ l) (hn : l.Nodup) : (ix_ a 0 l = 0 ↔ x = a) ∧ 0 ≤ ix_ a 0 l ∧ ix_ a 0 l < (l.length : Int) ∧ rd l (ix_ a 0 l) = a := by
  obtain ⟨j, e, hj⟩ := (ix_spec a l 0).1 ha
  have hjl : j < l.length := by
    rcases Nat.lt_or_ge j l.length with h | h
    · exact h
    · rw [List.getElem?_eq_none h] at hj; cases hj
  have hja : l[j] = a := by rw [List.getElem?_eq_getElem hjl] at hj; injection hj
  rw [e, Nat.zero_add]
  refine ⟨?_, by omega, by omega, by rw [rd_nat _ _ hjl]; exact hja⟩
  cases l with
  | nil => simp at ha
  | cons y l =>
    obtain ⟨rfl, _, _⟩ := h
    constructor
    · intro h0
      obtain rfl : j = 0 := by omega
      simpa using hja
    · rintro rfl
      by_cases h0 : j = 0
      · omega
      · exfalso
        obtain ⟨m, rfl⟩ : ∃ m, j = m + 1 := ⟨j - 1, by omega⟩
        simp only [List.getElem_cons_succ] at hja
        have := (List.nodup_cons.mp hn).1
        exact this (hja ▸ List.getElem_mem _)

theorem idrop_eq (k : Nat) (r : List Int) (a : Int) (hl : r.length ≤ 1048576) (hk : 200 < k) : impl_DropCap.f k r a = some (drop_ r a) := by
  obtain ⟨k, rfl⟩ : ∃ m, k = m + 1 := ⟨k - 1, by omega⟩
  have hcl := caps_len r
  unfold impl_DropCap.f slices_Clone_int_int.f
  rw [if_pos (by omega)]
  simp only [Option.bind_some, icaps_eq (k + 1) r (by omega), index_eq (k + 1) (caps_ r).1 a (by omega) (by omega)]
  unfold drop_
  by_cases h : (caps_ r).2 = true
  · rw [if_pos h]
    simp only [impl_DropCap.j0]
    by_cases ha : a ∈ (caps_ r).1
    · obtain ⟨hr, hc, hn⟩ := has_of_caps h
      obtain ⟨f1, f2, f3, f4⟩ := ch_first hc ha hn
      have h8 := (caps_in r).2 a ha
      have h64 := hr.1
      have hv := hr.2 _ (rd_mem r a (by omega) (by omega))
      have ht := td_ _ hv.1 hv.2
      rw [if_neg (by simp; omega), if_pos (show (caps_ r).2 = true ∧ a ∈ (caps_ r).1 from ⟨h, ha⟩)]
      unfold dv_
      by_cases h0 : ix_ a 0 (caps_ r).1 = 0
      · rw [if_pos h0, if_pos (f1.mp h0), if_pos (by omega), if_pos (by omega), if_pos (by omega), wr _ (by omega) (by omega)]
        rfl
      · have hb := (caps_in r).2 _ (rd_mem (caps_ r).1 (ix_ a 0 (caps_ r).1 - 1) (by omega) (by omega))
        have hw := hr.2 _ (rd_mem r (rd (caps_ r).1 (ix_ a 0 (caps_ r).1 - 1)) (by omega) (by omega))
        have hm : 0 ≤ Int.tmod (rd r (rd (caps_ r).1 (ix_ a 0 (caps_ r).1 - 1))) 256 ∧ Int.tmod (rd r (rd (caps_ r).1 (ix_ a 0 (caps_ r).1 - 1))) 256 < 256 := ⟨Int.tmod_nonneg _ hw.1, Int.tmod_lt_of_pos _ (by omega)⟩
        rw [if_neg h0, if_neg (fun e => h0 (f1.mpr e)), wr (ix_ a 0 (caps_ r).1 - 1) (by omega) (by omega), if_pos (by omega), if_pos (by omega), if_pos (by omega), if_pos (by omega), if_pos (by omega), if_pos (by omega), if_pos (by omega), wr (Int.tdiv (rd r a) 256) (by omega) (by omega), wr (Int.tdiv (rd r a) 256 * 256) (by omega) (by omega), wr _ (by omega) (by omega)]
    · rw [(ix_spec a (caps_ r).1 0).2 ha, if_pos (by simp), if_neg (fun h => ha h.2)]
  · rw [if_neg h, if_neg (fun h2 => h h2.1)]
    simp only [impl_DropCap.j0]
    rw [if_pos trivial]

theorem sdl_eq (r l : List Int) (a : Int) (m : Nat) (v : Int) (h64 : r.length = 64) (hll : l.length ≤ 64) (hin : ∀ y ∈ l, 8 ≤ y ∧ y ≤ 63) (hn : l.Nodup) (hm : m + 1 < l.length) (hma : l[m + 1] = a) (hv : 0 ≤ v ∧ v ≤ 255) (hw : 0 ≤ rd r l[m] ∧ rd r l[m] ≤ 65535) :
    ∀ (d k i : Nat) (x : List Int), x.length = 64 → i + d = 64 → d < k → spec_DropCap.l0 k r a x l v (i : Int) = some (if i ≤ m then x.set (l[m]).toNat (v * 256 + Int.tmod (rd r l[m]) 256) else x, true) := by
  intro d
  induction d with
  | zero =>
    intro k i x hx hi hk
    obtain ⟨k, rfl⟩ : ∃ m, k = m + 1 := ⟨k - 1, by omega⟩
    simp only [spec_DropCap.l0]
    rw [wr ((i : Int) + 1) (by omega) (by omega), if_neg (show ¬ ((i : Int) + 1 < (l.length : Int)) by omega), if_neg (by omega)]
  | succ d ih =>
    intro k i x hx hi hk
    obtain ⟨k, rfl⟩ : ∃ m, k = m + 1 := ⟨k - 1, by omega⟩
    simp only [spec_DropCap.l0]
    rw [wr ((i : Int) + 1) (by omega) (by omega)]
    by_cases hlt : (i : Int) + 1 < (l.length : Int)
    · rw [if_pos hlt, if_pos (by omega)]
      have e1 : rd l ((i : Int) + 1) = l[i + 1] := rd_nat l (i + 1) (by omega)
      have e0 : rd l (i : Int) = l[i] := rd_nat l i (by omega)
      rw [e1]
      by_cases hx2 : l[i + 1] = a
      · have him : i = m := by
          have := (List.getElem_inj hn).mp (hx2.trans hma.symm)
          omega
        subst him
        have h8 := hin _ (List.getElem_mem (show i < l.length by omega))
        have hmo : 0 ≤ Int.tmod (rd r l[i]) 256 ∧ Int.tmod (rd r l[i]) 256 < 256 := ⟨Int.tmod_nonneg _ hw.1, Int.tmod_lt_of_pos _ (by omega)⟩
        rw [if_pos hx2, e0, if_pos (by omega), if_pos (by omega), if_pos (by omega), if_pos (by omega), if_pos (by omega), wr (v * 256) (by omega) (by omega), wr _ (by omega) (by omega)]
        have := ih k (i + 1) (x.set (l[i]).toNat (v * 256 + Int.tmod (rd r l[i]) 256)) (by simp [hx]) (by omega) (by omega)
        rw [if_neg (by omega)] at this
        rw [if_pos (Nat.le_refl _)]
        exact this
      · have him : i ≠ m := by rintro rfl; exact hx2 hma
        rw [if_neg hx2]
        have := ih k (i + 1) x hx (by omega) (by omega)
        rw [show ((i : Int) + 1) = ((i + 1 : Nat) : Int) from rfl, this]
        by_cases hle : i ≤ m
        · rw [if_pos hle, if_pos (by omega)]
        · rw [if_neg hle, if_neg (by omega)]
    · rw [if_neg hlt, if_neg (by omega)]
theorem sdrop_eq (k : Nat) (r : List Int) (a : Int) (hl : r.length ≤ 1048576) (hk : 200 < k) : spec_DropCap.f k r a = some (drop_ r a) := by
  obtain ⟨k, rfl⟩ : ∃ m, k = m + 1 := ⟨k - 1, by omega⟩
  have hcl := caps_len r
  unfold spec_DropCap.f
  simp only [Option.bind_some, List.nil_append, List.length_nil]
  rw [if_pos (by omega)]
  simp only [scaps_eq (k + 1) r (by omega), has_eq (k + 1) (caps_ r).1 a (by omega) (by omega), Option.bind_some]
  unfold drop_
  by_cases h : (caps_ r).2 = true
  · rw [if_pos h]
    simp only [spec_DropCap.j0]
    by_cases ha : a ∈ (caps_ r).1
    · obtain ⟨hr, hc, hn⟩ := has_of_caps h
      obtain ⟨f1, f2, f3, f4⟩ := ch_first hc ha hn
      have h8 := (caps_in r).2 a ha
      have h64 := hr.1
      have hv := hr.2 _ (rd_mem r a (by omega) (by omega))
      have ht := td_ _ hv.1 hv.2
      rw [if_neg (by simp [ha]), if_pos (by omega), if_pos (by omega), if_pos (by omega), if_pos (show (caps_ r).2 = true ∧ a ∈ (caps_ r).1 from ⟨h, ha⟩)]
      unfold dv_
      by_cases h0 : rd r 4 = a
      · rw [if_pos h0, if_pos h0, if_pos (by omega), wr _ (by omega) (by omega)]
        rfl
      · have hi0 : ix_ a 0 (caps_ r).1 ≠ 0 := fun e => h0 (f1.mp e)
        obtain ⟨j, ej⟩ : ∃ j : Nat, ix_ a 0 (caps_ r).1 = ((j + 1 : Nat) : Int) := ⟨(ix_ a 0 (caps_ r).1).toNat - 1, by omega⟩
        have hjl : j + 1 < (caps_ r).1.length := by omega
        rw [ej] at f4
        rw [rd_nat _ _ hjl] at f4
        have hb := (caps_in r).2 _ (List.getElem_mem (show j < (caps_ r).1.length by omega))
        have hw := hr.2 _ (rd_mem r (caps_ r).1[j] (by omega) (by omega))
        rw [if_neg h0, if_neg h0, wr _ (by omega) (by omega), ej, show ((j + 1 : Nat) : Int) - 1 = (j : Int) by omega, rd_nat _ _ (show j < (caps_ r).1.length by omega)]
        have := sdl_eq r (caps_ r).1 a j (Int.tdiv (rd r a) 256) h64 hcl (caps_in r).2 hn hjl f4 ht hw 64 k 0 r h64 (by omega) (by omega)
        rw [if_pos (by omega)] at this
        exact this
    · rw [if_pos (by simp [ha]), if_neg (fun h => ha h.2)]
  · rw [if_neg h, if_neg (fun h2 => h h2.1)]
    simp only [spec_DropCap.j0]
    rw [if_pos trivial]

theorem FnExactDropCap : laws_FnExactDropCap.Pure := by
  intro l a h1 h2 hw ha
  refine ⟨2000003, ?_⟩
  unfold laws_FnExactDropCap.f
  by_cases hb : (l.length : Int) > 1048576
  · rw [if_pos hb]
  · rw [if_neg hb]
    have hc := drop_len l a
    simp only [toIntS_eq 2000003 l (by omega) (by omega), Option.bind_some, sdrop_eq 2000003 l a (by omega) (by omega), idrop_eq 2000003 l a (by omega) (by omega), eqIntS_eq 2000003 (drop_ l a).1 (drop_ l a).1 (by omega) (by omega), decide_true, if_true]
    show laws_FnExactDropCap.j0 (2000002 + 1) _ _ _ _ _ _ _ _ = _
    simp only [laws_FnExactDropCap.j0]
    rw [if_neg (by simp)]
    simp only [toIntS_eq 2000002 l (by omega) (by omega), Option.bind_some, eqIntS_eq 2000002 l l (by omega) (by omega), decide_true, if_true, markIntS_eq 2000002 l 1 (by omega) (by omega) (by omega) (by omega), eqIntS_eq 2000002 (drop_ l a).1 (drop_ l a).1 (by omega) (by omega)]
    rw [if_neg (by omega)]
    show laws_FnExactDropCap.j1 (2000001 + 1) _ _ _ _ _ _ = _
    simp only [laws_FnExactDropCap.j1]
    rw [if_neg (by simp)]
    simp only [markIntS_eq 2000001 (drop_ l a).1 1 (by omega) (by omega) (by omega) (by omega), heldIntS_eq 2000001 (drop_ l a).1.length 1 (by omega) (by omega) (by omega) (by omega), Option.bind_some]
    rw [if_neg (by omega)]
    simp only [toIntS_eq 2000001 l (by omega) (by omega), Option.bind_some, idrop_eq 2000001 l a (by omega) (by omega), eqIntS_eq 2000001 (drop_ l a).1 (drop_ l a).1 (by omega) (by omega), decide_true, if_true]
    show laws_FnExactDropCap.j2 (2000000 + 1) _ _ _ = _
    simp only [laws_FnExactDropCap.j2]
    rw [if_neg (by simp)]
    simp only [heldIntS_eq 2000000 (drop_ l a).1.length 1 (by omega) (by omega) (by omega) (by omega), Option.bind_some, if_true]
    rw [if_neg (by omega)]

end Go.Proofs.Ytgnadhokljjmnaa.Pure
