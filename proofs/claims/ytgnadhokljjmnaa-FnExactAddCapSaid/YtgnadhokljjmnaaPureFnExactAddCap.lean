/- Of every row of registers, place and kind: the program's AddCap and the reference's answer alike. -/
import Derived.Test.YtgnadhokljjmnaaPFnExactAddCapx3
import Derived.Test.YtgnadhokljjmnaaCom
namespace Go.Proofs.Ytgnadhokljjmnaa.Pure
open Go.RowKit Go.Proofs.Ytgnadhokljjmnaa.PFnExactAddCap Go.Proofs.YtgnadhokljjmnaaW.PrintWords Go.Proofs.YtgnadhokljjmnaaW.PrintLast Go.Proofs.YtgnadhokljjmnaaW.PrintMore Go.Proofs.Ytgnadhokljjmnaa.Com
set_option linter.unusedVariables false
set_option linter.unusedSimpArgs false

theorem within_eq (a b c : Int) : impl_within.f a b c = some (decide (b ≤ a ∧ a ≤ c)) := by
  unfold impl_within.f; by_cases h : a ≥ b <;> simp [h]

theorem l01In_eq (a b c : Int) : spec_l01In.f a b c = some (decide (b ≤ a ∧ a ≤ c)) := by
  unfold spec_l01In.f; by_cases h : a ≥ b <;> simp [h]

theorem toIntS_eq (k : Nat) (l : List Int) (hl : l.length ≤ 1048576) (hk : l.length < k) : laws_toIntS.f k l = some l := by
  unfold laws_toIntS.f
  rw [if_pos (by omega), if_pos (by omega)]
  have h := copy_loop laws_toIntS.l0 (fun x => x) l hl (fun k x3 i h h3 => by
      simp only [laws_toIntS.l0]
      rw [if_pos (by omega), if_pos (by omega), if_pos (by omega), rd_nat _ _ h, wr _ (by omega) (by omega)]
      rfl) (fun k x3 h3 => by
      simp only [laws_toIntS.l0]
      rw [if_neg (by omega)]) l.length k (List.replicate ((l.length : Int)).toNat 0) 0 (by omega) hk (by simp) (fun j hj => by omega)
  simpa using h

theorem eqIntS_eq (k : Nat) (a b : List Int) (hl : a.length ≤ 1048576) (hk : a.length < k) : laws_eqIntS.f k a b = some (decide (a = b)) := by
  unfold laws_eqIntS.f
  by_cases e : b.length = a.length
  · rw [if_pos (by omega)]
    have h := eq_loop laws_eqIntS.l0 a b hl e (fun k i h hx => by
        simp only [laws_eqIntS.l0]
        rw [if_pos (by omega), if_pos (by omega), if_pos (by omega), rd_nat _ _ h, rd_nat _ _ (by omega), if_neg hx]) (fun k i h hx => by
        simp only [laws_eqIntS.l0]
        rw [if_pos (by omega), if_pos (by omega), if_pos (by omega), rd_nat _ _ h, rd_nat _ _ (by omega), if_pos hx, wr _ (by omega) (by omega)]
        rfl) (fun k => by
        simp only [laws_eqIntS.l0]
        rw [if_neg (by omega)]) a.length k 0 (by omega) hk
    simpa using h
  · rw [if_neg (by omega)]
    congr 1
    symm
    rw [decide_eq_false_iff_not]
    rintro rfl
    exact e rfl

theorem markIntS_eq (k : Nat) (l : List Int) (m : Int) (hl : l.length ≤ 1048576) (hk : l.length < k) (h0 : 0 ≤ m) (h1 : m ≤ 4194304) : laws_markIntS.f k l m = some (m + l.length, marks m l.length) := by
  have h := mark_loop laws_markIntS.l0 l.length m (fun k x0 i h3 h => by
      simp only [laws_markIntS.l0]
      rw [if_pos (by omega), if_pos (by omega), wr (m + i + 1) (by omega) (by omega), wr ((i : Int) + 1) (by omega) (by omega), show m + (i : Int) + 1 = m + ((i + 1 : Nat) : Int) by omega]
      rfl) (fun k x0 h3 => by
      simp only [laws_markIntS.l0]
      rw [if_neg (by omega)]) l.length k l 0 rfl (by omega) hk (fun j hj => by omega)
  unfold laws_markIntS.f
  simpa using h

theorem heldIntS_eq (k n : Nat) (m : Int) (hl : n ≤ 1048576) (hk : n < k) (h0 : 0 ≤ m) (h1 : m ≤ 4194304) : laws_heldIntS.f k (marks m n) m = some (m + n) := by
  have h := held_loop laws_heldIntS.l0 n m (fun k i h => by
      have hg : rd (marks m n) (i : Int) = m + i := by
        rw [rd_nat _ _ (by rw [marks_length]; exact h)]
        have := marks_get m n i h
        rw [List.getElem?_eq_getElem (by rw [marks_length]; exact h)] at this
        injection this
      simp only [laws_heldIntS.l0, marks_length]
      rw [if_pos (by omega), if_pos (by omega), hg, if_pos rfl, wr (m + i + 1) (by omega) (by omega), wr ((i : Int) + 1) (by omega) (by omega), show m + (i : Int) + 1 = m + ((i + 1 : Nat) : Int) by omega]
      rfl) (fun k => by
      simp only [laws_heldIntS.l0, marks_length]
      rw [if_neg (by omega)]) n k 0 (by omega) hk
  unfold laws_heldIntS.f
  simpa using h

theorem rd_mem (l : List Int) (p : Int) (h0 : 0 ≤ p) (h1 : p < (l.length : Int)) : rd l p ∈ l := by
  obtain ⟨m, rfl⟩ : ∃ m : Nat, p = m := ⟨p.toNat, by omega⟩
  rw [rd_nat _ _ (by omega)]; exact List.getElem_mem _

def reg_ (l : List Int) : Prop := l.length = 64 ∧ ∀ x ∈ l, 0 ≤ x ∧ x ≤ 65535
instance (l : List Int) : Decidable (reg_ l) := by unfold reg_; infer_instance
theorem sreg_eq (k : Nat) (l : List Int) (hk : 64 < k) : spec_RegistersOk.f k l = some (decide (reg_ l)) := by
  unfold spec_RegistersOk.f
  by_cases h64 : l.length = 64
  · rw [if_pos (by omega)]
    have h := scan_loop (fun k (_ : Unit) i => spec_l04Words.l0 k l i) l (fun _ x => if 0 ≤ x ∧ x ≤ 65535 then Sum.inl () else Sum.inr false) (fun _ => true)
      (fun k s i h s' e => by
        have hx : 0 ≤ l[i] ∧ l[i] ≤ 65535 := by
          by_cases hx : 0 ≤ l[i] ∧ l[i] ≤ 65535
          · exact hx
          · simp [hx] at e
        simp only [spec_l04Words.l0]
        rw [if_pos (by omega), if_pos (by omega), l01In_eq, Option.bind_some, rd_nat _ _ h, if_pos (by simp [hx]), wr ((i : Int) + 1) (by omega) (by omega)]
        rfl)
      (fun k s i h r e => by
        have hx : ¬ (0 ≤ l[i] ∧ l[i] ≤ 65535) := by
          intro hx; simp [hx] at e
        rw [if_neg hx] at e
        injection e with e
        subst e
        simp only [spec_l04Words.l0]
        rw [if_pos (by omega), if_pos (by omega), l01In_eq, Option.bind_some, rd_nat _ _ h, if_neg (by simp only [decide_eq_true_eq]; exact hx)])
      (fun k s => by
        simp only [spec_l04Words.l0]
        rw [if_neg (by omega)]) l.length k () 0 (by omega) (by omega)
    have e : ∀ xs : List Int, runL (fun _ x => if 0 ≤ x ∧ x ≤ 65535 then Sum.inl () else Sum.inr false) (fun _ => true) () xs = decide (∀ x ∈ xs, 0 ≤ x ∧ x ≤ 65535) := by
      intro xs
      induction xs with
      | nil => simp [runL]
      | cons x xs ih =>
        unfold runL
        by_cases hx : 0 ≤ x ∧ x ≤ 65535
        · rw [if_pos hx]; simp only [ih]; simp [hx]
        · rw [if_neg hx]; simp only [List.mem_cons, forall_eq_or_imp, hx, false_and, decide_false]
    rw [e] at h
    have h' : spec_l04Words.f k l = some (decide (∀ x ∈ l, 0 ≤ x ∧ x ≤ 65535)) := h
    rw [h']
    simp only [Option.bind_some]
    congr 1
    rw [Bool.eq_iff_iff, decide_eq_true_eq, decide_eq_true_eq]
    exact ⟨fun h => ⟨h64, h⟩, fun h => h.2⟩
  · rw [if_neg (by omega)]
    congr 1; symm; rw [decide_eq_false_iff_not]; exact fun h => h64 h.1
theorem ireg_eq (l : List Int) : impl_RegistersOk.f l = some (decide (reg_ l)) := by
  have hv : ∀ x, (impl_RegistersOk_1.f x).getD false = !decide (0 ≤ x ∧ x ≤ 65535) := by
    intro x; unfold impl_RegistersOk_1.f impl_isWord.f; rw [within_eq]; rfl
  have hany : slices_ContainsFunc_int_int_impl_RegistersOk_1.f l = some (!decide (∀ x ∈ l, 0 ≤ x ∧ x ≤ 65535)) := by
    unfold slices_ContainsFunc_int_int_impl_RegistersOk_1.f
    congr 1
    simp only [hv]
    rw [Bool.eq_iff_iff, List.any_eq_true, Bool.not_eq_true', decide_eq_false_iff_not]
    simp only [Bool.not_eq_true', decide_eq_false_iff_not, Classical.not_forall, exists_prop]
  unfold impl_RegistersOk.f
  rw [hany]
  by_cases h64 : l.length = 64
  · rw [if_pos (by omega)]
    simp only [Option.bind_some, Bool.not_not]
    congr 1
    rw [Bool.eq_iff_iff, decide_eq_true_eq, decide_eq_true_eq]
    exact ⟨fun h => ⟨h64, h⟩, fun h => h.2⟩
  · rw [if_neg (by omega)]
    congr 1; symm; rw [decide_eq_false_iff_not]; exact fun h => h64 h.1

theorem has_eq (k : Nat) (l : List Int) (a : Int) (hl : l.length ≤ 1048576) (hk : l.length < k) : spec_l19Has.f k l a = some (decide (a ∈ l)) := by
  have h := scan_loop (fun k (_ : Unit) i => spec_l19Has.l0 k l a i) l (fun _ x => if x = a then Sum.inr true else Sum.inl ()) (fun _ => false)
    (fun k s i h s' e => by
      have hx : ¬ l[i] = a := by intro hx; simp [hx] at e
      simp only [spec_l19Has.l0]
      rw [if_pos (by omega), if_pos (by omega), rd_nat _ _ h, if_neg hx, wr ((i : Int) + 1) (by omega) (by omega)]
      rfl)
    (fun k s i h r e => by
      have hx : l[i] = a := by
        by_cases hx : l[i] = a
        · exact hx
        · simp [hx] at e
      rw [if_pos hx] at e
      injection e with e
      subst e
      simp only [spec_l19Has.l0]
      rw [if_pos (by omega), if_pos (by omega), rd_nat _ _ h, if_pos hx])
    (fun k s => by
      simp only [spec_l19Has.l0]
      rw [if_neg (by omega)]) l.length k () 0 (by omega) hk
  have e : ∀ xs : List Int, runL (fun _ x => if x = a then Sum.inr true else Sum.inl ()) (fun _ => false) () xs = decide (a ∈ xs) := by
    intro xs
    induction xs with
    | nil => simp [runL]
    | cons x xs ih =>
      unfold runL
      by_cases hx : x = a
      · rw [if_pos hx]; simp [hx]
      · rw [if_neg hx]; simp only [ih]; simp [show ¬ a = x from fun h => hx h.symm]
  rw [e] at h
  exact h
/-- Where an element first stands. -/
def ix_ (a : Int) : Nat → List Int → Int
  | _, [] => -1
  | i, x :: xs => if a = x then i else ix_ a (i + 1) xs
theorem ix_spec (a : Int) : ∀ (xs : List Int) (i : Nat), (a ∈ xs → ∃ j : Nat, ix_ a i xs = ((i + j : Nat) : Int) ∧ xs[j]? = some a) ∧ (a ∉ xs → ix_ a i xs = -1) := by
  intro xs
  induction xs with
  | nil => intro i; exact ⟨fun h => by simp at h, fun _ => rfl⟩
  | cons x xs ih =>
    intro i
    unfold ix_
    by_cases hx : a = x
    · rw [if_pos hx]
      exact ⟨fun _ => ⟨0, by simp, by simp [hx]⟩, fun h => absurd (by simp [hx]) h⟩
    · rw [if_neg hx]
      refine ⟨fun h => ?_, fun h => (ih (i + 1)).2 (fun h2 => h (by simp [h2]))⟩
      obtain ⟨j, e1, e2⟩ := (ih (i + 1)).1 (by simpa [hx] using h)
      exact ⟨j + 1, by rw [e1]; congr 1; omega, by simpa using e2⟩
theorem index_eq (k : Nat) (l : List Int) (a : Int) (hl : l.length ≤ 1048576) (hk : l.length < k) : slices_Index_int_int.f k l a = some (ix_ a 0 l) := by
  have h : ∀ (d k i : Nat), i + d = l.length → d < k → slices_Index_int_int.l0 k l a (l.length : Int) (i : Int) = some (ix_ a i (l.drop i)) := by
    intro d
    induction d with
    | zero =>
      intro k i hi hk
      obtain ⟨k, rfl⟩ : ∃ m, k = m + 1 := ⟨k - 1, by omega⟩
      simp only [slices_Index_int_int.l0]
      rw [if_neg (by omega), List.drop_of_length_le (by omega)]; rfl
    | succ d ih =>
      intro k i hi hk
      obtain ⟨k, rfl⟩ : ∃ m, k = m + 1 := ⟨k - 1, by omega⟩
      simp only [slices_Index_int_int.l0]
      rw [if_pos (by omega), if_pos (by omega), if_pos (by omega), rd_nat _ _ (by omega), List.drop_eq_getElem_cons (by omega), wr ((i : Int) + 1) (by omega) (by omega)]
      unfold ix_
      by_cases hx : a = l[i]'(by omega)
      · rw [if_pos hx, if_pos hx]
      · rw [if_neg hx, if_neg hx]; exact ih k (i + 1) (by omega) (by omega)
  have := h l.length k 0 (by omega) hk
  unfold slices_Index_int_int.f
  simpa using this
theorem cont_eq (k : Nat) (l : List Int) (a : Int) (hl : l.length ≤ 1048576) (hk : l.length < k) : slices_Contains_int_int.f k l a = some (decide (a ∈ l)) := by
  unfold slices_Contains_int_int.f
  rw [index_eq k l a hl hk]
  simp only [Option.bind_some]
  congr 1
  rw [Bool.eq_iff_iff, decide_eq_true_eq, decide_eq_true_eq]
  by_cases h : a ∈ l
  · obtain ⟨j, e, _⟩ := (ix_spec a l 0).1 h
    rw [e]; exact ⟨fun _ => h, fun _ => by omega⟩
  · rw [(ix_spec a l 0).2 h]; exact ⟨fun h2 => by omega, fun h2 => absurd h2 h⟩
theorem nodup_len : ∀ (n : Nat) (l : List Int), l.Nodup → (∀ x ∈ l, 0 ≤ x ∧ x < (n : Int)) → l.length ≤ n := by
  intro n
  induction n with
  | zero =>
    intro l _ h
    cases l with
    | nil => simp
    | cons x xs => have := h x (by simp); omega
  | succ n ih =>
    intro l hn h
    by_cases hx : (n : Int) ∈ l
    · have h1 := ih (l.erase (n : Int)) (hn.erase _) (fun x hx => by
        have h2 := (hn.mem_erase_iff).mp hx
        have := h x h2.2
        have := h2.1
        omega)
      rw [List.length_erase_of_mem hx] at h1
      omega
    · have := ih l hn (fun x hx2 => by
        have h2 := h x hx2
        have : x ≠ (n : Int) := fun e => hx (e ▸ hx2)
        omega)
      omega
/-- The chain of capabilities from x on. -/
def cap_ (r : List Int) : Nat → List Int → Int → List Int × Bool
  | 0, _, _ => ([], false)
  | d + 1, out, x => if x = 0 then (out, true) else if 8 ≤ x ∧ x ≤ 63 then (if x ∈ out then ([], false) else cap_ r d (out ++ [x]) (Int.tdiv (rd r x) 256)) else ([], false)
def caps_ (r : List Int) : List Int × Bool := if reg_ r then cap_ r 64 [] (rd r 4) else ([], false)
theorem cap_in (r : List Int) : ∀ d out x, out.Nodup → (∀ y ∈ out, 8 ≤ y ∧ y ≤ 63) → (cap_ r d out x).1.Nodup ∧ (∀ y ∈ (cap_ r d out x).1, 8 ≤ y ∧ y ≤ 63) := by
  intro d
  induction d with
  | zero => intro out x _ _; simp [cap_]
  | succ d ih =>
    intro out x h1 h2
    unfold cap_
    by_cases hx : x = 0
    · rw [if_pos hx]; exact ⟨h1, h2⟩
    · rw [if_neg hx]
      by_cases hp : 8 ≤ x ∧ x ≤ 63
      · rw [if_pos hp]
        by_cases hm : x ∈ out
        · rw [if_pos hm]; simp
        · rw [if_neg hm]
          refine ih _ _ (List.nodup_append.mpr ⟨h1, by simp, ?_⟩) ?_
          · intro a ha b hb
            rintro rfl
            simp at hb; exact hm (hb ▸ ha)
          · intro y hy
            rcases List.mem_append.mp hy with hy | hy
            · exact h2 y hy
            · simp at hy; omega
      · rw [if_neg hp]; simp
theorem caps_in (r : List Int) : (caps_ r).1.Nodup ∧ (∀ y ∈ (caps_ r).1, 8 ≤ y ∧ y ≤ 63) := by
  unfold caps_
  split
  · exact cap_in r _ _ _ (by simp) (by simp)
  · simp
theorem nd_len (l : List Int) (h1 : l.Nodup) (h2 : ∀ y ∈ l, 8 ≤ y ∧ y ≤ 63) : l.length ≤ 64 :=
  nodup_len 64 l h1 (fun x hx => by have := h2 x hx; omega)
theorem caps_len (r : List Int) : (caps_ r).1.length ≤ 64 := nd_len _ (caps_in r).1 (caps_in r).2
theorem td_ (x : Int) (h0 : 0 ≤ x) (h1 : x ≤ 65535) : 0 ≤ Int.tdiv x 256 ∧ Int.tdiv x 256 ≤ 255 := by
  rw [Int.tdiv_eq_ediv_of_nonneg h0]; omega
theorem nd56 (l : List Int) (h1 : l.Nodup) (h2 : ∀ y ∈ l, 8 ≤ y ∧ y ≤ 63) : l.length ≤ 56 := by
  have hm : (l.map (fun y => y - 8)).Nodup := by
    have : ∀ l : List Int, l.Nodup → (l.map (fun y => y - 8)).Nodup := by
      intro l
      induction l with
      | nil => intro _; simp
      | cons x xs ih =>
        intro h
        rw [List.nodup_cons] at h
        rw [List.map_cons, List.nodup_cons]
        refine ⟨fun hm => ?_, ih h.2⟩
        obtain ⟨y, hy, e⟩ := List.mem_map.mp hm
        have : y = x := by omega
        exact h.1 (this ▸ hy)
    exact this l h1
  have := nodup_len 56 _ hm (fun x hx => by
    obtain ⟨y, hy, rfl⟩ := List.mem_map.mp hx
    have := h2 y hy; omega)
  simpa using this
theorem scl_eq (r : List Int) (hr : reg_ r) : ∀ (d k : Nat) (out : List Int) (x : Int), 64 ≤ d + out.length → out.Nodup → (∀ y ∈ out, 8 ≤ y ∧ y ≤ 63) → d + 64 < k → spec_CapsOf.l0 k r out x = some (cap_ r d out x) := by
  intro d
  induction d with
  | zero => intro k out x h h1 h2 hk; have := nd56 out h1 h2; omega
  | succ d ih =>
    intro k out x h h1 h2 hk
    obtain ⟨k, rfl⟩ : ∃ m, k = m + 1 := ⟨k - 1, by omega⟩
    have hl := nd56 out h1 h2
    simp only [spec_CapsOf.l0, cap_]
    by_cases hx : x = 0
    · rw [if_pos hx, if_pos hx]
    · rw [if_neg hx, if_neg hx, l01In_eq]
      simp only [Option.bind_some, decide_eq_true_eq]
      by_cases hp : 8 ≤ x ∧ x ≤ 63
      · rw [if_pos hp, if_pos hp, has_eq k out x (by omega) (by omega)]
        simp only [Option.bind_some, decide_eq_true_eq]
        by_cases hm : x ∈ out
        · rw [if_pos hm, if_pos hm]
        · have hr0 := hr.1
          have hv := hr.2 _ (rd_mem r x (by omega) (by omega))
          have ht := td_ _ hv.1 hv.2
          rw [if_neg hm, if_neg hm, if_pos (by omega), if_pos (by omega), if_pos (by omega), wr _ (by omega) (by omega)]
          have hi := cap_in r 0 (out ++ [x])
          refine ih k _ _ (by simp; omega) (List.nodup_append.mpr ⟨h1, by simp, ?_⟩) ?_ (by omega)
          · intro a ha b hb
            rintro rfl
            simp at hb; exact hm (hb ▸ ha)
          · intro y hy
            rcases List.mem_append.mp hy with hy | hy
            · exact h2 y hy
            · simp at hy; omega
      · rw [if_neg hp, if_neg hp]
theorem icl_eq (r : List Int) (hr : reg_ r) : ∀ (d k : Nat) (out : List Int) (x : Int), 64 ≤ d + out.length → out.Nodup → (∀ y ∈ out, 8 ≤ y ∧ y ≤ 63) → d + 64 < k → impl_CapsOf.l0 k r out x = some (cap_ r d out x) := by
  intro d
  induction d with
  | zero => intro k out x h h1 h2 hk; have := nd56 out h1 h2; omega
  | succ d ih =>
    intro k out x h h1 h2 hk
    obtain ⟨k, rfl⟩ : ∃ m, k = m + 1 := ⟨k - 1, by omega⟩
    have hl := nd56 out h1 h2
    simp only [impl_CapsOf.l0, cap_]
    by_cases hx : x = 0
    · rw [if_pos hx, if_pos hx]
    · rw [if_neg hx, if_neg hx]
      unfold impl_isPlace.f
      rw [within_eq]
      simp only [Option.bind_some, decide_eq_true_eq]
      by_cases hp : 8 ≤ x ∧ x ≤ 63
      · rw [if_pos hp, if_pos hp, cont_eq k out x (by omega) (by omega)]
        simp only [Option.bind_some, decide_eq_true_eq]
        by_cases hm : x ∈ out
        · rw [if_pos hm, if_pos hm]
        · have hr0 := hr.1
          have hv := hr.2 _ (rd_mem r x (by omega) (by omega))
          have ht := td_ _ hv.1 hv.2
          rw [if_neg hm, if_neg hm, if_pos (by omega), if_pos (by omega), if_pos (by omega), wr _ (by omega) (by omega)]
          refine ih k _ _ (by simp; omega) (List.nodup_append.mpr ⟨h1, by simp, ?_⟩) ?_ (by omega)
          · intro a ha b hb
            rintro rfl
            simp at hb; exact hm (hb ▸ ha)
          · intro y hy
            rcases List.mem_append.mp hy with hy | hy
            · exact h2 y hy
            · simp at hy; omega
      · rw [if_neg hp, if_neg hp]
theorem scaps_eq (k : Nat) (r : List Int) (hk : 128 < k) : spec_CapsOf.f k r = some (caps_ r) := by
  unfold spec_CapsOf.f caps_
  simp only [Option.bind_some]
  rw [sreg_eq k r (by omega)]
  simp only [Option.bind_some, decide_eq_true_eq]
  by_cases h : reg_ r
  · have := h.1
    rw [if_pos h, if_pos h, if_pos (by omega)]
    exact scl_eq r h 64 k [] _ (by simp) (by simp) (by simp) (by omega)
  · rw [if_neg h, if_neg h]
theorem icaps_eq (k : Nat) (r : List Int) (hk : 128 < k) : impl_CapsOf.f k r = some (caps_ r) := by
  unfold impl_CapsOf.f caps_
  rw [ireg_eq r]
  simp only [Option.bind_some, decide_eq_true_eq]
  by_cases h : reg_ r
  · have := h.1
    rw [if_pos h, if_pos h, if_pos (by omega)]
    exact icl_eq r h 64 k [] _ (by simp) (by simp) (by simp) (by omega)
  · rw [if_neg h, if_neg h]

theorem caps_true (r : List Int) (h : (caps_ r).2 = true) : reg_ r := by
  unfold caps_ at h
  by_cases hr : reg_ r
  · exact hr
  · rw [if_neg hr] at h; cases h
def ac_ (r : List Int) (p q : Int) : Prop := (caps_ r).2 = true ∧ (8 ≤ p ∧ p ≤ 63) ∧ p ∉ (caps_ r).1 ∧ (0 ≤ q ∧ q ≤ 255)
instance (r : List Int) (p q : Int) : Decidable (ac_ r p q) := by unfold ac_; infer_instance
/-- A capability put before the chain. -/
def add_ (r : List Int) (p q : Int) : List Int × Bool :=
  if ac_ r p q then ((r.set p.toNat (wrap64 (wrap64 (rd r 4 * 256) + q))).set 4 p, true) else (r, false)
theorem add_len (r : List Int) (p q : Int) : (add_ r p q).1.length = r.length := by unfold add_; split <;> simp

theorem sadd_eq (k : Nat) (r : List Int) (p q : Int) (hl : r.length ≤ 1048576) (hk : 200 < k) : spec_AddCap.f k r p q = some (add_ r p q) := by
  unfold spec_AddCap.f add_
  simp only [Option.bind_some, List.nil_append, List.length_nil, scaps_eq k r (by omega : 128 < k), l01In_eq, has_eq k (caps_ r).1 p (by have := caps_len r; omega) (by have := caps_len r; omega), decide_eq_true_eq]
  rw [if_pos (by omega)]
  by_cases h1 : (caps_ r).2 = true
  · rw [if_pos h1]
    have hr := (caps_true r h1).1
    by_cases h2 : 8 ≤ p ∧ p ≤ 63
    · rw [if_pos h2]
      by_cases h3 : p ∈ (caps_ r).1
      · rw [if_pos h3, if_neg (show ¬ ac_ r p q from fun h => h.2.2.1 h3)]
      · rw [if_neg h3]
        by_cases h4 : 0 ≤ q ∧ q ≤ 255
        · rw [if_pos h4, if_pos (show ac_ r p q from ⟨h1, h2, h3, h4⟩), if_pos (by omega), if_pos (by omega), if_pos (by omega), if_pos (by omega)]; rfl
        · rw [if_neg h4, if_neg (show ¬ ac_ r p q from fun h => h4 h.2.2.2)]
    · rw [if_neg h2, if_neg (show ¬ ac_ r p q from fun h => h2 h.2.1)]
  · rw [if_neg h1, if_neg (show ¬ ac_ r p q from fun h => h1 h.1)]

theorem iadd_eq (k : Nat) (r : List Int) (p q : Int) (hl : r.length ≤ 1048576) (hk : 200 < k) : impl_AddCap.f k r p q = some (add_ r p q) := by
  unfold impl_AddCap.f add_ slices_Clone_int_int.f impl_isPlace.f impl_isByte.f
  rw [if_pos (by omega)]
  simp only [Option.bind_some, icaps_eq k r (by omega : 128 < k), within_eq, cont_eq k (caps_ r).1 p (by have := caps_len r; omega) (by have := caps_len r; omega), decide_eq_true_eq]
  by_cases h1 : (caps_ r).2 = true
  · rw [if_pos h1]
    have hr := (caps_true r h1).1
    by_cases h2 : 8 ≤ p ∧ p ≤ 63
    · rw [if_pos h2]
      by_cases h3 : p ∈ (caps_ r).1
      · rw [if_pos h3, if_neg (show ¬ ac_ r p q from fun h => h.2.2.1 h3)]
      · rw [if_neg h3]
        by_cases h4 : 0 ≤ q ∧ q ≤ 255
        · rw [if_pos h4, if_pos (show ac_ r p q from ⟨h1, h2, h3, h4⟩), if_pos (by omega), if_pos (by omega), if_pos (by omega), if_pos (by omega)]; rfl
        · rw [if_neg h4, if_neg (show ¬ ac_ r p q from fun h => h4 h.2.2.2)]
    · rw [if_neg h2, if_neg (show ¬ ac_ r p q from fun h => h2 h.2.1)]
  · rw [if_neg h1, if_neg (show ¬ ac_ r p q from fun h => h1 h.1)]

theorem FnExactAddCap : laws_FnExactAddCap.Pure := by
  intro l a b h1 h2 hw ha hb_
  refine ⟨2000003, ?_⟩
  unfold laws_FnExactAddCap.f
  by_cases hb : (l.length : Int) > 1048576
  · rw [if_pos hb]
  · rw [if_neg hb]
    have hc := add_len l a b
    simp only [toIntS_eq 2000003 l (by omega) (by omega), Option.bind_some, sadd_eq 2000003 l a b (by omega) (by omega), iadd_eq 2000003 l a b (by omega) (by omega), eqIntS_eq 2000003 (add_ l a b).1 (add_ l a b).1 (by omega) (by omega), decide_true, if_true]
    show laws_FnExactAddCap.j0 (2000002 + 1) _ _ _ _ _ _ _ _ _ = _
    simp only [laws_FnExactAddCap.j0]
    rw [if_neg (by simp)]
    simp only [toIntS_eq 2000002 l (by omega) (by omega), Option.bind_some, eqIntS_eq 2000002 l l (by omega) (by omega), decide_true, if_true, markIntS_eq 2000002 l 1 (by omega) (by omega) (by omega) (by omega), eqIntS_eq 2000002 (add_ l a b).1 (add_ l a b).1 (by omega) (by omega)]
    rw [if_neg (by omega)]
    show laws_FnExactAddCap.j1 (2000001 + 1) _ _ _ _ _ _ _ = _
    simp only [laws_FnExactAddCap.j1]
    rw [if_neg (by simp)]
    simp only [markIntS_eq 2000001 (add_ l a b).1 1 (by omega) (by omega) (by omega) (by omega), heldIntS_eq 2000001 (add_ l a b).1.length 1 (by omega) (by omega) (by omega) (by omega), Option.bind_some]
    rw [if_neg (by omega)]
    simp only [toIntS_eq 2000001 l (by omega) (by omega), Option.bind_some, iadd_eq 2000001 l a b (by omega) (by omega), eqIntS_eq 2000001 (add_ l a b).1 (add_ l a b).1 (by omega) (by omega), decide_true, if_true]
    show laws_FnExactAddCap.j2 (2000000 + 1) _ _ _ = _
    simp only [laws_FnExactAddCap.j2]
    rw [if_neg (by simp)]
    simp only [heldIntS_eq 2000000 (add_ l a b).1.length 1 (by omega) (by omega) (by omega) (by omega), Option.bind_some, if_true]
    rw [if_neg (by omega)]

end Go.Proofs.Ytgnadhokljjmnaa.Pure
