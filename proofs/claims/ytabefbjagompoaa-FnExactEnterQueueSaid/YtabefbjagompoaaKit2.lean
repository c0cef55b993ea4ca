/- More short words for the printed walks. -/
import Derived.Test.YtabefbjagompoaaKit
namespace Go.Proofs.Ytabefbjagompoaa.Kit2
open Go.RowKit Go.Proofs.YtabefbjagompoaaW.PrintWords Go.Proofs.Ytabefbjagompoaa.Kit
set_option linter.unusedVariables false
def Grown (w W : World) : Prop := ∀ {α : Type} {k : Kd α} {e b : Nat} {ok : Nat → Prop} {v : Value} {xs : List α}, k.R e w b ok v xs → k.R e W b ok v xs
theorem gr_refl (w : World) : Grown w w := fun h => h
theorem gr_alloc {w W : World} (h : Grown w W) (o : Obj) : Grown w (W.alloc o) := fun x => Kd.R_alloc (h x) o
theorem gr_drewN {w W : World} (h : Grown w W) (m : Nat) : Grown w (W.drewN m) := fun x => Kd.R_drewN (h x) m
theorem gr_drew {w W : World} (h : Grown w W) : Grown w W.drew := fun x => Kd.R_drew (h x)
theorem ra {α : Type} {k : Kd α} {e b : Nat} {ok : Nat → Prop} {v : Value} {xs : List α} {w W : World} (h : k.R e w b ok v xs) (g : Grown w W := by (with_reducible repeat (first | apply gr_alloc | apply gr_drewN | apply gr_drew)); exact gr_refl _) : k.R e W b ok v xs := g h
theorem ms {α : Type} {a b : α} (h : a = b := by (try simp only [List.map_toArray, List.map_cons, List.map_nil]); first | done | rfl | (simp only [List.length_drop, List.length_take]; rfl)) : a = b := h
theorem as_ {p : Prop} (h : p := by first | (with_reducible assumption) | assumption) : p := h
theorem fk {p q : Nat → Prop} (h : ∀ k, p k → q k := by intro _ hk; first | exact hk.2 | exact hk) : ∀ k, p k → q k := h
theorem bg {g : Nat} {w W : World} (hg : g = W.heap.size) (h : Below w.heap.size w W := by exact bb) : w.heap.size ≤ g := by rw [hg]; exact below_size h
theorem er {α : Type} {a b : α} (h : a = b := by first | rfl | (simp [errW_none, errW_some] <;> rfl) | (simp [*, errW_none, errW_some] <;> rfl)) : a = b := h
def GrownH (w W : World) : Prop := ∀ {g : Nat} {o : Obj}, w.heap[g]? = some o → W.heap[g]? = some o
theorem gh_refl (w : World) : GrownH w w := fun h => h
theorem gh_alloc {w W : World} (h : GrownH w W) (o : Obj) : GrownH w (W.alloc o) := fun x => blk_alloc (h x) o
theorem gh_drewN {w W : World} (h : GrownH w W) (m : Nat) : GrownH w (W.drewN m) := fun x => blk_drewN (h x) m
theorem gh_drew {w W : World} (h : GrownH w W) : GrownH w W.drew := fun x => blk_drew (h x)
theorem bw {w W w2 : World} {g : Nat} {o : Obj} (h : Aside0 (w.heap[g]? = some o)) (hb : Below W.heap.size W w2) (gr : GrownH w W := by (with_reducible repeat (first | apply gh_alloc | apply gh_drewN | apply gh_drew)); exact gh_refl _) : w2.heap[g]? = some o := blk_below (gr h.out) hb
theorem nl {w W : World} {g g' : Nat} {o : Obj} (h : Aside0 (w.heap[g]? = some o)) (hg : g' = W.heap.size) (gr : GrownH w W := by (with_reducible repeat (first | apply gh_alloc | apply gh_drewN | apply gh_drew)); exact gh_refl _) : g ≠ g' := by rw [hg]; exact Nat.ne_of_lt (blk_lt (gr h.out))
theorem ng {w W : World} {g g' : Nat} {o : Obj} (h : Aside0 (w.heap[g]? = some o)) (hg : g' = W.heap.size) (gr : GrownH w W := by (with_reducible repeat (first | apply gh_alloc | apply gh_drewN | apply gh_drew)); exact gh_refl _) : g' ≠ g := by rw [hg]; exact Nat.ne_of_gt (blk_lt (gr h.out))
theorem fc2 {p0 p1 : Prop} (a0 : p0) (a1 : p1) : Aside0 p0 ∧ Aside0 p1 := ⟨⟨a0⟩, ⟨a1⟩⟩
theorem fc3 {p0 p1 p2 : Prop} (a0 : p0) (a1 : p1) (a2 : p2) : Aside0 p0 ∧ Aside0 p1 ∧ Aside0 p2 := ⟨⟨a0⟩, ⟨a1⟩, ⟨a2⟩⟩
theorem fc4 {p0 p1 p2 p3 : Prop} (a0 : p0) (a1 : p1) (a2 : p2) (a3 : p3) : Aside0 p0 ∧ Aside0 p1 ∧ Aside0 p2 ∧ Aside0 p3 := ⟨⟨a0⟩, ⟨a1⟩, ⟨a2⟩, ⟨a3⟩⟩
theorem fc5 {p0 p1 p2 p3 p4 : Prop} (a0 : p0) (a1 : p1) (a2 : p2) (a3 : p3) (a4 : p4) : Aside0 p0 ∧ Aside0 p1 ∧ Aside0 p2 ∧ Aside0 p3 ∧ Aside0 p4 := ⟨⟨a0⟩, ⟨a1⟩, ⟨a2⟩, ⟨a3⟩, ⟨a4⟩⟩
theorem fc6 {p0 p1 p2 p3 p4 p5 : Prop} (a0 : p0) (a1 : p1) (a2 : p2) (a3 : p3) (a4 : p4) (a5 : p5) : Aside0 p0 ∧ Aside0 p1 ∧ Aside0 p2 ∧ Aside0 p3 ∧ Aside0 p4 ∧ Aside0 p5 := ⟨⟨a0⟩, ⟨a1⟩, ⟨a2⟩, ⟨a3⟩, ⟨a4⟩, ⟨a5⟩⟩
theorem fc7 {p0 p1 p2 p3 p4 p5 p6 : Prop} (a0 : p0) (a1 : p1) (a2 : p2) (a3 : p3) (a4 : p4) (a5 : p5) (a6 : p6) : Aside0 p0 ∧ Aside0 p1 ∧ Aside0 p2 ∧ Aside0 p3 ∧ Aside0 p4 ∧ Aside0 p5 ∧ Aside0 p6 := ⟨⟨a0⟩, ⟨a1⟩, ⟨a2⟩, ⟨a3⟩, ⟨a4⟩, ⟨a5⟩, ⟨a6⟩⟩
theorem fc8 {p0 p1 p2 p3 p4 p5 p6 p7 : Prop} (a0 : p0) (a1 : p1) (a2 : p2) (a3 : p3) (a4 : p4) (a5 : p5) (a6 : p6) (a7 : p7) : Aside0 p0 ∧ Aside0 p1 ∧ Aside0 p2 ∧ Aside0 p3 ∧ Aside0 p4 ∧ Aside0 p5 ∧ Aside0 p6 ∧ Aside0 p7 := ⟨⟨a0⟩, ⟨a1⟩, ⟨a2⟩, ⟨a3⟩, ⟨a4⟩, ⟨a5⟩, ⟨a6⟩, ⟨a7⟩⟩
theorem fc9 {p0 p1 p2 p3 p4 p5 p6 p7 p8 : Prop} (a0 : p0) (a1 : p1) (a2 : p2) (a3 : p3) (a4 : p4) (a5 : p5) (a6 : p6) (a7 : p7) (a8 : p8) : Aside0 p0 ∧ Aside0 p1 ∧ Aside0 p2 ∧ Aside0 p3 ∧ Aside0 p4 ∧ Aside0 p5 ∧ Aside0 p6 ∧ Aside0 p7 ∧ Aside0 p8 := ⟨⟨a0⟩, ⟨a1⟩, ⟨a2⟩, ⟨a3⟩, ⟨a4⟩, ⟨a5⟩, ⟨a6⟩, ⟨a7⟩, ⟨a8⟩⟩
theorem fc10 {p0 p1 p2 p3 p4 p5 p6 p7 p8 p9 : Prop} (a0 : p0) (a1 : p1) (a2 : p2) (a3 : p3) (a4 : p4) (a5 : p5) (a6 : p6) (a7 : p7) (a8 : p8) (a9 : p9) : Aside0 p0 ∧ Aside0 p1 ∧ Aside0 p2 ∧ Aside0 p3 ∧ Aside0 p4 ∧ Aside0 p5 ∧ Aside0 p6 ∧ Aside0 p7 ∧ Aside0 p8 ∧ Aside0 p9 := ⟨⟨a0⟩, ⟨a1⟩, ⟨a2⟩, ⟨a3⟩, ⟨a4⟩, ⟨a5⟩, ⟨a6⟩, ⟨a7⟩, ⟨a8⟩, ⟨a9⟩⟩
theorem fc11 {p0 p1 p2 p3 p4 p5 p6 p7 p8 p9 p10 : Prop} (a0 : p0) (a1 : p1) (a2 : p2) (a3 : p3) (a4 : p4) (a5 : p5) (a6 : p6) (a7 : p7) (a8 : p8) (a9 : p9) (a10 : p10) : Aside0 p0 ∧ Aside0 p1 ∧ Aside0 p2 ∧ Aside0 p3 ∧ Aside0 p4 ∧ Aside0 p5 ∧ Aside0 p6 ∧ Aside0 p7 ∧ Aside0 p8 ∧ Aside0 p9 ∧ Aside0 p10 := ⟨⟨a0⟩, ⟨a1⟩, ⟨a2⟩, ⟨a3⟩, ⟨a4⟩, ⟨a5⟩, ⟨a6⟩, ⟨a7⟩, ⟨a8⟩, ⟨a9⟩, ⟨a10⟩⟩
theorem fc17 {p0 p1 p2 p3 p4 p5 p6 p7 p8 p9 p10 p11 p12 p13 p14 p15 p16 : Prop} (a0 : p0) (a1 : p1) (a2 : p2) (a3 : p3) (a4 : p4) (a5 : p5) (a6 : p6) (a7 : p7) (a8 : p8) (a9 : p9) (a10 : p10) (a11 : p11) (a12 : p12) (a13 : p13) (a14 : p14) (a15 : p15) (a16 : p16) : Aside0 p0 ∧ Aside0 p1 ∧ Aside0 p2 ∧ Aside0 p3 ∧ Aside0 p4 ∧ Aside0 p5 ∧ Aside0 p6 ∧ Aside0 p7 ∧ Aside0 p8 ∧ Aside0 p9 ∧ Aside0 p10 ∧ Aside0 p11 ∧ Aside0 p12 ∧ Aside0 p13 ∧ Aside0 p14 ∧ Aside0 p15 ∧ Aside0 p16 := ⟨⟨a0⟩, ⟨a1⟩, ⟨a2⟩, ⟨a3⟩, ⟨a4⟩, ⟨a5⟩, ⟨a6⟩, ⟨a7⟩, ⟨a8⟩, ⟨a9⟩, ⟨a10⟩, ⟨a11⟩, ⟨a12⟩, ⟨a13⟩, ⟨a14⟩, ⟨a15⟩, ⟨a16⟩⟩
end Go.Proofs.Ytabefbjagompoaa.Kit2
