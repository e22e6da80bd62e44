/- limb: 'a, b, c := f(), g(), h()' of whole numbers: three calls, three variables, in whatever order. -/
import Derived.Test.YtlcjnahfahobjaaLbJ
import Derived.Deep.RegionHeld3
namespace Go.Proofs.Ytlcjnahfahobjaa.Lb
open Go.RowKit Go.Proofs.YtlcjnahfahobjaaW.PrintWords Go.Proofs.YtlcjnahfahobjaaW.PrintLast Go.Proofs.YtlcjnahfahobjaaW.PrintMore
set_option linter.unusedVariables false
set_option linter.unusedSimpArgs false

/-- A number's limbs, which lie in none of the blocks G. -/
def Rd (w : World) (z : Int) (B : Option Addr) (d : Nat) (G : List Nat) : Prop := ∃ ok : Nat → Prop, Kd.V u64 50 w 0 ok (.slice B (lm z).length d) (lm z) ∧ ∀ k, ok k → k < w.heap.size ∧ k ∉ G
theorem Rd.rv {w : World} {z : Int} {B : Option Addr} {d : Nat} {G : List Nat} (h : Rd w z B d G) : RV w B d z := by
  obtain ⟨ok, hV, _⟩ := h
  have := Kd.V_reads' hV
  exact ⟨this.2.1, this.2.2⟩
theorem Rd.below {w w' : World} {z : Int} {B : Option Addr} {d : Nat} {G : List Nat} (h : Rd w z B d G) (hb : Below w.heap.size w w') : Rd w' z B d G := by
  obtain ⟨ok, hV, ho⟩ := h
  exact ⟨ok, Kd.V_below hV hb, fun k hk => ⟨Nat.lt_of_lt_of_le (ho k hk).1 hb.size, (ho k hk).2⟩⟩
theorem Rd.alloc {w : World} {z : Int} {B : Option Addr} {d : Nat} {G G' : List Nat} (h : Rd w z B d G) (o : Obj) (hG : ∀ k, k ∈ G' → k ∈ G ∨ k = w.heap.size) : Rd (w.alloc o) z B d G' := by
  obtain ⟨ok, hV, ho⟩ := h
  refine ⟨ok, Kd.V_alloc hV _, fun k hk => ⟨by have := (ho k hk).1; simp; omega, fun hm => ?_⟩⟩
  rcases hG k hm with h1 | h1
  · exact (ho k hk).2 h1
  · have := (ho k hk).1; omega
theorem Rd.set {w : World} {z : Int} {B : Option Addr} {d : Nat} {G : List Nat} (h : Rd w z B d G) {g : Nat} (hg : g ∈ G) (i : Nat) (u : Value) : Rd (w.setCell ⟨g, i, none⟩ u) z B d G := by
  obtain ⟨ok, hV, ho⟩ := h
  refine ⟨ok, Kd.V_far hV (fun k hk he => (ho k hk).2 (by rw [he]; exact hg)) _, fun k hk => ⟨by have := (ho k hk).1; simpa using this, (ho k hk).2⟩⟩
theorem Rd.new {w w' : World} {z : Int} {B : Option Addr} {d : Nat} {G : List Nat} {b : Nat} (hV : Kd.V u64 50 w' b (fun k => w.heap.size ≤ k) (.slice B (lm z).length d) (lm z)) (hG : ∀ k ∈ G, k < w.heap.size) : Rd w' z B d G :=
  ⟨_, Kd.V_map (base' := 0) (Kd.V_bound hV) (fun _ hf => hf), fun k hk => ⟨hk.2, fun hm => by have := hG k hm; have := hk.1; omega⟩⟩
/-- An empty variable; a full one. -/
abbrev blank : Obj := .cells #[.bool false, .slice none 0 0] 24
def gl (a1 a2 a3 : Option Nat) : List Nat := a1.toList ++ a2.toList ++ a3.toList
/-- What is known once some of the calls and some of the variables are made. -/
structure Fx (H : World → Prop) (w0 : World) (z1 z2 z3 : Int) (c1 c2 c3 : Option (Option Addr × Nat)) (a1 a2 a3 : Option Nat) (w : World) : Prop where
  h : H w
  b : Below w0.heap.size w0 w
  r1 : ∀ B d, c1 = some (B, d) → Rd w z1 B d (gl a1 a2 a3)
  r2 : ∀ B d, c2 = some (B, d) → Rd w z2 B d (gl a1 a2 a3)
  r3 : ∀ B d, c3 = some (B, d) → Rd w z3 B d (gl a1 a2 a3)
  g : ∀ k ∈ gl a1 a2 a3, w.heap[k]? = some (.cells #[.bool false, .slice none 0 0] 24 (0, 0)) ∧ w0.heap.size ≤ k
  n : (gl a1 a2 a3).Nodup
theorem Fx.lt {H : World → Prop} {w0 : World} {z1 z2 z3 : Int} {c1 c2 c3 : Option (Option Addr × Nat)} {a1 a2 a3 : Option Nat} {w : World} (h : Fx H w0 z1 z2 z3 c1 c2 c3 a1 a2 a3 w) : ∀ k ∈ gl a1 a2 a3, k < w.heap.size := fun k hk => (Array.getElem?_eq_some_iff.1 (h.g k hk).1).1
/-- Behind a call. -/
theorem Fx.step {H : World → Prop} (hH : ∀ w w' : World, H w → Below w.heap.size w w' → H w') {w0 : World} {z1 z2 z3 : Int} {c1 c2 c3 c1' c2' c3' : Option (Option Addr × Nat)} {a1 a2 a3 : Option Nat} {w w' : World} (h : Fx H w0 z1 z2 z3 c1 c2 c3 a1 a2 a3 w) (hb : Below w.heap.size w w')
    (h1 : ∀ B d, c1' = some (B, d) → c1 = some (B, d) ∨ Rd w' z1 B d (gl a1 a2 a3)) (h2 : ∀ B d, c2' = some (B, d) → c2 = some (B, d) ∨ Rd w' z2 B d (gl a1 a2 a3)) (h3 : ∀ B d, c3' = some (B, d) → c3 = some (B, d) ∨ Rd w' z3 B d (gl a1 a2 a3)) :
    Fx H w0 z1 z2 z3 c1' c2' c3' a1 a2 a3 w' :=
  ⟨hH _ _ h.h hb, below_then h.b h.b.size hb, fun B d e => (h1 B d e).elim (fun e => (h.r1 B d e).below hb) id, fun B d e => (h2 B d e).elim (fun e => (h.r2 B d e).below hb) id, fun B d e => (h3 B d e).elim (fun e => (h.r3 B d e).below hb) id,
    fun k hk => ⟨(hb.block k (h.lt k hk)).trans (h.g k hk).1, (h.g k hk).2⟩, h.n⟩
/-- Behind a variable's making. -/
theorem Fx.made {H : World → Prop} (hH : ∀ w w' : World, H w → Below w.heap.size w w' → H w') {w0 : World} {z1 z2 z3 : Int} {c1 c2 c3 : Option (Option Addr × Nat)} {a1 a2 a3 a1' a2' a3' : Option Nat} {w : World} (h : Fx H w0 z1 z2 z3 c1 c2 c3 a1 a2 a3 w)
    (hm : ∀ k, k ∈ gl a1' a2' a3' → k ∈ gl a1 a2 a3 ∨ k = w.heap.size) (hn : (∀ k ∈ gl a1 a2 a3, k < w.heap.size) → (gl a1' a2' a3').Nodup) :
    Fx H w0 z1 z2 z3 c1 c2 c3 a1' a2' a3' (w.alloc blank) := by
  have hb := (Below.refl w.heap.size w).alloc (Nat.le_refl _) blank
  refine ⟨hH _ _ h.h hb, below_then h.b h.b.size hb, fun B d e => (h.r1 B d e).alloc _ hm, fun B d e => (h.r2 B d e).alloc _ hm, fun B d e => (h.r3 B d e).alloc _ hm, fun k hk => ?_, hn h.lt⟩
  rcases hm k hk with h1 | h1
  · exact ⟨(hb.block k (h.lt k h1)).trans (h.g k h1).1, (h.g k h1).2⟩
  · subst h1
    exact ⟨heap_alloc_new w _, h.b.size⟩
/-- The end: the three stores. -/
theorem Fx.cut {H : World → Prop} {w0 : World} {z1 z2 z3 : Int} {B1 B2 B3 : Option Addr} {d1 d2 d3 g1 g2 g3 : Nat} {w : World} (h : Fx H w0 z1 z2 z3 (some (B1, d1)) (some (B2, d2)) (some (B3, d3)) (some g1) (some g2) (some g3) w) :
    Cut3 w0 z1 z2 z3 (.pointer (some ⟨g1, 0, none⟩)) (.pointer (some ⟨g2, 0, none⟩)) (.pointer (some ⟨g3, 0, none⟩))
      ((((((w.setCell ⟨g1, 0, none⟩ (.bool (sg z1))).setCell ⟨g1, 1, none⟩ (.slice B1 (lm z1).length d1)).setCell ⟨g2, 0, none⟩ (.bool (sg z2))).setCell ⟨g2, 1, none⟩ (.slice B2 (lm z2).length d2)).setCell ⟨g3, 0, none⟩ (.bool (sg z3))).setCell ⟨g3, 1, none⟩ (.slice B3 (lm z3).length d3)) := by
  have m1 : g1 ∈ gl (some g1) (some g2) (some g3) := by simp [gl]
  have m2 : g2 ∈ gl (some g1) (some g2) (some g3) := by simp [gl]
  have m3 : g3 ∈ gl (some g1) (some g2) (some g3) := by simp [gl]
  obtain ⟨k1, l1⟩ := h.g g1 m1
  obtain ⟨k2, l2⟩ := h.g g2 m2
  obtain ⟨k3, l3⟩ := h.g g3 m3
  have hn := h.n
  have n12 : g1 ≠ g2 := fun e => by subst e; simp [gl] at hn
  have n13 : g1 ≠ g3 := fun e => by subst e; simp [gl] at hn
  have n23 : g2 ≠ g3 := fun e => by subst e; simp [gl] at hn
  have R : ∀ {z : Int} {B : Option Addr} {d : Nat}, Rd w z B d (gl (some g1) (some g2) (some g3)) → RV ((((((w.setCell ⟨g1, 0, none⟩ (.bool (sg z1))).setCell ⟨g1, 1, none⟩ (.slice B1 (lm z1).length d1)).setCell ⟨g2, 0, none⟩ (.bool (sg z2))).setCell ⟨g2, 1, none⟩ (.slice B2 (lm z2).length d2)).setCell ⟨g3, 0, none⟩ (.bool (sg z3))).setCell ⟨g3, 1, none⟩ (.slice B3 (lm z3).length d3)) B d z := fun hr =>
    ((((((hr.set m1 _ _).set m1 _ _).set m2 _ _).set m2 _ _).set m3 _ _).set m3 _ _).rv
  refine ⟨g1, B1, d1, g2, B2, d2, g3, B3, d3, rfl, rfl, rfl, ⟨⟨?_, R (h.r1 _ _ rfl)⟩⟩, ⟨⟨?_, R (h.r2 _ _ rfl)⟩⟩, ⟨⟨?_, R (h.r3 _ _ rfl)⟩⟩, ⟨?_⟩⟩
  · have q := blk_set (blk_set k1 0 (.bool (sg z1))) 1 (.slice B1 (lm z1).length d1)
    exact blk_far (blk_far (blk_far (blk_far q (p := ⟨g2, 0, none⟩) n12 _) (p := ⟨g2, 1, none⟩) n12 _) (p := ⟨g3, 0, none⟩) n13 _) (p := ⟨g3, 1, none⟩) n13 _
  · have q := blk_set (blk_set (blk_far (blk_far k2 (p := ⟨g1, 0, none⟩) (Ne.symm n12) (.bool (sg z1))) (p := ⟨g1, 1, none⟩) (Ne.symm n12) (.slice B1 (lm z1).length d1)) 0 (.bool (sg z2))) 1 (.slice B2 (lm z2).length d2)
    exact blk_far (blk_far q (p := ⟨g3, 0, none⟩) n23 _) (p := ⟨g3, 1, none⟩) n23 _
  · exact blk_set (blk_set (blk_far (blk_far (blk_far (blk_far k3 (p := ⟨g1, 0, none⟩) (Ne.symm n13) (.bool (sg z1))) (p := ⟨g1, 1, none⟩) (Ne.symm n13) (.slice B1 (lm z1).length d1)) (p := ⟨g2, 0, none⟩) (Ne.symm n23) (.bool (sg z2))) (p := ⟨g2, 1, none⟩) (Ne.symm n23) (.slice B2 (lm z2).length d2)) 0 (.bool (sg z3))) 1 (.slice B3 (lm z3).length d3)
  · exact (((((h.b.setCell l1 _).setCell l1 _).setCell l2 _).setCell l2 _).setCell l3 _).setCell l3 _
end Go.Proofs.Ytlcjnahfahobjaa.Lb
