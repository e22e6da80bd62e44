/- limb: the document's numbers with no power of two: sums, differences, order: walked by hand, read only. -/
import Derived.Test.YtlcjnahfahobjaaPDx0
import Derived.Test.YtlcjnahfahobjaaLbC
import Derived.Test.YtlcjnahfahobjaaLbPc
import Derived.Test.YtlcjnahfahobjaaLbB
import Derived.Deep.RegionHeld3
namespace Go.Proofs.Ytlcjnahfahobjaa.Lb
open Go.RowKit Go.Proofs.YtlcjnahfahobjaaW.PrintWords Go.Proofs.YtlcjnahfahobjaaW.PrintLast Go.Proofs.YtlcjnahfahobjaaW.PrintMore
set_option linter.unusedVariables false
set_option linter.unusedSimpArgs false

/-- A variable that holds a number. -/
structure NW (w : World) (g : Nat) (s : Bool) (A : Option Addr) (c : Nat) (R : List Int) : Prop where
  blk : w.heap[g]? = some (.cells #[.bool s, .slice A R.length c, .int .i64 0] 62 (0, 0))
  row : u64.C w A R.length R
  cap : R.length ≤ c
theorem NW.below {w w' : World} {g : Nat} {s : Bool} {A : Option Addr} {c : Nat} {R : List Int} (h : NW w g s A c R) (hb : Below w.heap.size w w') : NW w' g s A c R :=
  ⟨(hb.block g (Array.getElem?_eq_some_iff.1 h.blk).1).trans h.blk, Kd.C_below h.row hb, h.cap⟩
theorem NW.drew {w : World} {g : Nat} {s : Bool} {A : Option Addr} {c : Nat} {R : List Int} (h : NW w g s A c R) : NW w.drew g s A c R := h.below (Below.refl _ _).drew
theorem NW.alloc {w : World} {g : Nat} {s : Bool} {A : Option Addr} {c : Nat} {R : List Int} (h : NW w g s A c R) (o : Obj) : NW (w.alloc o) g s A c R := h.below ((Below.refl _ _).alloc (Nat.le_refl _) o)
theorem NW.new {w : World} {g : Nat} (s : Bool) {A : Option Addr} (c : Nat) {R : List Int} (hg : g = w.heap.size) (hc : R.length ≤ c) (h : u64.C w A R.length R) : NW (w.alloc (.cells #[.bool s, .slice A R.length c, .int .i64 0] 62)) g s A c R := by
  subst hg
  exact ⟨heap_alloc_new w _, Kd.C_alloc h _, hc⟩
/-- A block of three cells that was there, behind a call. -/
theorem three_cells {W w1 : World} (hb : Below W.heap.size W w1) {g t : Nat} {x y z : Value} (h : W.heap[g]? = some (.cells #[x, y, z] t (0, 0))) :
    w1.cell? ⟨g, 0, none⟩ = some x ∧ w1.cell? ⟨g, 1, none⟩ = some y ∧ w1.cell? ⟨g, 2, none⟩ = some z ∧ w1.frozen? ⟨g, 0, none⟩ = false ∧ w1.frozen? ⟨g, 1, none⟩ = false ∧ w1.frozen? ⟨g, 2, none⟩ = false ∧ g < w1.heap.size := by
  have hlt : g < W.heap.size := (Array.getElem?_eq_some_iff.1 h).1
  have h1 : w1.heap[g]? = some (.cells #[x, y, z] t (0, 0)) := (hb.block g hlt).trans h
  have hs := hb.size
  refine ⟨?_, ?_, ?_, ?_, ?_, ?_, by omega⟩ <;> simp [World.cell?, World.frozen?, h1]
theorem NW.cells {w : World} {g : Nat} {s : Bool} {A : Option Addr} {c : Nat} {R : List Int} (h : NW w g s A c R) : w.cell? ⟨g, 0, none⟩ = some (.bool s) ∧ w.cell? ⟨g, 1, none⟩ = some (.slice A R.length c) ∧ w.cell? ⟨g, 2, none⟩ = some (.int .i64 0) ∧ g < w.heap.size := by
  obtain ⟨c0, c1, c2, _, _, _, c3⟩ := three_cells (Below.refl w.heap.size w) h.blk
  exact ⟨c0, c1, c2, c3⟩
/-- The answer, laid into its place. -/
theorem laid {w0 w w' : World} {R : List Int} {A : Option Addr} {c : Nat} (h : Kd.V u64 50 w' 0 (fun k => w.heap.size ≤ k) (.slice A R.length c) R) (hl : w0.heap.size + 2 < w.heap.size) (u0 u1 u2 : Value) :
    Kd.V u64 50 (((w'.setCell ⟨w0.heap.size + 2, 0, none⟩ u0).setCell ⟨w0.heap.size + 2, 1, none⟩ u1).setCell ⟨w0.heap.size + 2, 2, none⟩ u2) 0 (fun k => w0.heap.size ≤ k) (.slice A R.length c) R := by
  have hn : ∀ k, w.heap.size ≤ k → k ≠ w0.heap.size + 2 := fun k hk => by omega
  exact Kd.V_mono (Kd.V_far (p := ⟨w0.heap.size + 2, 2, none⟩) (Kd.V_far (p := ⟨w0.heap.size + 2, 1, none⟩) (Kd.V_far (p := ⟨w0.heap.size + 2, 0, none⟩) h hn u0) hn u1) hn u2) (fun k hk => by omega)
/-- What is known in Plus: the two numbers, the answer's place. -/
structure PlusI (w0 w : World) (s t : Bool) (A1 A2 : Option Addr) (c1 c2 : Nat) (l m : List Int) : Prop where
  va : NW w w0.heap.size s A1 c1 l
  vb : NW w (w0.heap.size + 1) t A2 c2 m
  vr : w.heap[w0.heap.size + 2]? = some (.cells #[.bool false, .slice none 0 0, .int .i64 0] 62 (0, 0))
  b : Below w0.heap.size w0 w
theorem PlusI.below {w0 w w' : World} {s t : Bool} {A1 A2 : Option Addr} {c1 c2 : Nat} {l m : List Int} (h : PlusI w0 w s t A1 A2 c1 c2 l m) (hb : Below w.heap.size w w') : PlusI w0 w' s t A1 A2 c1 c2 l m :=
  ⟨h.va.below hb, h.vb.below hb, (hb.block _ (Array.getElem?_eq_some_iff.1 h.vr).1).trans h.vr, below_then h.b h.b.size hb⟩
theorem PlusI.drew {w0 w : World} {s t : Bool} {A1 A2 : Option Addr} {c1 c2 : Nat} {l m : List Int} (h : PlusI w0 w s t A1 A2 c1 c2 l m) : PlusI w0 w.drew s t A1 A2 c1 c2 l m := h.below (Below.refl _ _).drew
theorem PlusI.start {w : World} {s t : Bool} {A1 A2 : Option Addr} {c1 c2 : Nat} {l m : List Int} (h1 : l.length ≤ c1) (h2 : m.length ≤ c2) (r1 : u64.C w A1 l.length l) (r2 : u64.C w A2 m.length m) :
    PlusI w (((w.alloc (.cells #[.bool s, .slice A1 l.length c1, .int .i64 0] 62)).alloc (.cells #[.bool t, .slice A2 m.length c2, .int .i64 0] 62)).alloc (.cells #[.bool false, .slice none 0 0, .int .i64 0] 62)) s t A1 A2 c1 c2 l m := by
  refine ⟨((NW.new s c1 rfl h1 r1).alloc _).alloc _, (NW.new t c2 (by simp) h2 (Kd.C_alloc r2 _)).alloc _, ?_, (((Below.refl w.heap.size w).alloc (Nat.le_refl _) _).alloc (by simp) _).alloc (by simp; omega) _⟩
  have := heap_alloc_new ((w.alloc (.cells #[.bool s, .slice A1 l.length c1, .int .i64 0] 62)).alloc (.cells #[.bool t, .slice A2 m.length c2, .int .i64 0] 62)) (.cells #[.bool false, .slice none 0 0, .int .i64 0] 62)
  simpa using this
/-- All the cells. -/
theorem PlusI.cells {w0 w : World} {s t : Bool} {A1 A2 : Option Addr} {c1 c2 : Nat} {l m : List Int} (h : PlusI w0 w s t A1 A2 c1 c2 l m) :
    ((w.cell? ⟨w0.heap.size, 0, none⟩ = some (.bool s) ∧ w.cell? ⟨w0.heap.size, 1, none⟩ = some (.slice A1 l.length c1) ∧ w.cell? ⟨w0.heap.size, 2, none⟩ = some (.int .i64 0) ∧ w0.heap.size < w.heap.size) ∧
    (w.cell? ⟨w0.heap.size + 1, 0, none⟩ = some (.bool t) ∧ w.cell? ⟨w0.heap.size + 1, 1, none⟩ = some (.slice A2 m.length c2) ∧ w.cell? ⟨w0.heap.size + 1, 2, none⟩ = some (.int .i64 0) ∧ w0.heap.size + 1 < w.heap.size)) ∧
    (w.cell? ⟨w0.heap.size + 2, 0, none⟩ = some (.bool false) ∧ w.cell? ⟨w0.heap.size + 2, 1, none⟩ = some (.slice none 0 0) ∧ w.cell? ⟨w0.heap.size + 2, 2, none⟩ = some (.int .i64 0) ∧ w.frozen? ⟨w0.heap.size + 2, 0, none⟩ = false ∧ w.frozen? ⟨w0.heap.size + 2, 1, none⟩ = false ∧ w.frozen? ⟨w0.heap.size + 2, 2, none⟩ = false ∧ w0.heap.size + 2 < w.heap.size) :=
  ⟨⟨h.va.cells, h.vb.cells⟩, three_cells (Below.refl w.heap.size w) h.vr⟩
end Go.Proofs.Ytlcjnahfahobjaa.Lb
