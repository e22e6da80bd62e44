/- limb: Compare of numbers with no power of two: the walk, read only. -/
import Derived.Test.YtlcjnahfahobjaaLbCz
namespace Go.Proofs.Ytlcjnahfahobjaa.Lb
open Go.RowKit Go.Proofs.YtlcjnahfahobjaaW.PrintWords Go.Proofs.YtlcjnahfahobjaaW.PrintLast Go.Proofs.YtlcjnahfahobjaaW.PrintMore
set_option linter.unusedVariables false
set_option linter.unusedSimpArgs false

/-- What is known in Compare: the two numbers. -/
structure CmpI (w0 w : World) (s t : Bool) (A1 A2 : Option Addr) (c1 c2 : Nat) (l m : List Int) : Prop where
  va : NW w w0.heap.size s A1 c1 l
  vb : NW w (w0.heap.size + 1) t A2 c2 m
  b : Below w0.heap.size w0 w
theorem CmpI.below {w0 w w' : World} {s t : Bool} {A1 A2 : Option Addr} {c1 c2 : Nat} {l m : List Int} (h : CmpI w0 w s t A1 A2 c1 c2 l m) (hb : Below w.heap.size w w') : CmpI w0 w' s t A1 A2 c1 c2 l m :=
  ⟨h.va.below hb, h.vb.below hb, below_then h.b h.b.size hb⟩
theorem CmpI.drew {w0 w : World} {s t : Bool} {A1 A2 : Option Addr} {c1 c2 : Nat} {l m : List Int} (h : CmpI w0 w s t A1 A2 c1 c2 l m) : CmpI w0 w.drew s t A1 A2 c1 c2 l m := h.below (Below.refl _ _).drew
theorem CmpI.start {w : World} {s t : Bool} {A1 A2 : Option Addr} {c1 c2 : Nat} {l m : List Int} (h1 : l.length ≤ c1) (h2 : m.length ≤ c2) (r1 : u64.C w A1 l.length l) (r2 : u64.C w A2 m.length m) :
    CmpI w ((w.alloc (.cells #[.bool s, .slice A1 l.length c1, .int .i64 0] 62)).alloc (.cells #[.bool t, .slice A2 m.length c2, .int .i64 0] 62)) s t A1 A2 c1 c2 l m :=
  ⟨(NW.new s c1 rfl h1 r1).alloc _, NW.new t c2 (by simp) h2 (Kd.C_alloc r2 _), ((Below.refl w.heap.size w).alloc (Nat.le_refl _) _).alloc (by simp) _⟩
theorem CmpI.cells {w0 w : World} {s t : Bool} {A1 A2 : Option Addr} {c1 c2 : Nat} {l m : List Int} (h : CmpI w0 w s t A1 A2 c1 c2 l m) :
    (w.cell? ⟨w0.heap.size, 0, none⟩ = some (.bool s) ∧ w.cell? ⟨w0.heap.size, 1, none⟩ = some (.slice A1 l.length c1) ∧ w.cell? ⟨w0.heap.size, 2, none⟩ = some (.int .i64 0) ∧ w0.heap.size < w.heap.size) ∧
    (w.cell? ⟨w0.heap.size + 1, 0, none⟩ = some (.bool t) ∧ w.cell? ⟨w0.heap.size + 1, 1, none⟩ = some (.slice A2 m.length c2) ∧ w.cell? ⟨w0.heap.size + 1, 2, none⟩ = some (.int .i64 0) ∧ w0.heap.size + 1 < w.heap.size) :=
  ⟨h.va.cells, h.vb.cells⟩
end Go.Proofs.Ytlcjnahfahobjaa.Lb
