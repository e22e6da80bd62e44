/- store: StoreNumbers: two regions of any order; rows that are made. -/
import Derived.Test.YtoheamfnddfgkaaStNb
namespace Go.Proofs.Ytoheamfnddfgkaa.St
open Go.RowKit Go.Proofs.YtoheamfnddfgkaaW.PrintWords Go.Proofs.YtoheamfnddfgkaaW.PrintLast Go.Proofs.YtoheamfnddfgkaaW.PrintMore Go.Proofs.Ytoheamfnddfgkaa.PB
set_option linter.unusedVariables false
set_option linter.unusedSimpArgs false

theorem make_rows {P : Program} (t e : TypeId) (z : Value) (size bytes m : Nat) (ht : P.underlying t = some (.slice e)) (hinfo : (P.info? e).map (fun i => (i.zero, i.size, i.bytes)) = some (some z, size, bytes)) (h9 : bytes * m ≤ 281474976710656) (hm : m ≤ 281474976710656) (W : World) :
  (Instr.makeSlice t (.int .i64 (m : Int)) (.int .i64 (m : Int))).run P W = .ok (.slice (some ⟨W.heap.size, 0, none⟩) m m) (W.alloc (.cells (madeCells z.cells (m * size)) e)) := by
 obtain ⟨i0, hi, hzz⟩ := Option.map_eq_some_iff.1 hinfo
 simp only [Prod.mk.injEq] at hzz
 obtain ⟨hz0, hz1, hz2⟩ := hzz
 have hr := run_make (P := P) W t e i0 z ht hi hz0 .i64 .i64 (m : Int) (m : Int) (by omega) (by omega)
  (by
   have h3 : ((i0.bytes * m : Nat) : Int) ≤ 281474976710656 := by rw [hz2]; omega
   rwa [Int.natCast_mul] at h3) (by omega)
 simp only [Int.toNat_natCast] at hr
 rwa [hz1] at hr
theorem make_certs (W : World) : (Instr.makeSlice 35 (.int .i64 65) (.int .i64 65)).run Try.prog W = .ok (.slice (some ⟨W.heap.size, 0, none⟩) 65 65) (W.alloc (.cells (madeCells zcells (65 * 6)) 61)) :=
 make_rows (P := Try.prog) 35 61 (.agg zcells) 6 112 65 Try.underlying35 (by kernel_rfl) (by decide) (by decide) W
theorem make_ints (W : World) : (Instr.makeSlice 59 (.int .i64 65) (.int .i64 65)).run Try.prog W = .ok (.slice (some ⟨W.heap.size, 0, none⟩) 65 65) (W.alloc (.cells (madeCells #[.int .i64 0] 65) 3)) :=
 print_make 59 3 .i64 8 Try.underlying59 (by kernel_rfl) (by decide) 65 (by decide) W
abbrev z65 : Array Value := madeCells #[.int .i64 0] 65
def lcells (ga gb n m : Nat) : Array Value := #[.bool false, .slice none 0 0, .bool false, .slice none 0 0, .slice (some ⟨ga, 0, none⟩) n 65, .slice (some ⟨gb, 0, none⟩) m 65]
theorem Bk.ne {w : World} {g h s t : Nat} {a b : Array Value} (h1 : Bk w g a s) (h2 : Bk w h b t) (hst : s ≠ t) : g ≠ h := fun e => by
 subst e
 have := Option.some.inj (h1.symm.trans h2)
 injection this with _ h3
 exact hst h3
open Gr in
/-- While 'long := api.Cert{Factors: make([]int, 65), Powers: make([]int, 65)}' runs. -/
structure I23 (WW : World) (d : Nat → Bool) (f : Nat → Value) (w : World) : Prop where
 b : Below WW.heap.size WW w
 k0 : d 0 = true → ∃ g, f 0 = .slice (some ⟨g, 0, none⟩) 65 65 ∧ Bk w g z65 3
 k1 : d 1 = true → ∃ g, f 1 = .slice (some ⟨g, 0, none⟩) 65 65 ∧ Bk w g z65 3
 k2 : d 2 = true → f 2 = .agg #[.bool false, .slice none 0 0, .bool false, .slice none 0 0, f 0, f 1]
 k3 : d 3 = true → ∃ g, f 3 = .pointer (some ⟨g, 0, none⟩) ∧ WW.heap.size ≤ g ∧ (d 4 = false → Bk w g zcells 61) ∧ (d 4 = true → Bk w g #[.bool false, .slice none 0 0, .bool false, .slice none 0 0, f 0, f 1] 61)
 c2 : d 2 = true → d 0 = true ∧ d 1 = true
 c4 : d 4 = true → d 3 = true ∧ d 2 = true
theorem I23_cong {WW : World} (d d' : Nat → Bool) (f : Nat → Value) (w : World) (h : ∀ i, i < 5 → d i = d' i) (hI : I23 WW d f w) : I23 WW d' f w := by
 obtain ⟨b, k0, k1, k2, k3, c2, c4⟩ := hI
 rw [h 0 (by omega)] at k0
 rw [h 1 (by omega)] at k1
 rw [h 2 (by omega)] at k2
 rw [h 3 (by omega), h 4 (by omega)] at k3
 rw [h 2 (by omega), h 0 (by omega), h 1 (by omega)] at c2
 rw [h 4 (by omega), h 3 (by omega), h 2 (by omega)] at c4
 exact ⟨b, k0, k1, k2, k3, c2, c4⟩
section
variable {WW w w' : World} {d : Nat → Bool} {f : Nat → Value}
theorem I23.c2f (h : I23 WW d f w) {i : Nat} (hi : i = 0 ∨ i = 1) (hd : d i = false) : d 2 = false ∧ d 4 = false := by
 have h2 : d 2 = false := by
  cases e : d 2 with
  | false => rfl
  | true =>
   have := h.c2 e
   rcases hi with rfl | rfl
   ·rw [this.1] at hd; cases hd
   ·rw [this.2] at hd; cases hd
 refine ⟨h2, ?_⟩
 cases e : d 4 with
 | false => rfl
 | true => have := (h.c4 e).2; rw [h2] at this; cases this
theorem I23.make0 (h : I23 WW d f w) (hd : d 0 = false) : I23 WW (Gr.updB d 0) (Gr.upd f 0 (.slice (some ⟨w.heap.size, 0, none⟩) 65 65)) (w.alloc (.cells z65 3)) := by
 obtain ⟨h2, h4⟩ := h.c2f (.inl rfl) hd
 refine ⟨h.b.alloc h.b.size _, fun _ => ⟨_, rfl, Bk.new w _ _⟩, fun h1 => ?_, fun e => ?_, fun e => ?_, fun e => ?_, h.c4⟩
 ·obtain ⟨g, e, hk⟩ := h.k1 h1
  exact ⟨g, e, hk.alloc _⟩
 ·have e2 : d 2 = true := e
  rw [h2] at e2; cases e2
 ·obtain ⟨g, e1, hg, hk, _⟩ := h.k3 e
  refine ⟨g, e1, hg, fun h5 => (hk h5).alloc _, fun h5 => ?_⟩
  have e2 : d 4 = true := h5
  rw [h4] at e2; cases e2
 ·have e2 : d 2 = true := e
  rw [h2] at e2; cases e2
theorem I23.make1 (h : I23 WW d f w) (hd : d 1 = false) : I23 WW (Gr.updB d 1) (Gr.upd f 1 (.slice (some ⟨w.heap.size, 0, none⟩) 65 65)) (w.alloc (.cells z65 3)) := by
 obtain ⟨h2, h4⟩ := h.c2f (.inr rfl) hd
 refine ⟨h.b.alloc h.b.size _, fun h1 => ?_, fun _ => ⟨_, rfl, Bk.new w _ _⟩, fun e => ?_, fun e => ?_, fun e => ?_, h.c4⟩
 ·obtain ⟨g, e, hk⟩ := h.k0 h1
  exact ⟨g, e, hk.alloc _⟩
 ·have e2 : d 2 = true := e
  rw [h2] at e2; cases e2
 ·obtain ⟨g, e1, hg, hk, _⟩ := h.k3 e
  refine ⟨g, e1, hg, fun h5 => (hk h5).alloc _, fun h5 => ?_⟩
  have e2 : d 4 = true := h5
  rw [h4] at e2; cases e2
 ·have e2 : d 2 = true := e
  rw [h2] at e2; cases e2
theorem I23.built (h : I23 WW d f w) (h0 : d 0 = true) (h1 : d 1 = true) : I23 WW (Gr.updB d 2) (Gr.upd f 2 (.agg #[.bool false, .slice none 0 0, .bool false, .slice none 0 0, f 0, f 1])) w :=
 ⟨h.b, h.k0, h.k1, fun _ => rfl, h.k3, fun _ => ⟨h0, h1⟩, fun h4 => ⟨(h.c4 h4).1, rfl⟩⟩
theorem I23.made (h : I23 WW d f w) (hd : d 3 = false) : I23 WW (Gr.updB d 3) (Gr.upd f 3 (.pointer (some ⟨w.heap.size, 0, none⟩))) (w.alloc (.cells zcells 61)) := by
 have h4 : d 4 = false := by
  cases e : d 4 with
  | false => rfl
  | true => have := (h.c4 e).1; rw [hd] at this; cases this
 refine ⟨h.b.alloc h.b.size _, fun h1 => ?_, fun h1 => ?_, h.k2, fun e => ⟨w.heap.size, rfl, h.b.size, fun _ => Bk.new w _ _, fun h5 => ?_⟩, h.c2, fun h5 => ?_⟩
 ·obtain ⟨g, e, hk⟩ := h.k0 h1
  exact ⟨g, e, hk.alloc _⟩
 ·obtain ⟨g, e, hk⟩ := h.k1 h1
  exact ⟨g, e, hk.alloc _⟩
 ·have e2 : d 4 = true := h5
  rw [h4] at e2; cases e2
 ·have e2 : d 4 = true := h5
  rw [h4] at e2; cases e2
theorem I23.store (h : I23 WW d f w) (hd : d 4 = false) (h2 : d 2 = true) (h3 : d 3 = true) {g : Nat} (hf : f 3 = .pointer (some ⟨g, 0, none⟩)) (u : Value) :
  I23 WW (Gr.updB d 4) (Gr.upd f 4 u) ((((((w.setCell ⟨g, 0, none⟩ (.bool false)).setCell ⟨g, 1, none⟩ (.slice none 0 0)).setCell ⟨g, 2, none⟩ (.bool false)).setCell ⟨g, 3, none⟩ (.slice none 0 0)).setCell ⟨g, 4, none⟩ (f 0)).setCell ⟨g, 5, none⟩ (f 1)) := by
 obtain ⟨g', e, hg, hk, _⟩ := h.k3 h3
 obtain rfl : g' = g := by
  rw [hf] at e
  injection e with e
  injection e with e
  injection e with e
  exact e.symm
 have hz := hk hd
 have far : ∀ {g0 : Nat} {cs : Array Value}, Bk w g0 cs 3 → Bk ((((((w.setCell ⟨g', 0, none⟩ (.bool false)).setCell ⟨g', 1, none⟩ (.slice none 0 0)).setCell ⟨g', 2, none⟩ (.bool false)).setCell ⟨g', 3, none⟩ (.slice none 0 0)).setCell ⟨g', 4, none⟩ (f 0)).setCell ⟨g', 5, none⟩ (f 1)) g0 cs 3 := fun hb => by
  have hne := hb.ne hz (by decide)
  exact (((((hb.far hne _).far hne _).far hne _).far hne _).far hne _).far hne _
 refine ⟨(((((h.b.setCell hg _).setCell hg _).setCell hg _).setCell hg _).setCell hg _).setCell hg _, fun h1 => ?_, fun h1 => ?_, h.k2, fun _ => ⟨g', hf, hg, fun h5 => ?_, fun _ => ?_⟩, h.c2, fun _ => ⟨h3, h2⟩⟩
 ·obtain ⟨g0, e0, hk0⟩ := h.k0 h1
  exact ⟨g0, e0, far hk0⟩
 ·obtain ⟨g0, e0, hk0⟩ := h.k1 h1
  exact ⟨g0, e0, far hk0⟩
 ·have e2 : (true : Bool) = false := h5
  cases e2
 ·exact (((((hz.set 0 _).set 1 _).set 2 _).set 3 _).set 4 _).set 5 _
end
/-- While 'long.Factors, long.Powers = long.Factors[:64], long.Powers[:64]' runs. -/
structure I27 (w0 : World) (gl ga gb gm : Nat) (mc : Array Value) (d : Nat → Bool) (f : Nat → Value) (w : World) : Prop where
 b : Below w0.heap.size w0 w
 hl : w0.heap.size ≤ gl
 m : Bk w gm mc 61
 a : Bk w ga z65 3
 c : Bk w gb z65 3
 l : Bk w gl (lcells ga gb (if d 7 = true then 64 else 65) (if d 9 = true then 64 else 65)) 61
 ne : gm ≠ gl
 k0 : d 0 = true → f 0 = .pointer (some ⟨gl, 4, none⟩)
 k1 : d 1 = true → f 1 = .slice (some ⟨ga, 0, none⟩) 65 65
 k2 : d 2 = true → f 2 = .slice (some ⟨ga, 0, none⟩) 64 65
 k3 : d 3 = true → f 3 = .pointer (some ⟨gl, 5, none⟩)
 k4 : d 4 = true → f 4 = .slice (some ⟨gb, 0, none⟩) 65 65
 k5 : d 5 = true → f 5 = .slice (some ⟨gb, 0, none⟩) 64 65
 k6 : d 6 = true → f 6 = .pointer (some ⟨gl, 4, none⟩)
 k8 : d 8 = true → f 8 = .pointer (some ⟨gl, 5, none⟩)
 c7 : d 7 = true → d 1 = true
 c9 : d 9 = true → d 4 = true
 c97 : d 9 = true → d 7 = true
theorem I27_cong {w0 : World} {gl ga gb gm : Nat} {mc : Array Value} (d d' : Nat → Bool) (f : Nat → Value) (w : World) (h : ∀ i, i < 10 → d i = d' i) (hI : I27 w0 gl ga gb gm mc d f w) : I27 w0 gl ga gb gm mc d' f w := by
 obtain ⟨b, hl, m, a, c, l, ne, k0, k1, k2, k3, k4, k5, k6, k8, c7, c9, c97⟩ := hI
 rw [h 7 (by omega), h 9 (by omega)] at l
 rw [h 7 (by omega), h 1 (by omega)] at c7
 rw [h 9 (by omega), h 4 (by omega)] at c9
 rw [h 9 (by omega), h 7 (by omega)] at c97
 rw [h 0 (by omega)] at k0
 rw [h 1 (by omega)] at k1
 rw [h 2 (by omega)] at k2
 rw [h 3 (by omega)] at k3
 rw [h 4 (by omega)] at k4
 rw [h 5 (by omega)] at k5
 rw [h 6 (by omega)] at k6
 rw [h 8 (by omega)] at k8
 exact ⟨b, hl, m, a, c, l, ne, k0, k1, k2, k3, k4, k5, k6, k8, c7, c9, c97⟩
section
variable {w0 w : World} {gl ga gb gm : Nat} {mc : Array Value} {d : Nat → Bool} {f : Nat → Value}
theorem I27.ptr0 (h : I27 w0 gl ga gb gm mc d f w) : I27 w0 gl ga gb gm mc (Gr.updB d 0) (Gr.upd f 0 (.pointer (some ⟨gl, 4, none⟩))) w := ⟨h.b, h.hl, h.m, h.a, h.c, h.l, h.ne, fun _ => rfl, h.k1, h.k2, h.k3, h.k4, h.k5, h.k6, h.k8, h.c7, h.c9, h.c97⟩
theorem I27.load1 (h : I27 w0 gl ga gb gm mc d f w) : I27 w0 gl ga gb gm mc (Gr.updB d 1) (Gr.upd f 1 (.slice (some ⟨ga, 0, none⟩) 65 65)) w := ⟨h.b, h.hl, h.m, h.a, h.c, h.l, h.ne, h.k0, fun _ => rfl, h.k2, h.k3, h.k4, h.k5, h.k6, h.k8, fun _ => rfl, h.c9, h.c97⟩
theorem I27.cut2 (h : I27 w0 gl ga gb gm mc d f w) : I27 w0 gl ga gb gm mc (Gr.updB d 2) (Gr.upd f 2 (.slice (some ⟨ga, 0, none⟩) 64 65)) w := ⟨h.b, h.hl, h.m, h.a, h.c, h.l, h.ne, h.k0, h.k1, fun _ => rfl, h.k3, h.k4, h.k5, h.k6, h.k8, h.c7, h.c9, h.c97⟩
theorem I27.ptr3 (h : I27 w0 gl ga gb gm mc d f w) : I27 w0 gl ga gb gm mc (Gr.updB d 3) (Gr.upd f 3 (.pointer (some ⟨gl, 5, none⟩))) w := ⟨h.b, h.hl, h.m, h.a, h.c, h.l, h.ne, h.k0, h.k1, h.k2, fun _ => rfl, h.k4, h.k5, h.k6, h.k8, h.c7, h.c9, h.c97⟩
theorem I27.load4 (h : I27 w0 gl ga gb gm mc d f w) : I27 w0 gl ga gb gm mc (Gr.updB d 4) (Gr.upd f 4 (.slice (some ⟨gb, 0, none⟩) 65 65)) w := ⟨h.b, h.hl, h.m, h.a, h.c, h.l, h.ne, h.k0, h.k1, h.k2, h.k3, fun _ => rfl, h.k5, h.k6, h.k8, h.c7, fun _ => rfl, h.c97⟩
theorem I27.cut5 (h : I27 w0 gl ga gb gm mc d f w) : I27 w0 gl ga gb gm mc (Gr.updB d 5) (Gr.upd f 5 (.slice (some ⟨gb, 0, none⟩) 64 65)) w := ⟨h.b, h.hl, h.m, h.a, h.c, h.l, h.ne, h.k0, h.k1, h.k2, h.k3, h.k4, fun _ => rfl, h.k6, h.k8, h.c7, h.c9, h.c97⟩
theorem I27.ptr6 (h : I27 w0 gl ga gb gm mc d f w) : I27 w0 gl ga gb gm mc (Gr.updB d 6) (Gr.upd f 6 (.pointer (some ⟨gl, 4, none⟩))) w := ⟨h.b, h.hl, h.m, h.a, h.c, h.l, h.ne, h.k0, h.k1, h.k2, h.k3, h.k4, h.k5, fun _ => rfl, h.k8, h.c7, h.c9, h.c97⟩
theorem I27.ptr8 (h : I27 w0 gl ga gb gm mc d f w) : I27 w0 gl ga gb gm mc (Gr.updB d 8) (Gr.upd f 8 (.pointer (some ⟨gl, 5, none⟩))) w := ⟨h.b, h.hl, h.m, h.a, h.c, h.l, h.ne, h.k0, h.k1, h.k2, h.k3, h.k4, h.k5, h.k6, fun _ => rfl, h.c7, h.c9, h.c97⟩
theorem I27.store7 (h : I27 w0 gl ga gb gm mc d f w) (hd : d 7 = false) (h1 : d 1 = true) (u : Value) : I27 w0 gl ga gb gm mc (Gr.updB d 7) (Gr.upd f 7 u) (w.setCell ⟨gl, 4, none⟩ (.slice (some ⟨ga, 0, none⟩) 64 65)) := by
 have h9 : d 9 = false := by
  cases e : d 9 with
  | false => rfl
  | true => have := h.c97 e; rw [hd] at this; cases this
 have hl := h.l
 rw [hd, h9] at hl
 refine ⟨h.b.setCell h.hl _, h.hl, h.m.far h.ne _, h.a.far (h.a.ne h.l (by decide)) _, h.c.far (h.c.ne h.l (by decide)) _, ?_, h.ne, h.k0, h.k1, h.k2, h.k3, h.k4, h.k5, h.k6, h.k8, fun _ => h1, h.c9, fun _ => rfl⟩
 show Bk _ gl (lcells ga gb 64 (if d 9 = true then 64 else 65)) 61
 rw [h9]
 exact hl.set 4 _
theorem I27.store9 (h : I27 w0 gl ga gb gm mc d f w) (hd : d 9 = false) (h7 : d 7 = true) (h4 : d 4 = true) (u : Value) : I27 w0 gl ga gb gm mc (Gr.updB d 9) (Gr.upd f 9 u) (w.setCell ⟨gl, 5, none⟩ (.slice (some ⟨gb, 0, none⟩) 64 65)) := by
 have hl := h.l
 rw [h7, hd] at hl
 refine ⟨h.b.setCell h.hl _, h.hl, h.m.far h.ne _, h.a.far (h.a.ne h.l (by decide)) _, h.c.far (h.c.ne h.l (by decide)) _, ?_, h.ne, h.k0, h.k1, h.k2, h.k3, h.k4, h.k5, h.k6, h.k8, h.c7, fun _ => h4, fun _ => h7⟩
 show Bk _ gl (lcells ga gb (if d 7 = true then 64 else 65) 64) 61
 rw [h7]
 exact hl.set 5 _
/-- Its six cells. -/
theorem six_of {w : World} {g t : Nat} {a b c d e f : Value} (h : Bk w g #[a, b, c, d, e, f] t) : w.cell? ⟨g, 0, none⟩ = some a ∧ w.cell? ⟨g, 1, none⟩ = some b ∧ w.cell? ⟨g, 2, none⟩ = some c ∧ w.cell? ⟨g, 3, none⟩ = some d ∧ w.cell? ⟨g, 4, none⟩ = some e ∧ w.cell? ⟨g, 5, none⟩ = some f := ⟨h.cell rfl, h.cell rfl, h.cell rfl, h.cell rfl, h.cell rfl, h.cell rfl⟩
theorem long_K {w : World} {ga gb : Nat} (ha : Bk w ga z65 3) (hb : Bk w gb z65 3) (n : Nat) (hn : n ≤ 65) : k61.K w (zc n) (lcells ga gb n n).toList := by
 have row : ∀ (g : Nat), Bk w g z65 3 → i64C w (some ⟨g, 0, none⟩) n (List.replicate n 0) := fun g h => by
  have h1 : i64C w (some ⟨g, 0, none⟩) 65 (List.replicate 65 0) := row_block h (made_nums 65 .i64) List.length_replicate (by omega)
  have h2 : i64C w (some ⟨g, 0, none⟩) (List.replicate 65 (0 : Int)).length (List.replicate 65 0) := by rw [List.length_replicate]; exact h1
  have h3 := take_row h2 n (by rw [List.length_replicate]; exact hn)
  rwa [List.take_replicate, Nat.min_eq_left hn] at h3
 exact k61_mk (s0 := false) (s1 := false) rfl rfl List.length_replicate List.length_replicate (Nat.le_refl _) (Nat.le_refl _) (by omega) (by omega) (empty_row _ _ _) (empty_row _ _ _) (row ga ha) (row gb hb)
theorem many_C64 {W : World} {g t : Nat} (h : Bk W g (madeCells zcells (65 * 6)) t) : Kd.C k61 W (some ⟨g, 0, none⟩) 64 (List.replicate 64 z61) := by
 have h1 := many_C h
 have h2 : Kd.C k61 W (some ⟨g, 0, none⟩) (List.replicate 65 z61).length (List.replicate 65 z61) := by rw [List.length_replicate]; exact h1
 have h3 := take_row h2 64 (by rw [List.length_replicate]; omega)
 rwa [List.take_replicate, Nat.min_eq_left (by omega)] at h3
theorem many_C4 {W : World} {g t h1 t1 : Nat} (h : Bk W g ((madeCells zcells (65 * 6)).setIfInBounds 23 (.slice (some ⟨h1, 0, none⟩) 1 1)) t) (hp : Bk W h1 #[.int .i64 1] t1) : Kd.C k61 W (some ⟨g, 0, none⟩) 4 (List.replicate 3 z61 ++ [pc]) := by
 have h2 := many_C3 h hp
 have hl : (List.replicate 3 z61 ++ pc :: List.replicate 61 z61).length = 65 := by simp
 have h3 : Kd.C k61 W (some ⟨g, 0, none⟩) (List.replicate 3 z61 ++ pc :: List.replicate 61 z61).length (List.replicate 3 z61 ++ pc :: List.replicate 61 z61) := by rw [hl]; exact h2
 exact take_row h3 4 (by rw [hl]; omega)
theorem okCert_many : ∀ c ∈ List.replicate 3 z61 ++ pc :: List.replicate 61 z61, okCert c := fun c hc => by
 rw [List.mem_append, List.mem_cons] at hc
 rcases hc with hc | hc | hc
 ·rw [List.eq_of_mem_replicate hc]; exact okCert_z61
 ·rw [hc]; exact okCert_pc
 ·rw [List.eq_of_mem_replicate hc]; exact okCert_z61
theorem okCert_many4 : ∀ c ∈ List.replicate 3 z61 ++ [pc], okCert c := fun c hc => okCert_many c (by
 rw [List.mem_append] at hc ⊢
 rcases hc with hc | hc
 ·exact .inl hc
 ·exact .inr (by rw [List.mem_singleton.1 hc]; exact List.mem_cons_self))
theorem okCert_zeros (n : Nat) : ∀ c ∈ List.replicate n z61, okCert c := fun c hc => by rw [List.eq_of_mem_replicate hc]; exact okCert_z61
theorem okCert_single {c : S61} (h : okCert c) : ∀ x ∈ [c], okCert x := fun x hx => by rw [List.mem_singleton.1 hx]; exact h
theorem pair_K {w : World} {h1 h2 t1 t2 : Nat} {a b : Int} (ha : Bk w h1 #[.int .i64 a] t1) (hb : Bk w h2 #[.int .i64 b] t2) : k61.K w ⟨z24, z24, [a], [b]⟩ [.bool false, .slice none 0 0, .bool false, .slice none 0 0, .slice (some ⟨h1, 0, none⟩) 1 1, .slice (some ⟨h2, 0, none⟩) 1 1] :=
 k61_mk (s0 := false) (s1 := false) rfl rfl rfl rfl (Nat.le_refl _) (Nat.le_refl _) (Nat.le_refl _) (Nat.le_refl _) (empty_row _ _ _) (empty_row _ _ _) (row_block ha rfl rfl (by omega)) (row_block hb rfl rfl (by omega))
end
theorem scerts_pair (a b : Int) (ha1 : -9223372036854775808 ≤ a) (ha2 : a ≤ 9223372036854775807) (hb1 : -9223372036854775808 ≤ b) (hb2 : b ≤ 9223372036854775807) {W : World} {g g1 g2 : Nat} (h1 : g1 = W.heap.size) (h2 : g2 = W.heap.size + 1) (hg : g = W.heap.size + 2) :
  Calls Try.prog 5 #[.slice (some ⟨g, 0, none⟩) 1 1] (((W.alloc (.cells #[.int .i64 a] 3)).alloc (.cells #[.int .i64 b] 3)).alloc (.cells #[.bool false, .slice none 0 0, .bool false, .slice none 0 0, .slice (some ⟨g1, 0, none⟩) 1 1, .slice (some ⟨g2, 0, none⟩) 1 1] 61)) fun e w' => e = .returned (.bool true) ∧ Aside0 (Below W.heap.size W w') := by
 subst h1 h2 hg
 have e1 : (W.alloc (.cells #[.int .i64 a] 3)).heap.size = W.heap.size + 1 := by simp
 have e2 : ((W.alloc (.cells #[.int .i64 a] 3)).alloc (.cells #[.int .i64 b] 3)).heap.size = W.heap.size + 2 := by simp
 have k1 := ((Bk.new W #[.int .i64 a] 3).alloc (.cells #[.int .i64 b] 3)).alloc (.cells #[.bool false, .slice none 0 0, .bool false, .slice none 0 0, .slice (some ⟨W.heap.size, 0, none⟩) 1 1, .slice (some ⟨W.heap.size + 1, 0, none⟩) 1 1] 61)
 have k2 := (Bk.new (W.alloc (.cells #[.int .i64 a] 3)) #[.int .i64 b] 3).alloc (.cells #[.bool false, .slice none 0 0, .bool false, .slice none 0 0, .slice (some ⟨W.heap.size, 0, none⟩) 1 1, .slice (some ⟨W.heap.size + 1, 0, none⟩) 1 1] 61)
 have k3 := Bk.new ((W.alloc (.cells #[.int .i64 a] 3)).alloc (.cells #[.int .i64 b] 3)) #[.bool false, .slice none 0 0, .bool false, .slice none 0 0, .slice (some ⟨W.heap.size, 0, none⟩) 1 1, .slice (some ⟨W.heap.size + 1, 0, none⟩) 1 1] 61
 rw [e1] at k2
 rw [e2] at k3
 refine (scerts_n (some ⟨W.heap.size + 2, 0, none⟩) 1 1 [⟨z24, z24, [a], [b]⟩] rfl (Nat.le_refl _) (okCert_single (okCert_pair a b ha1 ha2 hb1 hb2)) (by decide) _ (cert_block k3 (pair_K k1 k2) rfl)).mono fun e w' h => ⟨h.1, ⟨?_⟩⟩
 have hb := (((Below.refl W.heap.size W).alloc (Nat.le_refl _) (.cells #[.int .i64 a] 3)).alloc (by simp) (.cells #[.int .i64 b] 3)).alloc (by simp; omega) (.cells #[.bool false, .slice none 0 0, .bool false, .slice none 0 0, .slice (some ⟨W.heap.size, 0, none⟩) 1 1, .slice (some ⟨W.heap.size + 1, 0, none⟩) 1 1] 61)
 exact below_then hb hb.size h.2.out
end Go.Proofs.Ytoheamfnddfgkaa.St
