/- store: what is known while a certificate's factors and powers are read; a call in a drawn region that gives up. -/
import Derived.Test.YtoheamfnddfgkaaStI
namespace Go.Proofs.Ytoheamfnddfgkaa.St
open Go.RowKit Go.Proofs.YtoheamfnddfgkaaW.PrintWords Go.Proofs.YtoheamfnddfgkaaW.PrintLast Go.Proofs.YtoheamfnddfgkaaW.PrintMore
set_option linter.unusedVariables false
set_option linter.unusedSimpArgs false

abbrev i64 : Kd Int := Kd.int .i64
theorem infoI : (Try.prog.info? 3).map (fun i => (i.zero, i.size, i.bytes)) = some (some (.int .i64 0), 1, 8) := by kernel_rfl
/-- A certificate in block gx that is being filled: its two rows apart. -/
structure CL (w0 w3 : World) (g : Nat) (A : Option Addr) (c : Nat) (b : List Int) (gx m : Nat) (n1 n2 : Bool) (v1 v2 : Value) (y : Nat) (fs ps : List Int) (u1 u2 : Value) (w : World) : Prop where
  rs : RS w0 g A c b y w
  kp : KeepBut w3 w g none
  bx : w.heap[gx]? = some (.cells #[.bool n1, v1, .bool n2, v2, u1, u2] 61 (0, 0))
  r1 : Kd.R i64 3 w w0.heap.size (fun j => m ≤ j ∧ some j ≠ u2.ownBlock) u1 fs
  r2 : Kd.R i64 3 w w0.heap.size (fun j => m ≤ j ∧ some j ≠ u1.ownBlock) u2 ps
/-- What stays as it is: the reader's bytes, and which blocks are new. -/
structure CB (w0 w3 : World) (g : Nat) (A : Option Addr) (c : Nat) (b : List Int) (gx m : Nat) : Prop where
  r0 : ∃ x, RS w0 g A c b x w3
  hx : w3.heap.size ≤ gx
  hm : gx < m
section
variable {w0 w3 w w' w8 : World} {g : Nat} {A : Option Addr} {c : Nat} {b : List Int} {gx m : Nat} {n1 n2 : Bool} {v1 v2 : Value} {y y' : Nat} {fs ps : List Int} {u1 u2 u : Value}
theorem CB.hg (h : CB w0 w3 g A c b gx m) : g < gx := by
  obtain ⟨⟨x, h0⟩, h1, h2⟩ := h
  have := blk_lt h0.blk
  omega
theorem CB.h0 (h : CB w0 w3 g A c b gx m) : w0.heap.size ≤ gx := by
  obtain ⟨⟨x, h0⟩, h1, h2⟩ := h
  exact Nat.le_trans h0.hb.size h1
theorem CL.drew (h : CL w0 w3 g A c b gx m n1 n2 v1 v2 y fs ps u1 u2 w) : CL w0 w3 g A c b gx m n1 n2 v1 v2 y fs ps u1 u2 w.drew :=
  ⟨h.rs.drewN 1, keep_drew h.kp, h.bx, Kd.R_drew h.r1, Kd.R_drew h.r2⟩
theorem CL.call (hB : CB w0 w3 g A c b gx m) (h : CL w0 w3 g A c b gx m n1 n2 v1 v2 y fs ps u1 u2 w) (hk : KeepBut w w' g none) (hr : RS w0 g A c b y' w') : CL w0 w3 g A c b gx m n1 n2 v1 v2 y' fs ps u1 u2 w' := by
  have := hB.hg
  have := hB.hm
  exact ⟨hr, h.kp.trans hk (.inl rfl), hk.blk h.bx (by omega) (by simp), Kd.R_keep h.r1 hk (fun j hj => by have := hj.1; omega), Kd.R_keep h.r2 hk (fun j hj => by have := hj.1; omega)⟩
theorem CL.other (h : CL w0 w3 g A c b gx m n1 n2 v1 v2 y fs ps u1 u2 w) {row : Option Nat} (hg : w.grownBy w8 row) (hrow : row = u1.ownBlock) (hat : u.ownBlock = u1.ownBlock ∨ ∃ k, u.ownBlock = some k ∧ w.heap.size ≤ k) : Kd.R i64 3 w8 w0.heap.size (fun j => m ≤ j ∧ some j ≠ u.ownBlock) u2 ps := by
  refine Kd.R_mono (Kd.R_grown (Kd.R_bound h.r2) hg (fun k hk => by rw [hrow]; exact hk.1.2)) (fun k hk => ⟨hk.1.1, fun e => ?_⟩)
  rcases hat with h1 | ⟨q, h1, h2⟩
  · exact hk.1.2 (e.trans h1)
  · rw [h1] at e
    have := Option.some.inj e
    have := hk.2.2.1
    omega
theorem CL.other2 (h : CL w0 w3 g A c b gx m n1 n2 v1 v2 y fs ps u1 u2 w) {row : Option Nat} (hg : w.grownBy w8 row) (hrow : row = u2.ownBlock) (hat : u.ownBlock = u2.ownBlock ∨ ∃ k, u.ownBlock = some k ∧ w.heap.size ≤ k) : Kd.R i64 3 w8 w0.heap.size (fun j => m ≤ j ∧ some j ≠ u.ownBlock) u1 fs := by
  refine Kd.R_mono (Kd.R_grown (Kd.R_bound h.r1) hg (fun k hk => by rw [hrow]; exact hk.1.2)) (fun k hk => ⟨hk.1.1, fun e => ?_⟩)
  rcases hat with h1 | ⟨q, h1, h2⟩
  · exact hk.1.2 (e.trans h1)
  · rw [h1] at e
    have := Option.some.inj e
    have := hk.2.2.1
    omega
theorem CL.app1 (hB : CB w0 w3 g A c b gx m) (h : CL w0 w3 g A c b gx m n1 n2 v1 v2 y fs ps u1 u2 w) {fs' : List Int} (hR : Kd.R i64 3 w8 w0.heap.size (fun j => m ≤ j ∧ some j ≠ u2.ownBlock) u fs') (hb : Below w0.heap.size w0 w8) (hg : w.grownBy w8 u1.ownBlock) (hat : u.ownBlock = u1.ownBlock ∨ ∃ k, u.ownBlock = some k ∧ w.heap.size ≤ k) :
    CL w0 w3 g A c b gx m n1 n2 v1 v2 y fs' ps u u2 (w8.setCell ⟨gx, 4, none⟩ u) := by
  have i0 := hB.h0
  have i1 := hB.hg
  have i2 := hB.hm
  have i3 := hB.hx
  obtain ⟨x, r0⟩ := hB.r0
  have kp : KeepBut w3 (w8.setCell ⟨gx, 4, none⟩ u) g none := keep_far (keepRow h.kp hg (fun k hk => by have := (h.r1.1 k hk).1; omega)) i3 _
  refine ⟨r0.keep kp (hb.setCell i0 _) (blk_far (blk_grown h.rs.blk hg (Kd.R_ne h.r1 h.rs.blk (by decide))) (by show g ≠ gx; omega) _), kp, blk_put (blk_grown h.bx hg (Kd.R_ne h.r1 h.bx (by decide))) 4 u rfl, Kd.R_far hR (fun j hj => by show j ≠ gx; have := hj.1; omega) _, ?_⟩
  exact Kd.R_far (h.other hg rfl hat) (fun j hj => by show j ≠ gx; have := hj.1; omega) _
theorem CL.app2 (hB : CB w0 w3 g A c b gx m) (h : CL w0 w3 g A c b gx m n1 n2 v1 v2 y fs ps u1 u2 w) {ps' : List Int} (hR : Kd.R i64 3 w8 w0.heap.size (fun j => m ≤ j ∧ some j ≠ u1.ownBlock) u ps') (hb : Below w0.heap.size w0 w8) (hg : w.grownBy w8 u2.ownBlock) (hat : u.ownBlock = u2.ownBlock ∨ ∃ k, u.ownBlock = some k ∧ w.heap.size ≤ k) :
    CL w0 w3 g A c b gx m n1 n2 v1 v2 y fs ps' u1 u (w8.setCell ⟨gx, 5, none⟩ u) := by
  have i0 := hB.h0
  have i1 := hB.hg
  have i2 := hB.hm
  have i3 := hB.hx
  obtain ⟨x, r0⟩ := hB.r0
  have kp : KeepBut w3 (w8.setCell ⟨gx, 5, none⟩ u) g none := keep_far (keepRow h.kp hg (fun k hk => by have := (h.r2.1 k hk).1; omega)) i3 _
  refine ⟨r0.keep kp (hb.setCell i0 _) (blk_far (blk_grown h.rs.blk hg (Kd.R_ne h.r2 h.rs.blk (by decide))) (by show g ≠ gx; omega) _), kp, blk_put (blk_grown h.bx hg (Kd.R_ne h.r2 h.bx (by decide))) 5 u rfl, ?_, Kd.R_far hR (fun j hj => by show j ≠ gx; have := hj.1; omega) _⟩
  exact Kd.R_far (h.other2 hg rfl hat) (fun j hj => by show j ≠ gx; have := hj.1; omega) _
theorem CL.fresh1 (h : CL w0 w3 g A c b gx m n1 n2 v1 v2 y fs ps u1 u2 w) (hB : CB w0 w3 g A c b gx m) (hm : m ≤ w.heap.size) : ∀ k, w.heap.size ≤ k → m ≤ k ∧ some k ≠ u2.ownBlock := fun k hk => ⟨by omega, Kd.fresh_ok h.r2 k hk⟩
theorem CL.fresh2 (h : CL w0 w3 g A c b gx m n1 n2 v1 v2 y fs ps u1 u2 w) (hB : CB w0 w3 g A c b gx m) (hm : m ≤ w.heap.size) : ∀ k, w.heap.size ≤ k → m ≤ k ∧ some k ≠ u1.ownBlock := fun k hk => ⟨by omega, Kd.fresh_ok h.r1 k hk⟩
end
section
variable {P : Program} {ops : Array Oper} {Q : Exit → Act → World → Prop}
/-- A call that gives up. -/
theorem callp_ {oi : Oper} {N : Option Tmp} {a : Act} {w : World} {K : Act → World → Prop} {f : FuncId} {fn : Func} {aa : Array Operand} {ts : Array TypeId} (hf : P.funcs[f]? = some fn) (hname : (fn.name == "runtime.NumGoroutine") = false) (hb : fn.body.isSome = true) (args : Array Value)
    (hw : Region.wanted oi (yielded ops a.tmps) = true) (hop : oi.op = .call { callee := .value (.func f), args := aa, argTypes := ts }) (hargs : aa.map a.eval = args)
    (h : Calls P f args w fun e w' => ∃ ch, e = .panicked ch ∧ Q (.panic ch) a w') : if Region.wanted oi (yielded ops a.tmps) = true then Oper.wp P oi a w K Q else K (a.put N undef) w := by
  have he := enters_ hf hname hb args w
  have hrun : (execOp a.eval oi).run P w = .ok (.enter f args) w := by
    unfold execOp
    simp [hop, resolve, Deferred.ofValue, invoke, Act.eval, hargs, he]
  rw [if_pos hw]
  unfold Oper.wp
  rw [hrun, Oper.upon_enter]
  refine h.mono fun e w'' hh => ?_
  obtain ⟨ch, rfl, hk⟩ := hh
  exact hk
end
abbrev CertT := (Bool × List Int) × (Bool × List Int) × List Int × List Int
/-- What comes of a reader's certificate. -/
def GivesC (w0 : World) (g : Nat) (A : Option Addr) (c : Nat) (b : List Int) (x : Nat) (w : World) (r : Except Nat (CertT × Nat)) (e : Ending) (w' : World) : Prop :=
  match r with
  | .ok ((n, m, fs, ps), k) => ∃ v1 v2 u1 u2, e = .returned (.agg #[.bool n.1, v1, .bool m.1, v2, u1, u2]) ∧
      Aside0 (Kd.R (Kd.int .u64) 58 w' w0.heap.size (fun j => w.heap.size ≤ j ∧ some j ≠ v2.ownBlock) v1 n.2) ∧ Aside0 (Kd.R (Kd.int .u64) 58 w' w0.heap.size (fun j => w.heap.size ≤ j ∧ some j ≠ v1.ownBlock) v2 m.2) ∧
      Aside0 (Kd.R i64 3 w' w0.heap.size (fun j => w.heap.size ≤ j ∧ some j ≠ u2.ownBlock) u1 fs) ∧ Aside0 (Kd.R i64 3 w' w0.heap.size (fun j => w.heap.size ≤ j ∧ some j ≠ u1.ownBlock) u2 ps) ∧
      Aside0 (RS w0 g A c b (x + k) w') ∧ Aside0 (KeepBut w w' g none)
  | .error p => e = .panicked [{ v := .iface 79 (.int .i64 ((x + p : Nat) : Int)), recovered := false }] ∧ (∃ y, RS w0 g A c b y w') ∧ Aside0 (KeepBut w w' g none)
theorem givesC_error {w0 : World} {g : Nat} {A : Option Addr} {c : Nat} {b : List Int} {x y p q : Nat} {w w' : World} (h : RS w0 g A c b y w') (hk : KeepBut w w' g none) (hq : x + p = q) : GivesC w0 g A c b x w (.error p) (.panicked [{ v := .iface 79 (.int .i64 ((q : Nat) : Int)), recovered := false }]) w' := by
  subst hq
  exact ⟨rfl, ⟨y, h⟩, ⟨hk⟩⟩
end Go.Proofs.Ytoheamfnddfgkaa.St
