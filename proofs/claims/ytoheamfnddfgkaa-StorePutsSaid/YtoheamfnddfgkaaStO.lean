/- store: face over Read's closure. -/
import Derived.Test.YtoheamfnddfgkaaStN
namespace Go.Proofs.Ytoheamfnddfgkaa.St
open Go.RowKit Go.Proofs.YtoheamfnddfgkaaW.PrintWords Go.Proofs.YtoheamfnddfgkaaW.PrintLast Go.Proofs.YtoheamfnddfgkaaW.PrintMore
set_option linter.unusedVariables false
set_option linter.unusedSimpArgs false

/-- What is known where a read begins. -/
structure RI (w0 : World) (g gr gs gl : Nat) (A : Option Addr) (c : Nat) (b : List Int) (W : World) : Prop where
  bg : W.heap[g]? = some (.cells #[.slice A b.length c, .int .i64 0] 70 (0, 0))
  br : W.heap[gr]? = some (.cells #[.pointer (some ⟨g, 0, none⟩)] 68 (0, 0))
  bs : W.heap[gs]? = some (.cells #[.slice A b.length c] 25 (0, 0))
  bl : W.heap[gl]? = some (.cells #[.slice none 0 0] 35 (0, 0))
  hC : u8.C w0 A b.length b
  h0 : w0.heap.size ≤ g ∧ w0.heap.size ≤ gl ∧ w0.heap.size ≤ gr ∧ w0.heap.size ≤ gs
  hb : Below w0.heap.size w0 W
section
variable {w0 w w' : World} {g gr gs gl : Nat} {A : Option Addr} {c : Nat} {b : List Int}
theorem RI.below (h : RI w0 g gr gs gl A c b w) (hb : Below w.heap.size w w') : RI w0 g gr gs gl A c b w' :=
  ⟨(hb.block g (blk_lt h.bg)).trans h.bg, (hb.block gr (blk_lt h.br)).trans h.br, (hb.block gs (blk_lt h.bs)).trans h.bs, (hb.block gl (blk_lt h.bl)).trans h.bl, h.hC, h.h0, below_step h.hb hb⟩
theorem RI.rb (h : RI w0 g gr gs gl A c b w) : RB w0 g gr gs gl A b w :=
  ⟨h.hC, h.h0, ⟨blk_lt h.bg, blk_lt h.bl, blk_lt h.br, blk_lt h.bs⟩, ⟨blk_ne h.bl h.bg (by decide), blk_ne h.br h.bg (by decide), blk_ne h.bs h.bg (by decide), blk_ne h.br h.bl (by decide), blk_ne h.bs h.bl (by decide)⟩⟩
theorem RI.rl (h : RI w0 g gr gs gl A c b w) : RL w0 w g gr gs gl A c b 0 (.slice none 0 0) [] w :=
  ⟨RS.mk0 h.hC h.hb h.h0.1 h.bg, h.br, h.bs, h.bl, Kd.S_nil _ _ _ _ _, KeepBut.refl _ _ _⟩
end
/-- What comes of face over Read's closure. -/
def FaceR (w0 : World) (g gl : Nat) (w : World) (r : Except Nat (List CertT)) (e : Ending) (w' : World) : Prop :=
  Aside0 (Below w0.heap.size w0 w') ∧ Aside0 (KeepBut w w' g (some gl)) ∧
  match r with
  | .ok l => e = .returned (.tuple #[.int .i64 0, .int .i64 0]) ∧ ∃ v, Aside0 (Kd.S PB.k61 61 w' w0.heap.size (fun k => w.heap.size ≤ k) v (l.map toS)) ∧ Aside0 (w'.heap[gl]? = some (.cells #[v] 35 (0, 0)))
  | .error p => e = .returned (.tuple #[.int .i64 (p : Int), .int .i64 400])

set_option maxRecDepth 100000 in
set_option maxHeartbeats 2000000 in
theorem face2_c (w0 : World) (g gr gs gl : Nat) (A : Option Addr) (c : Nat) (b : List Int) (w : World) (hi : RI w0 g gr gs gl A c b w) (ho : okB b) (hn : b.length ≤ 4611686018427387904) (hc : b.length ≤ c) :
    Calls Try.prog 42 #[.func (.func 47) #[] #[.pointer (some ⟨gr, 0, none⟩), .pointer (some ⟨gl, 0, none⟩), .pointer (some ⟨gs, 0, none⟩)]] w (FaceR w0 g gl w (readS b)) := by
  have hmf : ∀ (fn : Fn) (first cap : Array Value) (w : World), (Instr.makeFunc fn first cap).run Try.prog w = .ok (.func fn first cap) w := fun _ _ _ _ => rfl
  have HI := Aside0.mk hi
  clear hi
  obtain ⟨Z, hZ⟩ : ∃ Z, readS b = Z := ⟨_, rfl⟩
  have HZ := Aside0.mk hZ
  rw [hZ]
  clear hZ
  go_enter_defers Try.func42, Try.ntmps42
  go_wp2_with (first | ((with_reducible refine gate_dst (N := 2) rfl ?_); refine box_event ?hg (N := 2) ?hd (cs := #[.int .i64 0]) (t := 3) ?hr ?_; (case hd => rfl); (case hg => rfl); (case hr => first | (go_simp; done) | (go_simp; rfl)); intro ga hga w1 hbox hb; have HI1 := Aside0.mk (HI.out.below hb); have HA1 := Aside0.mk hbox; have HGA := Aside0.mk hga; have HB1 := Aside0.mk hb; clear hb hbox hga) | ((with_reducible refine gate_dst (N := 3) rfl ?_); refine box_event ?hg (N := 3) ?hd (cs := #[.int .i64 0]) (t := 26) ?hr ?_; (case hd => rfl); (case hg => rfl); (case hr => first | (go_simp; done) | (go_simp; rfl)); intro ge hge w2 hbox hb; have HI2 := Aside0.mk (HI1.out.below hb); have HA2 := Aside0.mk ((hb.block ga (blk_lt HA1.out)).trans HA1.out); have HE2 := Aside0.mk hbox; have HGE := Aside0.mk hge; have HB2 := Aside0.mk (below_step HB1.out hb); have HLT := Aside0.mk (blk_lt HA1.out); clear hb hbox hge))
  refine (read1_c w0 g gr gs gl A c b w2 HI2.out.rl HI2.out.rb ho hn hc).mono ?_
  intro e w3 h3
  rw [HZ.out] at h3
  obtain ⟨HB3, HK3, h3⟩ := h3
  have hga : ga ≠ g := by have := blk_lt HI.out.bg; have := HGA.out; omega
  have hgal : ga ≠ gl := by have := blk_lt HI.out.bl; have := HGA.out; omega
  have hle : w.heap.size ≤ ge := by have h1 := HLT.out; have h2 := HGA.out; have h3 : ge = w1.heap.size := HGE.out; omega
  have hge : ge ≠ g := by have := blk_lt HI.out.bg; omega
  have hgel : ge ≠ gl := by have := blk_lt HI.out.bl; omega
  have hae : ge ≠ ga := by have h1 := HLT.out; have h3 : ge = w1.heap.size := HGE.out; omega
  have HA3 := Aside0.mk (HK3.out.blk HA2.out hga (by simpa using hgal))
  have HE3 := Aside0.mk (HK3.out.blk HE2.out hge (by simpa using hgel))
  have HKW := Aside0.mk ((KeepBut.of_below HB2.out g (some gl)).trans HK3.out (.inl rfl))
  have hwa : w.heap.size ≤ ga := by have := HGA.out; omega
  have hw0 : w0.heap.size ≤ w.heap.size := HI.out.hb.size
  have ca0 := (blk_cell HA3.out 0).trans rfl
  have ce0 := (blk_cell HE3.out 0).trans rfl
  have fa0 := blk_frozen HA3.out 0
  have fe0 := blk_frozen HE3.out 0
  have HFin : Aside0 (∀ (u v : Int), (Below w0.heap.size w0 ((w3.setCell ⟨ga, 0, none⟩ (.int .i64 u)).setCell ⟨ge, 0, none⟩ (.int .i64 v))) ∧ (KeepBut w ((w3.setCell ⟨ga, 0, none⟩ (.int .i64 u)).setCell ⟨ge, 0, none⟩ (.int .i64 v)) g (some gl)) ∧ ((w3.setCell ⟨ga, 0, none⟩ (.int .i64 u)).setCell ⟨ge, 0, none⟩ (.int .i64 v)).heap[ga]? = some (.cells #[.int .i64 u] 3 (0, 0)) ∧ ((w3.setCell ⟨ga, 0, none⟩ (.int .i64 u)).setCell ⟨ge, 0, none⟩ (.int .i64 v)).heap[ge]? = some (.cells #[.int .i64 v] 26 (0, 0))) := ⟨fun u v =>
    ⟨(HB3.out.setCell (Nat.le_trans hw0 hwa) _).setCell (Nat.le_trans hw0 hle) _, keep_far (keep_far HKW.out hwa _) hle _, blk_far (blk_put (cs := #[.int .i64 0]) HA3.out 0 _ rfl) hae.symm _, blk_put (cs := #[.int .i64 0]) (blk_far HE3.out hae _) 0 _ rfl⟩⟩
  cases Z with
  | error p =>
    obtain rfl := h3
    obtain ⟨fb, fk, fa, fe⟩ := HFin.out p 400
    have FA := (blk_cell fa 0).trans rfl
    have FE := (blk_cell fe 0).trans rfl
    refine leaves_cons (f := 68) (args := #[.pointer (some ⟨ga, 0, none⟩), .pointer (some ⟨ge, 0, none⟩)]) (by simp) (by simp [go_sem]) ?_
    refine (catch_panicking ga ge hae p _ _ [] w3 HA3.out HE3.out).mono ?_
    rintro e u' w'' ⟨rfl, rfl, rfl⟩
    simp [Leaves, settle, results, Try.results42, go_sem, FA, FE]
    exact ⟨⟨fb⟩, ⟨fk⟩, rfl⟩
  | ok l =>
    obtain ⟨rfl, v, HV, HX3⟩ := h3
    obtain ⟨fb, fk, fa, fe⟩ := HFin.out 0 0
    have FA := (blk_cell fa 0).trans rfl
    have FE := (blk_cell fe 0).trans rfl
    go_wp2
    refine leaves_cons (f := 68) (args := #[.pointer (some ⟨ga, 0, none⟩), .pointer (some ⟨ge, 0, none⟩)]) (by simp) (by simp [go_sem]) ?_
    refine (catch_idle _ _ _).mono ?_
    rintro e u' w'' ⟨rfl, rfl, rfl⟩
    simp [Leaves, settle, results, Try.results42, go_sem, FA, FE]
    exact ⟨⟨fb⟩, ⟨fk⟩, rfl, v, ⟨Kd.S_mono (Kd.S_far (p := ⟨ge, 0, none⟩) (Kd.S_far (p := ⟨ga, 0, none⟩) HV.out (fun k hk => by have h1 := blk_lt HA2.out; show k ≠ ga; omega) _) (fun k hk => by have h1 := blk_lt HE2.out; show k ≠ ge; omega) _) (fun k hk => Nat.le_trans HB2.out.size hk)⟩, ⟨blk_far (blk_far HX3.out hgal.symm _) hgel.symm _⟩⟩
end Go.Proofs.Ytoheamfnddfgkaa.St
