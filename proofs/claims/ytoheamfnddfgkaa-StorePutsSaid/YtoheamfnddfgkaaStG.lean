/- store: face over Get's closure. -/
import Derived.Test.YtoheamfnddfgkaaStF
namespace Go.Proofs.Ytoheamfnddfgkaa.St
open Go.RowKit Go.Proofs.YtoheamfnddfgkaaW.PrintWords Go.Proofs.YtoheamfnddfgkaaW.PrintLast Go.Proofs.YtoheamfnddfgkaaW.PrintMore
set_option linter.unusedVariables false
set_option linter.unusedSimpArgs false

/-- What comes of face over Get's closure. -/
def FaceN (w0 : World) (g gx : Nat) (A : Option Addr) (c : Nat) (b : List Int) (x : Nat) (w : World) (r : Option ((Bool × List Int) × Nat)) (e : Ending) (w' : World) : Prop :=
  Aside0 (Below w0.heap.size w0 w') ∧ Aside0 (KeepBut w w' g (some gx)) ∧
  match r with
  | some ((s, l), k) => e = .returned (.tuple #[.int .i64 0, .int .i64 0]) ∧ ∃ v, Aside0 (Kd.R (Kd.int .u64) 58 w' w0.heap.size (fun k => w.heap.size ≤ k) v l) ∧ Aside0 (w'.heap[gx]? = some (.cells #[.bool s, v] 24 (0, 0))) ∧ Aside0 (w'.heap[g]? = some (.cells #[.slice A b.length c, .int .i64 ((x + k : Nat) : Int)] 70 (0, 0)))
  | none => e = .returned (.tuple #[.int .i64 (x : Int), .int .i64 400])

set_option maxRecDepth 100000 in
set_option maxHeartbeats 2000000 in
theorem face1_c (w0 : World) (g gr gx : Nat) (A : Option Addr) (c : Nat) (b : List Int) (x : Nat) (w : World) (hr : RS w0 g A c b x w) (hx : x ≤ b.length) (ho : okB b) (hn : b.length ≤ 4611686018427387904) (hc : b.length ≤ c)
    (hgr : w.heap[gr]? = some (.cells #[.pointer (some ⟨g, 0, none⟩)] 68 (0, 0))) (hgx : w.heap[gx]? = some (.cells #[.bool false, .slice none 0 0] 24 (0, 0))) (h0 : w0.heap.size ≤ gx) :
    Calls Try.prog 42 #[.func (.func 43) #[] #[.pointer (some ⟨gr, 0, none⟩), .pointer (some ⟨gx, 0, none⟩)]] w (FaceN w0 g gx A c b x w (numS (b.drop x))) := by
  have hmf : ∀ (fn : Fn) (first cap : Array Value) (w : World), (Instr.makeFunc fn first cap).run Try.prog w = .ok (.func fn first cap) w := fun _ _ _ _ => rfl
  have HR := Aside0.mk hr
  have HX := Aside0.mk hgx
  have HGR := Aside0.mk hgr
  clear hr hgx hgr
  obtain ⟨Z, hZ⟩ : ∃ Z, numS (b.drop x) = Z := ⟨_, rfl⟩
  have HZ := Aside0.mk hZ
  rw [hZ]
  clear hZ
  go_enter_defers Try.func42, Try.ntmps42
  go_wp2_with (first | ((with_reducible refine gate_dst (N := 2) rfl ?_); refine box_event ?hg (N := 2) ?hd (cs := #[.int .i64 0]) (t := 3) ?hr ?_; (case hd => rfl); (case hg => rfl); (case hr => first | (go_simp; done) | (go_simp; rfl)); intro ga hga w1 hbox hb; have HR1 := Aside0.mk (HR.out.below hb); have HX1 := Aside0.mk ((hb.block gx (blk_lt HX.out)).trans HX.out); have HGR1 := Aside0.mk ((hb.block gr (blk_lt HGR.out)).trans HGR.out); have HA1 := Aside0.mk hbox; have HGA := Aside0.mk hga; have HB1 := Aside0.mk hb; clear hb hbox hga) | ((with_reducible refine gate_dst (N := 3) rfl ?_); refine box_event ?hg (N := 3) ?hd (cs := #[.int .i64 0]) (t := 26) ?hr ?_; (case hd => rfl); (case hg => rfl); (case hr => first | (go_simp; done) | (go_simp; rfl)); intro ge hge w2 hbox hb; have HR2 := Aside0.mk (HR1.out.below hb); have HX2 := Aside0.mk ((hb.block gx (blk_lt HX1.out)).trans HX1.out); have HGR2 := Aside0.mk ((hb.block gr (blk_lt HGR1.out)).trans HGR1.out); have HA2 := Aside0.mk ((hb.block ga (blk_lt HA1.out)).trans HA1.out); have HE2 := Aside0.mk hbox; have HGE := Aside0.mk hge; have HB2 := Aside0.mk (below_step HB1.out hb); have HLT := Aside0.mk (blk_lt HA1.out); clear hb hbox hge))
  refine (get1_c w0 g gr gx A c b x w2 HR2.out hx ho hn hc HGR2.out HX2.out h0).mono ?_
  intro e w3 h3
  rw [HZ.out] at h3
  obtain ⟨HB3, HK3, h3⟩ := h3
  have hga : ga ≠ g := by have := blk_lt HR.out.blk; have := HGA.out; omega
  have hgax : ga ≠ gx := by have := blk_lt HX.out; have := HGA.out; omega
  have hle : w.heap.size ≤ ge := by have h1 := HLT.out; have h2 := HGA.out; have h3 : ge = w1.heap.size := HGE.out; omega
  have hge : ge ≠ g := by have := blk_lt HR.out.blk; omega
  have hgex : ge ≠ gx := by have := blk_lt HX.out; omega
  have hae : ge ≠ ga := by have h1 := HLT.out; have h3 : ge = w1.heap.size := HGE.out; omega
  have HA3 := Aside0.mk (HK3.out.blk HA2.out hga (by simpa using hgax))
  have HE3 := Aside0.mk (HK3.out.blk HE2.out hge (by simpa using hgex))
  have HKW := Aside0.mk ((KeepBut.of_below HB2.out g (some gx)).trans HK3.out (.inl rfl))
  have hwa : w.heap.size ≤ ga := by have := HGA.out; omega
  have hw0 : w0.heap.size ≤ w.heap.size := HR.out.hb.size
  have ca0 := (blk_cell HA3.out 0).trans rfl
  have ce0 := (blk_cell HE3.out 0).trans rfl
  have fa0 := blk_frozen HA3.out 0
  have fe0 := blk_frozen HE3.out 0
  have HFin : Aside0 (∀ (u v : Int), (Below w0.heap.size w0 ((w3.setCell ⟨ga, 0, none⟩ (.int .i64 u)).setCell ⟨ge, 0, none⟩ (.int .i64 v))) ∧ (KeepBut w ((w3.setCell ⟨ga, 0, none⟩ (.int .i64 u)).setCell ⟨ge, 0, none⟩ (.int .i64 v)) g (some gx)) ∧ ((w3.setCell ⟨ga, 0, none⟩ (.int .i64 u)).setCell ⟨ge, 0, none⟩ (.int .i64 v)).heap[ga]? = some (.cells #[.int .i64 u] 3 (0, 0)) ∧ ((w3.setCell ⟨ga, 0, none⟩ (.int .i64 u)).setCell ⟨ge, 0, none⟩ (.int .i64 v)).heap[ge]? = some (.cells #[.int .i64 v] 26 (0, 0))) := ⟨fun u v =>
    ⟨(HB3.out.setCell (Nat.le_trans hw0 hwa) _).setCell (Nat.le_trans hw0 hle) _, keep_far (keep_far HKW.out hwa _) hle _, blk_far (blk_put (cs := #[.int .i64 0]) HA3.out 0 _ rfl) hae.symm _, blk_put (cs := #[.int .i64 0]) (blk_far HE3.out hae _) 0 _ rfl⟩⟩
  cases Z with
  | none =>
    obtain rfl := h3
    obtain ⟨fb, fk, fa, fe⟩ := HFin.out x 400
    have FA := (blk_cell fa 0).trans rfl
    have FE := (blk_cell fe 0).trans rfl
    refine leaves_cons (f := 68) (args := #[.pointer (some ⟨ga, 0, none⟩), .pointer (some ⟨ge, 0, none⟩)]) (by simp) (by simp [go_sem]) ?_
    refine (catch_panicking ga ge hae x _ _ [] w3 HA3.out HE3.out).mono ?_
    rintro e u' w'' ⟨rfl, rfl, rfl⟩
    simp [Leaves, settle, results, Try.results42, go_sem, FA, FE]
    exact ⟨⟨fb⟩, ⟨fk⟩, rfl⟩
  | some p =>
    obtain ⟨⟨s, l⟩, k⟩ := p
    obtain ⟨rfl, v, HV, HX3, HG3⟩ := h3
    obtain ⟨fb, fk, fa, fe⟩ := HFin.out 0 0
    have FA := (blk_cell fa 0).trans rfl
    have FE := (blk_cell fe 0).trans rfl
    go_wp2
    refine leaves_cons (f := 68) (args := #[.pointer (some ⟨ga, 0, none⟩), .pointer (some ⟨ge, 0, none⟩)]) (by simp) (by simp [go_sem]) ?_
    refine (catch_idle _ _ _).mono ?_
    rintro e u' w'' ⟨rfl, rfl, rfl⟩
    simp [Leaves, settle, results, Try.results42, go_sem, FA, FE]
    exact ⟨⟨fb⟩, ⟨fk⟩, rfl, v, ⟨Kd.R_mono (Kd.R_far (p := ⟨ge, 0, none⟩) (Kd.R_far (p := ⟨ga, 0, none⟩) HV.out (fun k hk => by have h1 := blk_lt HA2.out; show k ≠ ga; omega) _) (fun k hk => by have h1 := blk_lt HE2.out; show k ≠ ge; omega) _) (fun k hk => Nat.le_trans HB2.out.size hk)⟩, ⟨blk_far (blk_far HX3.out hgax.symm _) hgex.symm _⟩, ⟨blk_far (blk_far HG3.out hga.symm _) hge.symm _⟩⟩
end Go.Proofs.Ytoheamfnddfgkaa.St
