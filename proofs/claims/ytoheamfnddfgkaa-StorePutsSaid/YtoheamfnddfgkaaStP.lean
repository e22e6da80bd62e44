/- store: Read. -/
import Derived.Test.YtoheamfnddfgkaaStO
namespace Go.Proofs.Ytoheamfnddfgkaa.St
open Go.RowKit Go.Proofs.YtoheamfnddfgkaaW.PrintWords Go.Proofs.YtoheamfnddfgkaaW.PrintLast Go.Proofs.YtoheamfnddfgkaaW.PrintMore
set_option linter.unusedVariables false
set_option linter.unusedSimpArgs false

def readG (l : List Int) : List CertT × Int × Int :=
  match readS l with
  | .ok cs => (cs, 0, 0)
  | .error p => ([], 400, (p : Int))

set_option maxRecDepth 100000 in
set_option maxHeartbeats 4000000 in
theorem read_c (A : Option Addr) (c : Nat) (b : List Int) (w : World) (hr : Kd.C (Kd.int .u8) w A b.length b) (hc : b.length ≤ c) (ho : okB b) (hn : b.length ≤ 4611686018427387904) :
    Calls Try.prog 17 #[.slice A b.length c] w fun e w' => ∃ v, e = .returned (.tuple #[v, .int .i64 (readG b).2.1, .int .i64 (readG b).2.2]) ∧ Kd.S PB.k61 61 w' w.heap.size (fun _ => True) v ((readG b).1.map toS) ∧ Below w.heap.size w w' := by
  have hu := Try.underlying70
  have hmf : ∀ (fn : Fn) (first cap : Array Value) (w : World), (Instr.makeFunc fn first cap).run Try.prog w = .ok (.func fn first cap) w := fun _ _ _ _ => rfl
  have HC := Aside0.mk hr
  clear hr
  go_enter Try.func17, Try.ntmps17
  go_wp2_with (first | ((with_reducible refine gate_dst (N := 1) rfl ?_); refine box_event ?hg (N := 1) ?hd (cs := #[.slice A b.length c]) (t := 25) ?hr ?_; (case hd => rfl); (case hg => rfl); (case hr => first | (go_simp; done) | (go_simp; rfl)); intro gs hgs w1 hbox hb; have HX1 := Aside0.mk hbox; have HG1 := Aside0.mk hgs; have HB1 := Aside0.mk hb; have HL1 := Aside0.mk (blk_lt hbox); have cs0 := (blk_cell hbox 0).trans rfl; clear hb hbox hgs) | ((with_reducible refine gate_dst (N := 5) rfl ?_); refine box_event ?hg (N := 5) ?hd (cs := #[.slice none 0 0]) (t := 35) ?hr ?_; (case hd => rfl); (case hg => rfl); (case hr => first | (go_simp; done) | (go_simp; rfl)); intro gl hgl w2 hbox hb; have HX2 := Aside0.mk ((hb.block gs (blk_lt HX1.out)).trans HX1.out); have HY2 := Aside0.mk hbox; have HG2 := Aside0.mk hgl; have HB2 := Aside0.mk (below_step HB1.out hb); have HL2 := Aside0.mk (blk_lt hbox); have cs2 := (blk_cell HX2.out 0).trans rfl; clear hb hbox hgl) | ((with_reducible refine gate_dst (N := 11) rfl ?_); refine box_event ?hg (N := 11) ?hd (cs := #[.slice A b.length c, .int .i64 0]) (t := 70) ?hr ?_; (case hd => rfl); (case hg => rfl); (case hr => first | (go_simp; done) | (go_simp; rfl)); intro g hg w3 hbox hb; have HX3 := Aside0.mk ((hb.block gs (blk_lt HX2.out)).trans HX2.out); have HY3 := Aside0.mk ((hb.block gl (blk_lt HY2.out)).trans HY2.out); have HR3 := Aside0.mk hbox; have HG3 := Aside0.mk hg; have HB3 := Aside0.mk (below_step HB2.out hb); have HL3 := Aside0.mk (blk_lt hbox); clear hb hbox hg) | ((with_reducible refine gate_dst (N := 6) rfl ?_); refine box_event ?hg (N := 6) ?hd (cs := #[.pointer none]) (t := 68) ?hr ?_; (case hd => rfl); (case hg => rfl); (case hr => first | (go_simp; done) | (go_simp; rfl)); intro gr hgr w4 hbox hb; have HX4 := Aside0.mk ((hb.block gs (blk_lt HX3.out)).trans HX3.out); have HY4 := Aside0.mk ((hb.block gl (blk_lt HY3.out)).trans HY3.out); have HR4 := Aside0.mk ((hb.block g (blk_lt HR3.out)).trans HR3.out); have HP4 := Aside0.mk hbox; have HG4 := Aside0.mk hgr; have HB4 := Aside0.mk (below_step HB3.out hb); clear hb hbox hgr; have cr0 := (blk_cell HP4.out 0).trans rfl; have fr0 := blk_frozen HP4.out 0))
  have k1 : gs = w.heap.size := HG1.out
  have k2 : gl = w1.heap.size := HG2.out
  have k3 : g = w2.heap.size := HG3.out
  have k4 : gr = w3.heap.size := HG4.out
  have hlt1 := HL1.out
  have hlt2 := HL2.out
  have hlt3 := HL3.out
  have hrg : gr ≠ g := by omega
  have hrl : gr ≠ gl := by omega
  have hrs : gr ≠ gs := by omega
  have hlg : gl ≠ g := by omega
  have h0r : w.heap.size ≤ gr := by omega
  have h0l : w.heap.size ≤ gl := by omega
  have h0g : w.heap.size ≤ g := by omega
  have h0s : w.heap.size ≤ gs := by omega
  clear k1 k2 k3 k4 hlt1 hlt2 hlt3
  obtain ⟨W5, hW5⟩ : ∃ W5, w4.setCell ⟨gr, 0, none⟩ (.pointer (some ⟨g, 0, none⟩)) = W5 := ⟨_, rfl⟩
  have HI : Aside0 (RI w g gr gs gl A c b W5) := ⟨hW5 ▸ ⟨blk_far HR4.out hrg.symm _, blk_put (cs := #[.pointer none]) HP4.out 0 _ rfl, blk_far HX4.out hrs.symm _, blk_far HY4.out hrl.symm _, HC.out, ⟨h0g, h0l, h0r, h0s⟩, HB4.out.setCell h0r _⟩⟩
  rw [hW5]
  clear hW5 HX4 HY4 HR4 HP4 HB4 HX3 HY3 HR3 HB3 HX2 HY2 HB2 HX1 HB1 cs0 cs2
  refine (face2_c w g gr gs gl A c b W5 HI.out ho hn hc).mono ?_
  intro e w6 h6
  obtain ⟨Z, hZ⟩ : ∃ Z, readS b = Z := ⟨_, rfl⟩
  have HZ := Aside0.mk hZ
  rw [hZ] at h6
  clear hZ
  obtain ⟨HB6, HK6, h6⟩ := h6
  cases Z with
  | error p =>
    have hs : readG b = ([], 400, (p : Int)) := by unfold readG; rw [HZ.out]
    obtain rfl := h6
    go_wp2
    go_ret3
    rw [hs]
    exact ⟨_, rfl, Kd.S_nil _ _ _ _ _, HB6.out⟩
  | ok l =>
    have hs : readG b = (l, 0, 0) := by unfold readG; rw [HZ.out]
    obtain ⟨rfl, v, HV, HY6⟩ := h6
    obtain ⟨Av, cv, ev⟩ := Kd.S_slice HV.out
    obtain ⟨ln, hln⟩ : ∃ t, (l.map toS).length = t := ⟨_, rfl⟩
    rw [hln] at ev
    clear hln
    subst ev
    have cl0 := (blk_cell HY6.out 0).trans rfl
    go_wp2
    go_ret3
    rw [hs]
    exact ⟨_, rfl, Kd.S_mono HV.out (fun _ _ => trivial), HB6.out⟩
end Go.Proofs.Ytoheamfnddfgkaa.St
