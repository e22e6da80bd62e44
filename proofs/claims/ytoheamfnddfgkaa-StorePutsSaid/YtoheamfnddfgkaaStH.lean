/- store: Get. -/
import Derived.Test.YtoheamfnddfgkaaStG
namespace Go.Proofs.Ytoheamfnddfgkaa.St
open Go.RowKit Go.Proofs.YtoheamfnddfgkaaW.PrintWords Go.Proofs.YtoheamfnddfgkaaW.PrintLast Go.Proofs.YtoheamfnddfgkaaW.PrintMore
set_option linter.unusedVariables false
set_option linter.unusedSimpArgs false

def getS (l : List Int) : Bool × List Int × Int × Int :=
  match numS l with
  | some ((s, m), k) => (s, m, (k : Int), 0)
  | none => (false, [], 0, 400)

set_option maxRecDepth 100000 in
set_option maxHeartbeats 4000000 in
theorem get_c (A : Option Addr) (c : Nat) (b : List Int) (w : World) (hr : Kd.C (Kd.int .u8) w A b.length b) (hc : b.length ≤ c) (ho : okB b) (hn : b.length ≤ 4611686018427387904) :
    Calls Try.prog 12 #[.slice A b.length c] w fun e w' => ∃ v, e = .returned (.tuple #[.agg #[.bool (getS b).1, v], .int .i64 (getS b).2.2.1, .int .i64 (getS b).2.2.2]) ∧ Kd.R (Kd.int .u64) 58 w' w.heap.size (fun _ => True) v (getS b).2.1 ∧ Below w.heap.size w w' := by
  have hu := Try.underlying70
  have hu24 := Try.underlying24
  have hmf : ∀ (fn : Fn) (first cap : Array Value) (w : World), (Instr.makeFunc fn first cap).run Try.prog w = .ok (.func fn first cap) w := fun _ _ _ _ => rfl
  have HC := Aside0.mk hr
  clear hr
  go_enter Try.func12, Try.ntmps12
  go_wp2_with (first | ((with_reducible refine gate_dst (N := 2) rfl ?_); refine box_event ?hg (N := 2) ?hd (cs := #[.bool false, .slice none 0 0]) (t := 24) ?hr ?_; (case hd => rfl); (case hg => rfl); (case hr => first | (go_simp; done) | (go_simp; rfl)); intro gb hgb w1 hbox hb; have HX1 := Aside0.mk hbox; have HG1 := Aside0.mk hgb; have HB1 := Aside0.mk hb; have HL1 := Aside0.mk (blk_lt hbox); clear hb hbox hgb) | ((with_reducible refine gate_dst (N := 5) rfl ?_); refine box_event ?hg (N := 5) ?hd (cs := #[.bool false, .slice none 0 0]) (t := 24) ?hr ?_; (case hd => rfl); (case hg => rfl); (case hr => first | (go_simp; done) | (go_simp; rfl)); intro gx hgx w2 hbox hb; have HX2 := Aside0.mk ((hb.block gb (blk_lt HX1.out)).trans HX1.out); have HY2 := Aside0.mk hbox; have HG2 := Aside0.mk hgx; have HB2 := Aside0.mk (below_step HB1.out hb); have HL2 := Aside0.mk (blk_lt hbox); clear hb hbox hgx) | ((with_reducible refine gate_dst (N := 11) rfl ?_); refine box_event ?hg (N := 11) ?hd (cs := #[.slice A b.length c, .int .i64 0]) (t := 70) ?hr ?_; (case hd => rfl); (case hg => rfl); (case hr => first | (go_simp; done) | (go_simp; rfl)); intro g hg w3 hbox hb; have HX3 := Aside0.mk ((hb.block gb (blk_lt HX2.out)).trans HX2.out); have HY3 := Aside0.mk ((hb.block gx (blk_lt HY2.out)).trans HY2.out); have HR3 := Aside0.mk hbox; have HG3 := Aside0.mk hg; have HB3 := Aside0.mk (below_step HB2.out hb); have HL3 := Aside0.mk (blk_lt hbox); clear hb hbox hg) | ((with_reducible refine gate_dst (N := 6) rfl ?_); refine box_event ?hg (N := 6) ?hd (cs := #[.pointer none]) (t := 68) ?hr ?_; (case hd => rfl); (case hg => rfl); (case hr => first | (go_simp; done) | (go_simp; rfl)); intro gr hgr w4 hbox hb; have HX4 := Aside0.mk ((hb.block gb (blk_lt HX3.out)).trans HX3.out); have HY4 := Aside0.mk ((hb.block gx (blk_lt HY3.out)).trans HY3.out); have HR4 := Aside0.mk ((hb.block g (blk_lt HR3.out)).trans HR3.out); have HP4 := Aside0.mk hbox; have HG4 := Aside0.mk hgr; have HB4 := Aside0.mk (below_step HB3.out hb); clear hb hbox hgr; have cr0 := (blk_cell HP4.out 0).trans rfl; have fr0 := blk_frozen HP4.out 0))
  have k1 : gb = w.heap.size := HG1.out
  have k2 : gx = w1.heap.size := HG2.out
  have k3 : g = w2.heap.size := HG3.out
  have k4 : gr = w3.heap.size := HG4.out
  have hlt1 := HL1.out
  have hlt2 := HL2.out
  have hlt3 := HL3.out
  have hgrg : gr ≠ g := by omega
  have hgrx : gr ≠ gx := by omega
  have hgrb : gr ≠ gb := by omega
  have hgx : gx ≠ g := by omega
  have hgb : gb ≠ g := by omega
  have hgbx : gb ≠ gx := by omega
  have h0r : w.heap.size ≤ gr := by omega
  have h0x : w.heap.size ≤ gx := by omega
  have h0g : w.heap.size ≤ g := by omega
  have h0b : w.heap.size ≤ gb := by omega
  clear k1 k2 k3 k4 hlt1 hlt2 hlt3
  obtain ⟨W5, hW5⟩ : ∃ W5, w4.setCell ⟨gr, 0, none⟩ (.pointer (some ⟨g, 0, none⟩)) = W5 := ⟨_, rfl⟩
  have HB5 : Aside0 (Below w.heap.size w W5) := ⟨hW5 ▸ HB4.out.setCell h0r _⟩
  have HX5 : Aside0 (W5.heap[gb]? = some (.cells #[.bool false, .slice none 0 0] 24 (0, 0))) := ⟨hW5 ▸ blk_far HX4.out hgrb.symm _⟩
  have HY5 : Aside0 (W5.heap[gx]? = some (.cells #[.bool false, .slice none 0 0] 24 (0, 0))) := ⟨hW5 ▸ blk_far HY4.out hgrx.symm _⟩
  have HR5 : Aside0 (W5.heap[g]? = some (.cells #[.slice A b.length c, .int .i64 0] 70 (0, 0))) := ⟨hW5 ▸ blk_far HR4.out hgrg.symm _⟩
  have HP5 : Aside0 (W5.heap[gr]? = some (.cells #[.pointer (some ⟨g, 0, none⟩)] 68 (0, 0))) := ⟨hW5 ▸ blk_put (cs := #[.pointer none]) HP4.out 0 _ rfl⟩
  have HRS : Aside0 (RS w g A c b 0 W5) := ⟨⟨HR5.out, Kd.C_foot_came (Kd.heap_int _) HC.out HB5.out h0g, HB5.out, h0g⟩⟩
  rw [hW5]
  clear hW5 HX4 HY4 HR4 HP4 HB4 HX3 HY3 HR3 HB3 HX2 HY2 HB2 HX1 HB1
  refine (face1_c w g gr gx A c b 0 W5 HRS.out (Nat.zero_le _) ho hn hc HP5.out HY5.out h0x).mono ?_
  intro e w6 h6
  rw [List.drop_zero] at h6
  obtain ⟨Z, hZ⟩ : ∃ Z, numS b = Z := ⟨_, rfl⟩
  have HZ := Aside0.mk hZ
  rw [hZ] at h6
  clear hZ
  obtain ⟨HB6, HK6, h6⟩ := h6
  have HX6 := Aside0.mk (HK6.out.blk HX5.out hgb (by simpa using hgbx))
  have HP6 := Aside0.mk (HK6.out.blk HP5.out hgrg (by simpa using hgrx))
  have cb0 := (blk_cell HX6.out 0).trans rfl
  have cb1 := (blk_cell HX6.out 1).trans rfl
  have fb0 := blk_frozen HX6.out 0
  have fb1 := blk_frozen HX6.out 1
  have cp0 := (blk_cell HP6.out 0).trans rfl
  cases Z with
  | none =>
    have hs : getS b = (false, [], 0, 400) := by unfold getS; rw [HZ.out]
    obtain rfl := h6
    go_wp2
    refine bodyPost_ret (results_ctt rfl _ _ gb 24 #[.bool false, .slice none 0 0] (0, 0) _ rfl (blk_put (cs := #[.bool false, .slice none 0 0]) (blk_put (cs := #[.bool false, .slice none 0 0]) HX6.out 0 _ rfl) 1 _ rfl) Try.underlying24 rfl (by kernel_rfl)) rfl ?_
    rw [hs]
    exact ⟨_, rfl, Kd.R_nil _ _ _ _ _, (HB6.out.setCell h0b _).setCell h0b _⟩
  | some p =>
    obtain ⟨⟨s, l⟩, k⟩ := p
    have hs : getS b = (s, l, (k : Int), 0) := by unfold getS; rw [HZ.out]
    obtain ⟨rfl, v, HV, HY6, HR6⟩ := h6
    obtain ⟨Av, cv, ev⟩ := Kd.R_slice HV.out
    obtain ⟨ln, hln⟩ : ∃ t, l.length = t := ⟨_, rfl⟩
    rw [hln] at ev
    clear hln
    subst ev
    have cx0 := (blk_cell HY6.out 0).trans rfl
    have cx1 := (blk_cell HY6.out 1).trans rfl
    have cg1 : w6.cell? ⟨g, 1, none⟩ = some (.int .i64 (k : Int)) := by have h := (blk_cell HR6.out 1).trans rfl; simpa using h
    have HF : Aside0 (∀ k, W5.heap.size ≤ k → k ≠ gb) := ⟨fun k hk => by have := blk_lt HX5.out; omega⟩
    go_wp2
    go_region
    go_wp2
    have hB : Below w.heap.size w ((w6.setCell ⟨gb, 0, none⟩ (.bool s)).setCell ⟨gb, 1, none⟩ (.slice Av ln cv)) := (HB6.out.setCell h0b _).setCell h0b _
    have hV : Kd.R (Kd.int .u64) 58 ((w6.setCell ⟨gb, 0, none⟩ (.bool s)).setCell ⟨gb, 1, none⟩ (.slice Av ln cv)) w.heap.size (fun _ => True) (.slice Av ln cv) l := Kd.R_mono (Kd.R_far (p := ⟨gb, 1, none⟩) (Kd.R_far (p := ⟨gb, 0, none⟩) HV.out HF.out _) HF.out _) (fun _ _ => trivial)
    refine bodyPost_ret (results_ctt rfl _ _ gb 24 #[.bool s, .slice Av ln cv] (0, 0) _ rfl (blk_drew (blk_put (cs := #[.bool s, .slice none 0 0]) (blk_put (cs := #[.bool false, .slice none 0 0]) HX6.out 0 _ rfl) 1 _ rfl)) Try.underlying24 rfl (by kernel_rfl)) rfl ?_
    rw [hs]
    exact ⟨_, rfl, Kd.R_drew hV, below_drew1 hB⟩
end Go.Proofs.Ytoheamfnddfgkaa.St
