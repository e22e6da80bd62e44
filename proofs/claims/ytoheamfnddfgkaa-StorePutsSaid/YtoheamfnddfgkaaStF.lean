/- store: Get's closure. -/
import Derived.Test.YtoheamfnddfgkaaStE
namespace Go.Proofs.Ytoheamfnddfgkaa.St
open Go.RowKit Go.Proofs.YtoheamfnddfgkaaW.PrintWords Go.Proofs.YtoheamfnddfgkaaW.PrintLast Go.Proofs.YtoheamfnddfgkaaW.PrintMore
set_option linter.unusedVariables false
set_option linter.unusedSimpArgs false

theorem keepTo {w w' : World} {g : Nat} (h : KeepBut w w' g none) (r : Option Nat) : KeepBut w w' g r := ⟨h.1, fun i hi hg _ => h.2 i hi hg (by simp)⟩
theorem keepSet {w w' : World} {g gx : Nat} (h : KeepBut w w' g (some gx)) (i : Nat) (u : Value) : KeepBut w (w'.setCell ⟨gx, i, none⟩ u) g (some gx) :=
  ⟨by simpa [World.setCell] using h.1, fun j hj hg hr => (Below.heap_setCell w' ⟨gx, i, none⟩ u j (fun e => hr (by rw [e]))).trans (h.2 j hj hg hr)⟩
/-- What comes of Get's closure. -/
def GetsN (w0 : World) (g gx : Nat) (A : Option Addr) (c : Nat) (b : List Int) (x : Nat) (w : World) (r : Option ((Bool × List Int) × Nat)) (e : Ending) (w' : World) : Prop :=
  Aside0 (Below w0.heap.size w0 w') ∧ Aside0 (KeepBut w w' g (some gx)) ∧
  match r with
  | some ((s, l), k) => e = .returned (.tuple #[]) ∧ ∃ v, Aside0 (Kd.R (Kd.int .u64) 58 w' w0.heap.size (fun k => w.heap.size ≤ k) v l) ∧ Aside0 (w'.heap[gx]? = some (.cells #[.bool s, v] 24 (0, 0))) ∧ Aside0 (w'.heap[g]? = some (.cells #[.slice A b.length c, .int .i64 ((x + k : Nat) : Int)] 70 (0, 0)))
  | none => e = .panicked [{ v := .iface 79 (.int .i64 (x : Int)), recovered := false }]

set_option maxRecDepth 100000 in
set_option maxHeartbeats 2000000 in
theorem get1_c (w0 : World) (g gr gx : Nat) (A : Option Addr) (c : Nat) (b : List Int) (x : Nat) (w : World) (hr : RS w0 g A c b x w) (hx : x ≤ b.length) (ho : okB b) (hn : b.length ≤ 4611686018427387904) (hc : b.length ≤ c)
    (hgr : w.heap[gr]? = some (.cells #[.pointer (some ⟨g, 0, none⟩)] 68 (0, 0))) (hgx : w.heap[gx]? = some (.cells #[.bool false, .slice none 0 0] 24 (0, 0))) (h0 : w0.heap.size ≤ gx) :
    Calls Try.prog 43 #[.pointer (some ⟨gr, 0, none⟩), .pointer (some ⟨gx, 0, none⟩)] w (GetsN w0 g gx A c b x w (numS (b.drop x))) := by
  have hu := Try.underlying70
  have hu24 := Try.underlying24
  have HR := Aside0.mk hr
  have cr0 := (blk_cell hgr 0).trans rfl
  have hne : gx ≠ g := by rintro rfl; rw [hr.blk] at hgx; simp at hgx
  have HX := Aside0.mk hgx
  clear hr hgx hgr
  obtain ⟨Z, hZ⟩ : ∃ Z, numS (b.drop x) = Z := ⟨_, rfl⟩
  have HN := Aside0.mk (number_c w0 g A c b x w HR.out hx ho hn hc)
  rw [hZ] at HN ⊢
  clear hZ
  go_enter Try.func43, Try.ntmps43
  go_wp2_with fail
  refine HN.out.mono ?_
  intro e w2 h2
  cases Z with
  | none =>
    obtain ⟨rfl, ⟨y, hy⟩, hk⟩ := h2
    exact ⟨rfl, ⟨hy.hb⟩, ⟨keepTo hk.out _⟩, rfl⟩
  | some p =>
    obtain ⟨⟨s, l⟩, k⟩ := p
    obtain ⟨v, rfl, HV, HR2, HK2⟩ := h2
    obtain ⟨Av, cv, ev⟩ := Kd.R_slice HV.out
    obtain ⟨ln, hln⟩ : ∃ t, l.length = t := ⟨_, rfl⟩
    rw [hln] at ev
    clear hln
    subst ev
    have HX2 := Aside0.mk (HK2.out.blk HX.out hne (by simp))
    have cx0 := (blk_cell HX2.out 0).trans rfl
    have cx1 := (blk_cell HX2.out 1).trans rfl
    have fx0 := blk_frozen HX2.out 0
    have fx1 := blk_frozen HX2.out 1
    have HG := Aside0.mk HR2.out.blk
    have HB := Aside0.mk HR2.out.hb
    have HF : Aside0 (∀ k, w.heap.size ≤ k → k ≠ gx) := ⟨fun k hk => by have := blk_lt HX.out; omega⟩
    go_wp2_with fail
    have hfin : GetsN w0 g gx A c b x w (some ((s, l), k)) (.returned (.tuple #[])) ((w2.setCell ⟨gx, 0, none⟩ (.bool s)).setCell ⟨gx, 1, none⟩ (.slice Av ln cv)) :=
      ⟨⟨(HB.out.setCell h0 _).setCell h0 _⟩, ⟨keepSet (keepSet (keepTo HK2.out _) _ _) _ _⟩, rfl, _, ⟨Kd.R_far (p := ⟨gx, 1, none⟩) (Kd.R_far (p := ⟨gx, 0, none⟩) HV.out HF.out _) HF.out _⟩, ⟨blk_put (cs := #[.bool s, .slice none 0 0]) (blk_put (cs := #[.bool false, .slice none 0 0]) HX2.out 0 _ rfl) 1 _ rfl⟩, ⟨blk_far (blk_far HG.out hne.symm _) hne.symm _⟩⟩
    first | (exact bodyPost_ret (results_none rfl _ _ _) rfl hfin) | (go_end0; exact hfin)
end Go.Proofs.Ytoheamfnddfgkaa.St
