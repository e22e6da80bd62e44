/- poly: Divide, the divisor longer than the number; both together. -/
import Derived.Test.YtplignahjhenjaaPoDw
namespace Go.Proofs.Ytplignahjhenjaa.Lb
open Go.RowKit Go.Proofs.YtplignahjhenjaaW.PrintWords Go.Proofs.YtplignahjhenjaaW.PrintLast Go.Proofs.YtplignahjhenjaaW.PrintMore
open Go.Proofs.Ytplignahjhenjaa.Po (trm trm_of_tight tight_trm trm_len tight_iff ev dinner dinner_len dv)
set_option linter.unusedVariables false
set_option linter.unusedSimpArgs false

set_option maxRecDepth 100000 in
set_option maxHeartbeats 400000 in
theorem div_short (p q : List Int) (n a b : Nat) (t : Int) (hp : ∀ x ∈ p, lim a x) (hq : ∀ x ∈ q, lim b x) (hb : b ≤ 22) (hn : q.length = n + 1) (htop : q.getD n 0 = t) (ht : t.natAbs = 1) (hlim : a + 24 * (b + 1) ≤ 4000) (hpl : p.length ≤ 24) (tp : Po.tight p) (tq : Po.tight q) (hnp : p.length ≤ n) (hn24 : n ≤ 24) (A1 A2 : Option Addr) (c1 c2 : Nat) (hc2 : q.length ≤ c2) (w : World) (r1 : PL w A1 p) (r2 : PL w A2 q) :
    Calls Try.prog 28 #[.slice A1 p.length c1, .slice A2 q.length c2] w (OutD w (trm (dst t q n (p.length - n) p).1) (trm ((dst t q n (p.length - n) p).2.take n))) := by
  have hu := Try.underlying25
  have hu60 := Try.underlying60
  have R1 := Aside0.mk r1
  have R2 := Aside0.mk r2
  have HP := Aside0.mk hp
  have HQ := Aside0.mk hq
  have HBB := Aside0.mk hb
  have HTO := Aside0.mk htop
  have HT := Aside0.mk ht
  have HLIM := Aside0.mk hlim
  have TP := Aside0.mk tp
  have TQ := Aside0.mk tq
  have hn25 : n ≤ 24 := by omega
  have HN := Aside0.mk hn
  have hqs : q.length ≤ 25 := by omega
  clear r1 r2 hp hq hb htop ht hlim tp tq hn
  go_enter Try.func28, Try.ntmps28
  go_wp2_with fail
  refine (right_pz p (fun z hz => lim_le (HP.out z hz) (by have := HLIM.out; omega)) (by omega) TP.out A1 c1 w R1.out).mono ?_
  rintro e w1 ⟨rfl, hB1⟩
  go_wp2_with fail
  refine (right_pz q (fun z hz => lim_le (HQ.out z hz) (by have := HLIM.out; have := HBB.out; omega)) (by omega) TQ.out A2 c2 w1 (R2.out.below hB1.out)).mono ?_
  rintro e w2 ⟨rfl, hB2⟩
  have HB2 : Aside0 (Below w.heap.size w w2) := ⟨hB1.out.trans (hB2.out.mono hB1.out.size)⟩
  clear hB1 hB2
  obtain ⟨ad, B, cc, rfl, h1, h2, HR⟩ := R2.out.get HB2.out n (by have := HN.out; omega)
  rw [HTO.out] at h1 h2 HR
  obtain ⟨bd, hBd, hb0⟩ := one_cell HR.out HT.out
  have hz0 : bd.add 0 = bd := by simp [Addr.add]
  rw [hz0] at hb0
  subst hBd
  have hl1 : (lm t).length = 1 := by rw [one_lm HT.out]; rfl
  rw [hl1] at h2
  have hqn : ((q.length : Int) == 0) = false := by have := HN.out; simp; intro h; rw [h] at this; simp at this
  have hni : (q.length : Int) - 1 = (n : Int) := by have := HN.out; omega
  have hnl : (n : Int) < (q.length : Int) := by have := HN.out; omega
  have HL1 := Aside0.mk hl1
  clear hl1 hz0
  have hb1 : (w2.alloc (.cells #[.bool (sg t), .slice (some bd) 1 cc] 25)).cell? bd = some (.int .u64 1) := pw_cell_below ((Below.refl _ _).alloc (Nat.le_refl _) _) hb0
  have hpn : p.length ≤ n := hnp
  go_wp2_with fail
  obtain ⟨g8, hg8⟩ : ∃ g8, w2.heap.size = g8 := ⟨_, rfl⟩
  obtain ⟨X, hX⟩ : ∃ X, w2.alloc (.cells #[.bool (sg t), .slice (some bd) 1 cc] 25) = X := ⟨_, rfl⟩
  have HBX : Aside0 (Below w.heap.size w X) := ⟨by rw [← hX]; exact HB2.out.alloc HB2.out.size _⟩
  have HTX : Aside0 (BV X g8 (some bd) cc t) := ⟨by
    rw [← hX, ← hg8]
    have := BV.new HR.out
    rwa [HL1.out] at this⟩
  have HG8 : Aside0 (w.heap.size ≤ g8) := ⟨by rw [← hg8]; exact HB2.out.size⟩
  rw [hX, hg8]
  clear hb0 hb1 h1 h2 hX hg8 HB2
  refine (copied_z p (fun z hz => lim_le (HP.out z hz) (by have := HLIM.out; omega)) (by omega) A1 c1 X (R1.out.below HBX.out)).mono ?_
  rintro e w3 ⟨gr, rfl, hge, HO3, hB3⟩
  have HB3 : Aside0 (Below w.heap.size w w3) := ⟨HBX.out.trans (hB3.out.mono HBX.out.size)⟩
  have HT3 : Aside0 (BV w3 g8 (some bd) cc t) := ⟨HTX.out.below hB3.out⟩
  have HGR : Aside0 (g8 < gr) := ⟨by have := HTX.out.cells.2.2; omega⟩
  clear hge hB3
  have hd : dst t q n (p.length - n) p = ([], p) := by rw [show p.length - n = 0 by omega]; rfl
  have HDD := Aside0.mk hd
  have htk : Aside0 (trm (p.take n) = p) := ⟨by rw [List.take_of_length_le (by omega)]; exact trm_of_tight TP.out⟩
  clear hd
  go_wp2_with fail
  go_ret3
  refine ⟨none, 0, some ⟨gr, 0, none⟩, p.length, ?_, ?_, ?_, ⟨?_⟩, ⟨?_⟩, HB3⟩
  · rw [HDD.out, htk.out]; rfl
  · rw [HDD.out]; exact Nat.le_refl _
  · rw [HDD.out, htk.out]; exact Nat.le_refl _
  · rw [HDD.out]; exact PL.nil _ _
  · rw [HDD.out, htk.out]
    exact HO3.out.PL (by omega)
theorem div_z (p q : List Int) (n a b : Nat) (t : Int) (hp : ∀ x ∈ p, lim a x) (hq : ∀ x ∈ q, lim b x) (hb : b ≤ 22) (hn : q.length = n + 1) (htop : q.getD n 0 = t) (ht : t.natAbs = 1) (hlim : a + 24 * (b + 1) ≤ 4000) (hpl : p.length ≤ 24) (tp : Po.tight p) (tq : Po.tight q) (hn24 : n ≤ 24) (A1 A2 : Option Addr) (c1 c2 : Nat) (hc2 : q.length ≤ c2) (w : World) (r1 : PL w A1 p) (r2 : PL w A2 q) :
    Calls Try.prog 28 #[.slice A1 p.length c1, .slice A2 q.length c2] w (OutD w (trm (dst t q n (p.length - n) p).1) (trm ((dst t q n (p.length - n) p).2.take n))) := by
  rcases Nat.lt_or_ge n p.length with h | h
  · exact div_pz p q n a b t hp hq hb hn htop ht hlim hpl tp tq h A1 A2 c1 c2 hc2 w r1 r2
  · exact div_short p q n a b t hp hq hb hn htop ht hlim hpl tp tq h hn24 A1 A2 c1 c2 hc2 w r1 r2
end Go.Proofs.Ytplignahjhenjaa.Lb
