/- poly: Add. -/
import Derived.Test.YtplignahjhenjaaPoLi
namespace Go.Proofs.Ytplignahjhenjaa.Lb
open Go.RowKit Go.Proofs.YtplignahjhenjaaW.PrintWords Go.Proofs.YtplignahjhenjaaW.PrintLast Go.Proofs.YtplignahjhenjaaW.PrintMore
open Go.Proofs.Ytplignahjhenjaa.Po (trm trm_of_tight tight_trm trm_len tight_iff ev)
set_option linter.unusedVariables false
set_option linter.unusedSimpArgs false

theorem ext_getD {p q : List Int} (hl : p.length = q.length) (h : ∀ j, j < p.length → p.getD j 0 = q.getD j 0) : p = q := by
  apply List.ext_getElem hl
  intro i h1 h2
  have := h i h1
  rwa [List.getD_eq_getElem?_getD, List.getD_eq_getElem?_getD, List.getElem?_eq_getElem h1, List.getElem?_eq_getElem h2] at this
theorem getD_set (l : List Int) (i j : Nat) (v : Int) (hi : i < l.length) : (l.set i v).getD j 0 = if j = i then v else l.getD j 0 := by
  by_cases h : j = i
  · subst h
    rw [if_pos rfl, List.getD_eq_getElem?_getD, List.getElem?_set_self hi]; rfl
  · rw [if_neg h, List.getD_eq_getElem?_getD, List.getD_eq_getElem?_getD, List.getElem?_set_ne (by omega)]
theorem lim_getD {p : List Int} {k : Nat} (h : ∀ z ∈ p, lim k z) (j : Nat) : lim k (p.getD j 0) := by
  rcases Nat.lt_or_ge j p.length with hj | hj
  · rw [List.getD_eq_getElem?_getD, List.getElem?_eq_getElem hj]
    exact h _ (List.getElem_mem hj)
  · rw [List.getD_eq_getElem?_getD, List.getElem?_eq_none hj]
    exact lim_zero k
/-- The first i sums are done. -/
def adS (p q : List Int) : Nat → List Int
  | 0 => p
  | i + 1 => (adS p q i).set i ((adS p q i).getD i 0 + q.getD i 0)
theorem adS_len (p q : List Int) : ∀ i, (adS p q i).length = p.length
  | 0 => rfl
  | i + 1 => by rw [adS, List.length_set, adS_len p q i]
theorem adS_get (p q : List Int) : ∀ i j, i ≤ p.length → (adS p q i).getD j 0 = if j < i then p.getD j 0 + q.getD j 0 else p.getD j 0
  | 0, j, _ => by simp [adS]
  | i + 1, j, h => by
    rw [adS, getD_set _ _ _ _ (by rw [adS_len]; omega), adS_get p q i j (by omega), adS_get p q i i (by omega), if_neg (Nat.lt_irrefl i)]
    by_cases h1 : j = i
    · subst h1; rw [if_pos rfl, if_pos (by omega)]
    · rw [if_neg h1]
      by_cases h2 : j < i
      · rw [if_pos h2, if_pos (by omega)]
      · rw [if_neg h2, if_neg (by omega)]
theorem add_len : ∀ p q : List Int, (Po.add p q).length = max p.length q.length
  | [], q => by simp [Po.add]
  | a :: p, [] => by simp [Po.add]
  | a :: p, b :: q => by simp only [Po.add, List.length_cons, add_len p q]; omega
theorem adS_all {p q : List Int} (h : q.length ≤ p.length) : adS p q q.length = Po.add p q := by
  refine ext_getD (by rw [adS_len, add_len]; omega) fun j hj => ?_
  rw [adS_get p q _ _ h, Po.cf_add]
  by_cases h1 : j < q.length
  · rw [if_pos h1]
  · rw [if_neg h1]
    have : q.getD j 0 = 0 := by rw [List.getD_eq_getElem?_getD, List.getElem?_eq_none (by omega)]; rfl
    omega
theorem add_comm_p : ∀ p q : List Int, Po.add p q = Po.add q p
  | [], [] => rfl
  | [], b :: q => rfl
  | a :: p, [] => rfl
  | a :: p, b :: q => by rw [Po.add, Po.add, add_comm_p p q, Int.add_comm]
set_option maxRecDepth 100000 in
set_option maxHeartbeats 4000000 in
theorem add_pz (p q : List Int) (hp : ∀ z ∈ p, lim 4095 z) (hq : ∀ z ∈ q, lim 4095 z) (hsp : p.length ≤ 4096) (hsq : q.length ≤ 4096) (tp : Po.tight p) (tq : Po.tight q) (hle : q.length ≤ p.length) (A1 A2 : Option Addr) (c1 c2 : Nat) (w : World) (r1 : PL w A1 p) (r2 : PL w A2 q) :
    Calls Try.prog 27 #[.slice A1 p.length c1, .slice A2 q.length c2] w (OutLE w (trm (Po.add p q)) 0) := by
  have hu := Try.underlying25
  have hu60 := Try.underlying60
  have R1 := Aside0.mk r1
  have R2 := Aside0.mk r2
  have HP := Aside0.mk hp
  have HQ := Aside0.mk hq
  have TP := Aside0.mk tp
  have TQ := Aside0.mk tq
  have HLE := Aside0.mk hle
  have hlt : decide (p.length < q.length) = false := by simp; omega
  clear r1 r2 hp hq tp tq
  go_enter Try.func27, Try.ntmps27
  go_wp2_with fail
  refine (right_pz p (fun z hz => lim_le (HP.out z hz) (by omega)) hsp TP.out A1 c1 w R1.out).mono ?_
  rintro e w1 ⟨rfl, hB1⟩
  go_wp2_with fail
  refine (right_pz q (fun z hz => lim_le (HQ.out z hz) (by omega)) hsq TQ.out A2 c2 w1 (R2.out.below hB1.out)).mono ?_
  rintro e w2 ⟨rfl, hB2⟩
  go_wp2_with fail
  have HB2 : Aside0 (Below w.heap.size w w2) := ⟨hB1.out.trans (hB2.out.mono hB1.out.size)⟩
  obtain ⟨X, hX⟩ : ∃ X, w2.alloc (.cells #[.int .i64 0] 60) = X := ⟨_, rfl⟩
  obtain ⟨gs, hgs⟩ : ∃ gs, w2.heap.size = gs := ⟨_, rfl⟩
  have HBX : Aside0 (Below w.heap.size w X) := ⟨by rw [← hX]; exact HB2.out.alloc HB2.out.size _⟩
  have HSX : Aside0 (SB X gs) := ⟨by rw [← hX, ← hgs]; exact heap_alloc_new w2 _⟩
  have HGS : Aside0 (w.heap.size ≤ gs) := ⟨by rw [← hgs]; exact HB2.out.size⟩
  rw [hX, hgs]
  clear hX hgs hB1 hB2 HB2
  refine (copied_z p (fun z hz => lim_le (HP.out z hz) (by omega)) (by omega) A1 c1 X (R1.out.below HBX.out)).mono ?_
  rintro e w3 ⟨g, rfl, hge, HO3, hB3⟩
  have HB3 : Aside0 (Below w.heap.size w w3) := ⟨HBX.out.trans (hB3.out.mono HBX.out.size)⟩
  have HS3 : Aside0 (SB w3 gs) := ⟨HSX.out.below hB3.out⟩
  have HG : Aside0 (w.heap.size ≤ g) := ⟨Nat.le_trans HBX.out.size hge⟩
  have HNE : Aside0 (gs < g) := ⟨Nat.lt_of_lt_of_le HSX.out.lt hge⟩
  clear hge hB3
  go_wp2_with fail
  go_loopw [31] (fun v31 wr => ∃ i : Nat, v31 = .int .i64 i ∧ i ≤ q.length ∧ Aside0 (OB wr g (adS p q i)) ∧ Aside0 (SB wr gs) ∧ Aside0 (Below w.heap.size w wr)) (fun v31 _ => q.length - (intOf v31).toNat)
  case atStart => exact ⟨0, rfl, Nat.zero_le _, HO3, HS3, HB3⟩
  case round =>
    obtain ⟨i, rfl, hi, HO, HS, HB⟩ := hrel
    rename World => wr
    by_cases hil : i < q.length
    · obtain ⟨ad, B, cc, rfl, h1, h2, HR⟩ := R2.out.get HB.out i hil
      have lq := Aside0.mk (lim_getD HQ.out i)
      have lp := Aside0.mk (lim_getD HP.out i)
      have hyy := Aside0.mk (show (adS p q i).getD i 0 = p.getD i 0 by rw [adS_get p q i i (by omega), if_neg (Nat.lt_irrefl i)])
      obtain ⟨b, hb⟩ : ∃ b, q.getD i 0 = b := ⟨_, rfl⟩
      obtain ⟨a, ha⟩ : ∃ a, p.getD i 0 = a := ⟨_, rfl⟩
      rw [hb] at h1 h2 HR lq
      rw [ha] at lp hyy
      have HBq := Aside0.mk hb
      clear hb ha
      go_upto_region 10 with fail
      obtain ⟨Y, hY⟩ : ∃ Y, wr.alloc (.cells #[.bool (sg b), .slice B (lm b).length cc] 25) = Y := ⟨_, rfl⟩
      have HBY : Aside0 (Below w.heap.size w Y) := ⟨by rw [← hY]; exact HB.out.alloc HB.out.size _⟩
      have HOY : Aside0 (OB Y g (adS p q i)) := ⟨by rw [← hY]; exact HO.out.alloc _⟩
      have HSY : Aside0 (SB Y gs) := ⟨by rw [← hY]; exact HS.out.below ((Below.refl _ _).alloc (Nat.le_refl _) _)⟩
      have HGY : Aside0 (Y.heap[wr.heap.size]? = some (.cells #[.bool (sg b), .slice B (lm b).length cc] 25 (0, 0))) := ⟨by rw [← hY]; exact heap_alloc_new wr _⟩
      have HRY : Aside0 (RV Y B cc b) := ⟨by rw [← hY]; exact HR.out.alloc _⟩
      rw [hY]
      clear hY h1 h2
      obtain ⟨b0, b1, _, _, _⟩ := two_cells (Below.refl _ Y) HGY.out
      obtain ⟨B2, c2', p0, p1, HR2, f0, f1⟩ := HOY.out.get (Below.refl _ _) i (by rw [adS_len]; omega)
      rw [hyy.out] at p0 p1 HR2
      have hlen : (i : Int) < (p.length : Int) := by omega
      have CL := Lib.hid (fun Y' (hY' : Below Y.heap.size Y Y') => plus_z a b (lim_le lp.out (by omega)) (lim_le lq.out (by omega)) (lim_add lp.out lq.out) B2 B c2' cc gs Y' (HSY.out.below hY') (HR2.out.below hY') (HRY.out.below hY'))
      obtain ⟨z, hz⟩ : ∃ z, a + b = z := ⟨_, rfl⟩
      rw [hz] at CL
      have HZ := Aside0.mk hz
      clear hz
      go_region_with (go_at_call 42; refine (CL.out _ ?_).mono ?_; (first | exact Below.refl _ _ | exact (Below.refl _ _).drew); rintro e w4 ⟨B4, c4, rfl, HR4, hB4⟩; have HB4 : Aside0 (Below Y.heap.size Y w4) := ⟨by first | exact hB4.out | exact (Below.refl _ _).drew.trans hB4.out⟩; obtain ⟨B5, c5, q0, q1, HR5, e0, e1⟩ := HOY.out.get HB4.out i (by rw [adS_len]; omega))
      all_goals
        have HBZ : Aside0 (Below w.heap.size w w4) := ⟨HBY.out.trans (HB4.out.mono HBY.out.size)⟩
        have HOZ : Aside0 (OB w4 g (adS p q i)) := ⟨HOY.out.below HB4.out⟩
        have HSZ : Aside0 (SB w4 gs) := ⟨HSY.out.below HB4.out⟩
        clear b0 b1 p0 p1 f0 f1 q0 q1 e0 e1 HR2 HR5
        go_wp2
        go_roundw
        case rel =>
          refine ⟨i + 1, by go_num, by omega, ⟨?_⟩, ⟨(HSZ.out.far (p := ⟨g, i * 2, none⟩) (Nat.ne_of_lt HNE.out) _).far (p := ⟨g, i * 2 + 1, none⟩) (Nat.ne_of_lt HNE.out) _⟩, ⟨(HBZ.out.setCell (p := ⟨g, i * 2, none⟩) HG.out _).setCell (p := ⟨g, i * 2 + 1, none⟩) HG.out _⟩⟩
          have h5 := HOZ.out.set i (by rw [adS_len]; omega) HR4.out
          rw [adS, hyy.out, HBq.out, HZ.out]
          exact h5
        case measure => simp [intOf]; omega
    · obtain rfl : i = q.length := by omega
      rw [adS_all HLE.out] at HO
      have hpl : (Po.add p q).length = p.length := by rw [add_len]; omega
      have HPL := Aside0.mk hpl
      clear hpl
      go_wp2_with fail
      refine (out_pz (Po.add p q) (by rw [HPL.out]; omega) _ p.length p.length gs HPL.out (Nat.le_refl _) wr (HO.out.PL (by rw [HPL.out]; omega)) HS.out).mono ?_
      rintro e w5 ⟨k, rfl, hk, HK, rfl⟩
      have hkl : Aside0 ((trm (Po.add p q)).length = k) := ⟨by rw [← HK.out, List.length_take, HPL.out]; omega⟩
      go_wp2_with fail
      go_ret2
      refine ⟨some ⟨g, 0, none⟩, p.length, ?_, ?_, ⟨?_⟩, HB⟩
      · rw [hkl.out]; rfl
      · rw [hkl.out]; exact hk
      · rw [← HK.out]
        exact (HO.out.PL (by rw [HPL.out]; omega)).take k
set_option maxRecDepth 100000 in
set_option maxHeartbeats 4000000 in
theorem add_pz' (p q : List Int) (hp : ∀ z ∈ p, lim 4095 z) (hq : ∀ z ∈ q, lim 4095 z) (hsp : p.length ≤ 4096) (hsq : q.length ≤ 4096) (tp : Po.tight p) (tq : Po.tight q) (hgt : p.length < q.length) (A1 A2 : Option Addr) (c1 c2 : Nat) (w : World) (r1 : PL w A1 p) (r2 : PL w A2 q) :
    Calls Try.prog 27 #[.slice A1 p.length c1, .slice A2 q.length c2] w (OutLE w (trm (Po.add p q)) 0) := by
  rw [add_comm_p p q]
  have hle : p.length ≤ q.length := by omega
  have hu := Try.underlying25
  have hu60 := Try.underlying60
  have R1 := Aside0.mk r1
  have R2 := Aside0.mk r2
  have HP := Aside0.mk hp
  have HQ := Aside0.mk hq
  have TP := Aside0.mk tp
  have TQ := Aside0.mk tq
  have HLE := Aside0.mk hle
  have hlt : decide (p.length < q.length) = true := by simp; omega
  clear r1 r2 hp hq tp tq
  go_enter Try.func27, Try.ntmps27
  go_wp2_with fail
  refine (right_pz p (fun z hz => lim_le (HP.out z hz) (by omega)) hsp TP.out A1 c1 w R1.out).mono ?_
  rintro e w1 ⟨rfl, hB1⟩
  go_wp2_with fail
  refine (right_pz q (fun z hz => lim_le (HQ.out z hz) (by omega)) hsq TQ.out A2 c2 w1 (R2.out.below hB1.out)).mono ?_
  rintro e w2 ⟨rfl, hB2⟩
  go_wp2_with fail
  have HB2 : Aside0 (Below w.heap.size w w2) := ⟨hB1.out.trans (hB2.out.mono hB1.out.size)⟩
  obtain ⟨X, hX⟩ : ∃ X, w2.alloc (.cells #[.int .i64 0] 60) = X := ⟨_, rfl⟩
  obtain ⟨gs, hgs⟩ : ∃ gs, w2.heap.size = gs := ⟨_, rfl⟩
  have HBX : Aside0 (Below w.heap.size w X) := ⟨by rw [← hX]; exact HB2.out.alloc HB2.out.size _⟩
  have HSX : Aside0 (SB X gs) := ⟨by rw [← hX, ← hgs]; exact heap_alloc_new w2 _⟩
  have HGS : Aside0 (w.heap.size ≤ gs) := ⟨by rw [← hgs]; exact HB2.out.size⟩
  rw [hX, hgs]
  clear hX hgs hB1 hB2 HB2
  refine (copied_z q (fun z hz => lim_le (HQ.out z hz) (by omega)) (by omega) A2 c2 X (R2.out.below HBX.out)).mono ?_
  rintro e w3 ⟨g, rfl, hge, HO3, hB3⟩
  have HB3 : Aside0 (Below w.heap.size w w3) := ⟨HBX.out.trans (hB3.out.mono HBX.out.size)⟩
  have HS3 : Aside0 (SB w3 gs) := ⟨HSX.out.below hB3.out⟩
  have HG : Aside0 (w.heap.size ≤ g) := ⟨Nat.le_trans HBX.out.size hge⟩
  have HNE : Aside0 (gs < g) := ⟨Nat.lt_of_lt_of_le HSX.out.lt hge⟩
  clear hge hB3
  go_wp2_with fail
  go_loopw [31] (fun v31 wr => ∃ i : Nat, v31 = .int .i64 i ∧ i ≤ p.length ∧ Aside0 (OB wr g (adS q p i)) ∧ Aside0 (SB wr gs) ∧ Aside0 (Below w.heap.size w wr)) (fun v31 _ => p.length - (intOf v31).toNat)
  case atStart => exact ⟨0, rfl, Nat.zero_le _, HO3, HS3, HB3⟩
  case round =>
    obtain ⟨i, rfl, hi, HO, HS, HB⟩ := hrel
    rename World => wr
    by_cases hil : i < p.length
    · obtain ⟨ad, B, cc, rfl, h1, h2, HR⟩ := R1.out.get HB.out i hil
      have lp := Aside0.mk (lim_getD HP.out i)
      have lq := Aside0.mk (lim_getD HQ.out i)
      have hyy := Aside0.mk (show (adS q p i).getD i 0 = q.getD i 0 by rw [adS_get q p i i (by omega), if_neg (Nat.lt_irrefl i)])
      obtain ⟨b, hb⟩ : ∃ b, p.getD i 0 = b := ⟨_, rfl⟩
      obtain ⟨a, ha⟩ : ∃ a, q.getD i 0 = a := ⟨_, rfl⟩
      rw [hb] at h1 h2 HR lp
      rw [ha] at lq hyy
      have HBq := Aside0.mk hb
      clear hb ha
      go_upto_region 10 with fail
      obtain ⟨Y, hY⟩ : ∃ Y, wr.alloc (.cells #[.bool (sg b), .slice B (lm b).length cc] 25) = Y := ⟨_, rfl⟩
      have HBY : Aside0 (Below w.heap.size w Y) := ⟨by rw [← hY]; exact HB.out.alloc HB.out.size _⟩
      have HOY : Aside0 (OB Y g (adS q p i)) := ⟨by rw [← hY]; exact HO.out.alloc _⟩
      have HSY : Aside0 (SB Y gs) := ⟨by rw [← hY]; exact HS.out.below ((Below.refl _ _).alloc (Nat.le_refl _) _)⟩
      have HGY : Aside0 (Y.heap[wr.heap.size]? = some (.cells #[.bool (sg b), .slice B (lm b).length cc] 25 (0, 0))) := ⟨by rw [← hY]; exact heap_alloc_new wr _⟩
      have HRY : Aside0 (RV Y B cc b) := ⟨by rw [← hY]; exact HR.out.alloc _⟩
      rw [hY]
      clear hY h1 h2
      obtain ⟨b0, b1, _, _, _⟩ := two_cells (Below.refl _ Y) HGY.out
      obtain ⟨B2, c2', p0, p1, HR2, f0, f1⟩ := HOY.out.get (Below.refl _ _) i (by rw [adS_len]; omega)
      rw [hyy.out] at p0 p1 HR2
      have hlen : (i : Int) < (q.length : Int) := by omega
      have CL := Lib.hid (fun Y' (hY' : Below Y.heap.size Y Y') => plus_z a b (lim_le lq.out (by omega)) (lim_le lp.out (by omega)) (lim_add lq.out lp.out) B2 B c2' cc gs Y' (HSY.out.below hY') (HR2.out.below hY') (HRY.out.below hY'))
      obtain ⟨z, hz⟩ : ∃ z, a + b = z := ⟨_, rfl⟩
      rw [hz] at CL
      have HZ := Aside0.mk hz
      clear hz
      go_region_with (go_at_call 42; refine (CL.out _ ?_).mono ?_; (first | exact Below.refl _ _ | exact (Below.refl _ _).drew); rintro e w4 ⟨B4, c4, rfl, HR4, hB4⟩; have HB4 : Aside0 (Below Y.heap.size Y w4) := ⟨by first | exact hB4.out | exact (Below.refl _ _).drew.trans hB4.out⟩; obtain ⟨B5, c5, q0, q1, HR5, e0, e1⟩ := HOY.out.get HB4.out i (by rw [adS_len]; omega))
      all_goals
        have HBZ : Aside0 (Below w.heap.size w w4) := ⟨HBY.out.trans (HB4.out.mono HBY.out.size)⟩
        have HOZ : Aside0 (OB w4 g (adS q p i)) := ⟨HOY.out.below HB4.out⟩
        have HSZ : Aside0 (SB w4 gs) := ⟨HSY.out.below HB4.out⟩
        clear b0 b1 p0 p1 f0 f1 q0 q1 e0 e1 HR2 HR5
        go_wp2
        go_roundw
        case rel =>
          refine ⟨i + 1, by go_num, by omega, ⟨?_⟩, ⟨(HSZ.out.far (p := ⟨g, i * 2, none⟩) (Nat.ne_of_lt HNE.out) _).far (p := ⟨g, i * 2 + 1, none⟩) (Nat.ne_of_lt HNE.out) _⟩, ⟨(HBZ.out.setCell (p := ⟨g, i * 2, none⟩) HG.out _).setCell (p := ⟨g, i * 2 + 1, none⟩) HG.out _⟩⟩
          have h5 := HOZ.out.set i (by rw [adS_len]; omega) HR4.out
          rw [adS, hyy.out, HBq.out, HZ.out]
          exact h5
        case measure => simp [intOf]; omega
    · obtain rfl : i = p.length := by omega
      rw [adS_all HLE.out] at HO
      have hpl : (Po.add q p).length = q.length := by rw [add_len]; omega
      have HPL := Aside0.mk hpl
      clear hpl
      go_wp2_with fail
      refine (out_pz (Po.add q p) (by rw [HPL.out]; omega) _ q.length q.length gs HPL.out (Nat.le_refl _) wr (HO.out.PL (by rw [HPL.out]; omega)) HS.out).mono ?_
      rintro e w5 ⟨k, rfl, hk, HK, rfl⟩
      have hkl : Aside0 ((trm (Po.add q p)).length = k) := ⟨by rw [← HK.out, List.length_take, HPL.out]; omega⟩
      go_wp2_with fail
      go_ret2
      refine ⟨some ⟨g, 0, none⟩, q.length, ?_, ?_, ⟨?_⟩, HB⟩
      · rw [hkl.out]; rfl
      · rw [hkl.out]; exact hk
      · rw [← HK.out]
        exact (HO.out.PL (by rw [HPL.out]; omega)).take k
end Go.Proofs.Ytplignahjhenjaa.Lb
