/- poly: own, copied. -/
import Derived.Test.YtplignahjhenjaaPoDo
import Derived.Deep.RegionLaw
namespace Go.Proofs.Ytplignahjhenjaa.Lb
open Go.RowKit Go.Proofs.YtplignahjhenjaaW.PrintWords Go.Proofs.YtplignahjhenjaaW.PrintLast Go.Proofs.YtplignahjhenjaaW.PrintMore
set_option linter.unusedVariables false
set_option linter.unusedSimpArgs false

set_option maxRecDepth 100000 in
set_option maxHeartbeats 2000000 in
theorem own_z (a : Int) (ha : (lm a).length ≤ 4096) (A1 : Option Addr) (c1 : Nat) (w : World) (r1 : RV w A1 c1 a) :
    Calls Try.prog 75 #[.agg #[.bool (sg a), .slice A1 (lm a).length c1]] w (OutI w a) := by
  have hu := Try.underlying25
  have R1 := Aside0.mk r1
  have HA := Aside0.mk ha
  obtain ⟨W, hW⟩ : ∃ W, (w.alloc (.cells #[.bool (sg a), .slice A1 (lm a).length c1] 25)).alloc (.cells #[.bool false, .slice none 0 0] 25) = W := ⟨_, rfl⟩
  have HB0 : Aside0 (Below w.heap.size w W) := ⟨by rw [← hW]; exact ((Below.refl _ _).alloc (Nat.le_refl _) _).alloc (by simp) _⟩
  have HG0 : Aside0 (W.heap[w.heap.size]? = some (.cells #[.bool (sg a), .slice A1 (lm a).length c1] 25 (0, 0))) := ⟨by
    rw [← hW, Below.heap_alloc _ _ _ (by simp)]
    exact heap_alloc_new w _⟩
  have HG1 : Aside0 (W.heap[w.heap.size + 1]? = some (.cells #[.bool false, .slice none 0 0] 25 (0, 0))) := ⟨by
    rw [← hW]
    have := heap_alloc_new (w.alloc (.cells #[.bool (sg a), .slice A1 (lm a).length c1] 25)) (.cells #[.bool false, .slice none 0 0] 25)
    simpa using this⟩
  have HW := Aside0.mk hW
  clear hW r1 ha
  go_enter Try.func75, Try.ntmps75
  go_upto_region 1 with fail
  rw [HW.out]
  obtain ⟨c0, c1', f0, f1, z0⟩ := two_cells (Below.refl _ W) HG0.out
  go_region_law (refine Kd.R_append_rows_step u64 (w0 := W) W.heap.size (by rfl) (.const (.slice none 0 0)) (.tmp 6) 23 50 (.int .u64 0) 8 rfl Try.underlying23 infoU rfl (by decide) (by omega) (.slice none 0 0) ([] : List Int) (lm a) A1 (lm a).length c1 (fun _ => True) (fun _ => False) rfl (by simp [Act.eval, Act.put]) (Kd.R_nil _ _ _ _ _) (by first | exact (R1.out.below HB0.out).reads | exact ((R1.out.below HB0.out).drew).reads) (fun _ _ h => h) (fun _ h => h.elim) (fun _ _ => trivial) (by first | exact (Below.refl _ _) | exact (Below.refl _ _).drew) (by simp) (by simp; have := HA.out; omega) ?_; intro v1 w1 hR hB _ _; obtain ⟨A7, c7, rfl⟩ := Kd.R_slice hR; have HR1 := Aside0.mk hR; have HB1 := Aside0.mk hB; obtain ⟨e0, e1, i0, i1, z2⟩ := two_cells hB HG1.out; obtain ⟨c0', c1'', f0', f1', z0'⟩ := two_cells hB HG0.out; clear hR hB)
  all_goals
    have HF := Aside0.mk e0
    have HF1 := Aside0.mk e1
    have hR2 := Kd.R_reads' HR1.out
    have HRV : Aside0 (RV w1 A7 c7 a) := ⟨⟨by simpa using hR2.2.1, by simpa using hR2.2.2⟩⟩
    have HBX : Aside0 (Below w.heap.size w w1) := ⟨HB0.out.trans (HB1.out.mono HB0.out.size)⟩
    clear hR2
    go_wp2
    refine bodyPost_ret (v := .agg #[.bool (sg a), .slice A7 (lm a).length c7]) (by simp [results, Try.results75, go_sem, Act.put, *]) (by first | rfl | simp [Act.put]) ⟨A7, c7, rfl, ⟨?_⟩, ⟨((HBX.out.setCell (by show w.heap.size ≤ w.heap.size + 1; omega) _).setCell (by show w.heap.size ≤ w.heap.size + 1; omega) _)⟩⟩
    refine (HRV.out.setb HF.out (noLimb_bool _) _).setb (v := .slice none 0 0) ?_ (noLimb_slice _ _ _) _
    rw [World.cell?_setCell_other _ _ _ _ (by simp)]
    exact HF1.out
theorem make_rows {P : Program} (t e : TypeId) (z : Value) (size bytes m : Nat) (ht : P.underlying t = some (.slice e)) (hinfo : (P.info? e).map (fun i => (i.zero, i.size, i.bytes)) = some (some z, size, bytes)) (h9 : bytes * m ≤ 281474976710656) (hm : m ≤ 281474976710656) (W : World) :
    (Instr.makeSlice t (.int .i64 (m : Int)) (.int .i64 (m : Int))).run P W = .ok (.slice (some ⟨W.heap.size, 0, none⟩) m m) (W.alloc (.cells (madeCells z.cells (m * size)) e)) := by
  obtain ⟨i0, hi, hzz⟩ := Option.map_eq_some_iff.1 hinfo
  simp only [Prod.mk.injEq] at hzz
  obtain ⟨hz0, hz1, hz2⟩ := hzz
  have hr := run_make (P := P) W t e i0 z ht hi hz0 .i64 .i64 (m : Int) (m : Int) (by omega) (by omega)
    (by
      have h3 : ((i0.bytes * m : Nat) : Int) ≤ 281474976710656 := by rw [hz2]; omega
      rwa [Int.natCast_mul] at h3) (by omega)
  simp only [Int.toNat_natCast] at hr
  rwa [hz1] at hr
theorem make_nums (m : Nat) (hm : m ≤ 8796093022207) (W : World) : (Instr.makeSlice 22 (.int .i64 (m : Int)) (.int .i64 (m : Int))).run Try.prog W = .ok (.slice (some ⟨W.heap.size, 0, none⟩) m m) (W.alloc (.cells (madeCells #[.bool false, .slice none 0 0] (m * 2)) 25)) :=
  make_rows (P := Try.prog) 22 25 (.agg #[.bool false, .slice none 0 0]) 2 32 m Try.underlying22 (by kernel_rfl) (by omega) (by omega) W
/-- A list of which the first i numbers are copied. -/
def cpS (zs : List Int) (i : Nat) : List Int := zs.take i ++ List.replicate (zs.length - i) 0
theorem cpS_len {zs : List Int} {i : Nat} (h : i ≤ zs.length) : (cpS zs i).length = zs.length := by simp [cpS]; omega
theorem cpS_zero (zs : List Int) : cpS zs 0 = List.replicate zs.length 0 := by simp [cpS]
theorem cpS_all (zs : List Int) : cpS zs zs.length = zs := by simp [cpS]
theorem cpS_set {zs : List Int} {i : Nat} (h : i < zs.length) : (cpS zs i).set i (zs.getD i 0) = cpS zs (i + 1) := by
  have hm : min i zs.length = i := by omega
  unfold cpS
  rw [List.set_append_right _ _ (by simp; omega), List.length_take, hm, Nat.sub_self, List.take_succ_eq_append_getElem h, List.append_assoc]
  congr 1
  obtain ⟨k, hk⟩ : ∃ k, zs.length - i = k + 1 := ⟨zs.length - i - 1, by omega⟩
  rw [hk, List.replicate_succ, List.set_cons_zero, show zs.length - (i + 1) = k by omega]
  simp [List.getD_eq_getElem?_getD, List.getElem?_eq_getElem h]
set_option maxRecDepth 100000 in
set_option maxHeartbeats 2000000 in
theorem copied_z (zs : List Int) (hz : ∀ z ∈ zs, lim 4096 z) (hs : zs.length ≤ 8796093022207) (A : Option Addr) (c : Nat) (w : World) (r : PL w A zs) :
    Calls Try.prog 44 #[.slice A zs.length c] w fun e w' => ∃ g, e = .returned (.slice (some ⟨g, 0, none⟩) zs.length zs.length) ∧ w.heap.size ≤ g ∧ Aside0 (OB w' g zs) ∧ Aside0 (Below w.heap.size w w') := by
  have hu := Try.underlying25
  have hmk := make_nums zs.length hs
  have R := Aside0.mk r
  have HZ := Aside0.mk hz
  have HS := Aside0.mk hs
  obtain ⟨X, hX⟩ : ∃ X, w.alloc (.cells (madeCells #[.bool false, .slice none 0 0] (zs.length * 2)) 25) = X := ⟨_, rfl⟩
  have HBX : Aside0 (Below w.heap.size w X) := ⟨by rw [← hX]; exact (Below.refl _ _).alloc (Nat.le_refl _) _⟩
  have HOX : Aside0 (OB X w.heap.size (cpS zs 0)) := ⟨by rw [← hX, cpS_zero]; exact OB.made w zs.length⟩
  have HX := Aside0.mk hX
  clear hX r hz
  go_enter Try.func44, Try.ntmps44
  go_wp2
  rw [HX.out]
  go_loopw [11] (fun v11 wr => ∃ i : Nat, v11 = .int .i64 i ∧ i ≤ zs.length ∧ Aside0 (OB wr w.heap.size (cpS zs i)) ∧ Aside0 (Below w.heap.size w wr)) (fun v11 _ => zs.length - (intOf v11).toNat)
  case atStart => exact ⟨0, rfl, Nat.zero_le _, HOX, HBX⟩
  case round =>
    obtain ⟨i, rfl, hi, HO, HB⟩ := hrel
    by_cases hlt : i < zs.length
    · obtain ⟨ad, B, cc, rfl, h1, h2, HR⟩ := R.out.get HB.out i hlt
      obtain ⟨z, hzz⟩ : ∃ z, zs.getD i 0 = z := ⟨_, rfl⟩
      rw [hzz] at h1 h2 HR
      have HZZ := Aside0.mk hzz
      clear hzz
      go_wp2_with fail
      have hlz : lim 4096 z := by
        rw [← HZZ.out, List.getD_eq_getElem?_getD, List.getElem?_eq_getElem hlt]
        exact HZ.out _ (List.getElem_mem hlt)
      refine (own_z z (lm_len hlz) B cc _ (HR.out.alloc _)).mono ?_
      rintro e w1 ⟨B1, c1, rfl, hR1, hB1⟩
      have HO1 : Aside0 (OB w1 w.heap.size (cpS zs i)) := ⟨(HO.out.alloc _).below hB1.out⟩
      have HBB : Aside0 (Below w.heap.size w w1) := ⟨(HB.out.alloc HB.out.size _).trans (hB1.out.mono (by simp; have := HB.out.size; omega))⟩
      obtain ⟨B2, c2, p0, p1, HR2, f0, f1⟩ := HO1.out.get (Below.refl _ _) i (by rw [cpS_len hi]; exact hlt)
      obtain ⟨y, hy⟩ : ∃ y, (cpS zs i).getD i 0 = y := ⟨_, rfl⟩
      rw [hy] at p0 p1
      clear h1 h2 hy HR2 hlz
      go_wp2_with fail
      go_roundw
      case rel =>
        refine ⟨i + 1, by go_num, by omega, ⟨?_⟩, ⟨(HBB.out.setCell (p := ⟨w.heap.size, i * 2, none⟩) (Nat.le_refl _) _).setCell (p := ⟨w.heap.size, i * 2 + 1, none⟩) (Nat.le_refl _) _⟩⟩
        have := HO1.out.set i (by rw [cpS_len hi]; exact hlt) hR1.out
        rw [← HZZ.out, cpS_set hlt] at this
        rw [← HZZ.out]
        exact this
      case measure => simp [intOf]; omega
    · obtain rfl : i = zs.length := by omega
      rw [cpS_all] at HO
      go_wp2_with fail
      go_ret
      exact ⟨w.heap.size, rfl, Nat.le_refl _, HO, HB⟩
end Go.Proofs.Ytplignahjhenjaa.Lb
