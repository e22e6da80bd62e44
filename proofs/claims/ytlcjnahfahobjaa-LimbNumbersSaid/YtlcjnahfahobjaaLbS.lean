/- limb: down. -/
import Derived.Test.YtlcjnahfahobjaaLbR
import Derived.Deep.QuietTactic
import Derived.BigQuiet
namespace Go.Proofs.Ytlcjnahfahobjaa.Lb
open Go.RowKit Go.Proofs.YtlcjnahfahobjaaW.PrintWords Go.Proofs.YtlcjnahfahobjaaW.PrintLast Go.Proofs.YtlcjnahfahobjaaW.PrintMore
set_option linter.unusedVariables false
set_option linter.unusedSimpArgs false

theorem nv_take_pos {l : List Int} (ho : okL l) {j : Nat} (hj : j < l.length) (hx : l.getD j 0 ≠ 0) : nv l ≠ 0 := by
  intro h
  have := (nv_zero ho).1 h (l.getD j 0) (by rw [getD_lt hj]; exact List.getElem_mem hj)
  exact hx this
set_option maxRecDepth 100000 in
set_option maxHeartbeats 800000 in
theorem index_c (A : Option Addr) (n c : Nat) (l : List Int) (hn : l.length = n) (ho : okL l) (hm : n ≤ 4096) (w : World) (hr : u64.C w A l.length l) :
    Calls Try.prog 100 #[.slice A n c, .func (.func 78) #[] #[]] w fun e w' => ∃ k : Int, e = .returned (.int .i64 k) ∧ -1 ≤ k ∧ k ≤ 4096 ∧ (0 ≤ k ↔ nv l ≠ 0) ∧ w = w' := by
  subst hn
  have HR := Aside0.mk hr
  have HO := Aside0.mk ho
  clear hr ho
  go_enter Try.func100, Try.ntmps100
  go_wp2
  go_loop [8] (fun v => ∃ j : Nat, j ≤ l.length ∧ v = .int .i64 j ∧ Aside0 (nv (l.take j) = 0)) (fun v => l.length - (intOf v).toNat)
  case atStart => exact ⟨0, Nat.zero_le _, rfl, ⟨rfl⟩⟩
  case round =>
    obtain ⟨j, hj, rfl, HJ⟩ := hrel
    by_cases hlt : j < l.length
    · obtain ⟨ad, hA, hcell⟩ := read_at HR.out j hlt
      subst hA
      obtain ⟨x, hx⟩ : ∃ x, l.getD j 0 = x := ⟨_, rfl⟩
      rw [hx] at hcell
      by_cases hz : x = 0
      · have HS : Aside0 (nv (l.take (j + 1)) = 0) := ⟨by rw [nv_take_succ, HJ.out, hx, hz]; simp⟩
        subst hz
        clear hx
        go_wp2
        go_round
        case rel => exact ⟨j + 1, by omega, by go_num, HS⟩
        case measure => simp [intOf]; omega
      · have HS : Aside0 (nv l ≠ 0) := ⟨nv_take_pos HO.out hlt (by rw [hx]; exact hz)⟩
        have hx0 : (x == 0) = false := by simpa using hz
        have hx1 : (x != 0) = true := by simpa using hz
        clear hx
        go_wp2
        go_ret
        exact ⟨(j : Int), rfl, by omega, by omega, by have := HS.out; constructor <;> intro _ <;> first | exact this | omega, rfl⟩
    · obtain rfl : j = l.length := by omega
      have HS : Aside0 (nv l = 0) := ⟨by have := HJ.out; rwa [List.take_length] at this⟩
      go_wp2
      go_ret
      exact ⟨-1, rfl, by omega, by omega, by have := HS.out; constructor <;> intro h <;> first | exact absurd this h | omega, rfl⟩
set_option maxRecDepth 100000 in
theorem contains_c (A : Option Addr) (n c : Nat) (l : List Int) (hn : l.length = n) (ho : okL l) (hm : n ≤ 4096) (w : World) (hr : u64.C w A l.length l) :
    Calls Try.prog 77 #[.slice A n c, .func (.func 78) #[] #[]] w fun e w' => e = .returned (.bool (decide (nv l ≠ 0))) ∧ w = w' := by
  go_enter Try.func77, Try.ntmps77
  go_wp2_with fail
  refine (index_c A n c l hn ho hm w hr).mono ?_
  rintro e w' ⟨k, rfl, h1, h2, h3, rfl⟩
  have H3 := Aside0.mk h3
  clear h3 hr
  go_wp2
  go_ret
  refine ⟨?_, rfl⟩
  simp [← H3.out]
set_option maxRecDepth 100000 in
set_option maxHeartbeats 800000 in
theorem down_c (ad : Addr) (c : Nat) (l : List Int) (hc : l.length ≤ c) (ho : okL l) (hm : l.length ≤ 4096) (by_ : Nat) (hby : by_ / 64 < l.length) (w : World) (hr : u64.C w (some ad) l.length l) :
    Calls Try.prog 56 #[.slice (some ad) l.length c, .int .i64 (by_ : Int)] w fun e w' => ∃ A' c', ∃ q : List Int, e = .returned (.tuple #[.slice A' q.length c', .bool (decide (nv l % 2 ^ by_ ≠ 0))]) ∧ u64.R 50 w' w.heap.size (fun k => w.heap.size ≤ k) (.slice A' q.length c') q ∧ okL q ∧ q.length ≤ 4097 ∧ nv q = nv l / 2 ^ by_ ∧ Below w.heap.size w w' := by
  have hus := Try.underlying22
  have HR := Aside0.mk hr
  have HO := Aside0.mk ho
  clear hr ho
  obtain ⟨q, hq⟩ : ∃ q : Nat, by_ / 64 = q := ⟨_, rfl⟩
  obtain ⟨r, hrr⟩ : ∃ r : Nat, by_ % 64 = r := ⟨_, rfl⟩
  have g1 : wrap64 ((by_ : Int).tdiv 64) = (q : Int) := by
    rw [show (by_ : Int).tdiv 64 = (q : Int) by rw [← hq]; exact (Int.ofNat_tdiv by_ 64).symm]
    unfold wrap64; omega
  have g2 : (by_ : Int).tmod 64 = (r : Int) := by rw [← hrr]; exact (Int.ofNat_tmod by_ 64).symm
  have hr64 : r < 64 := by omega
  have hqb : q < l.length := by omega
  obtain ⟨t, ht⟩ : ∃ t : Nat, 64 - r = t := ⟨_, rfl⟩
  have g3 : wrap64 (64 - (r : Int)) = (t : Int) := by unfold wrap64; omega
  have g4 : IntKind.i64.wrap (64 - (r : Int)) = (t : Int) := by rw [IntKind.wrap_i64]; omega
  have HBY := Aside0.mk (show by_ = 64 * q + r by omega)
  have HT := Aside0.mk ht
  have HR64 := Aside0.mk hr64
  obtain ⟨B, hB⟩ : ∃ B : Int, (by_ : Int) = B := ⟨_, rfl⟩
  rw [hB] at g1 g2 ⊢
  clear hB hby hq hrr ht hr64
  obtain ⟨m, hmq⟩ : ∃ m, l.drop q = m := ⟨_, rfl⟩
  have hml : l.length - q = m.length := by rw [← hmq, List.length_drop]
  have HRM : Aside0 (u64.C w (some (ad.add q)) m.length m) := ⟨by
    have := Kd.C_drop (m := q) (c := c) HR.out (by omega) hc
    rw [if_neg (by omega), hmq] at this
    simpa [Kd.int, Kd.scalar] using this⟩
  have HOM : Aside0 (okL m) := ⟨by rw [← hmq]; exact okL_drop HO.out q⟩
  have hcm : m.length ≤ c - q := by omega
  have hm0 : 0 < m.length := by omega
  have hm4 : m.length ≤ 4096 := by omega
  have HRT : Aside0 (u64.C w (some ad) (l.take q).length (l.take q)) := ⟨Kd.C_take HR.out (by omega)⟩
  have HOT : Aside0 (okL (l.take q)) := ⟨okL_take HO.out q⟩
  have HCUT : Aside0 (nv l / 2 ^ by_ = nv m / 2 ^ r ∧ (nv l % 2 ^ by_ = 0 ↔ nv (l.take q) = 0 ∧ nv m % 2 ^ r = 0)) := ⟨by rw [HBY.out, ← hmq]; exact down_cut HO.out (by omega)⟩
  have HMQ := Aside0.mk hmq
  have hmk : ∀ w' : World, (Instr.makeSlice 22 (.int .i64 ((m.length : Int) + 1)) (.int .i64 ((m.length : Int) + 1))).run Try.prog w' = .ok (.slice (some ⟨w'.heap.size, 0, none⟩) (m.length + 1) (m.length + 1)) (w'.alloc (.cells (madeCells #[.int .u64 0] (m.length + 1)) 50)) := fun w' => run_make_row' (P := Try.prog) 22 50 (.int .u64 0) 8 hus infoU rfl .i64 .i64 (m.length + 1) (by omega) (by omega) w'
  have hcq : ¬ c = q := by omega
  have htl : (l.take q).length = q := by rw [List.length_take]; omega
  have HTL := Aside0.mk htl
  clear hmq htl
  obtain ⟨lost, hlost⟩ : ∃ b, decide (nv (l.take q) ≠ 0) = b := ⟨_, rfl⟩
  have HLOST := Aside0.mk hlost
  have CON := Lib.hid (contains_c (some ad) q c (l.take q) HTL.out HOT.out (by omega) w HRT.out)
  rw [hlost] at CON
  clear hlost
  go_enter Try.func56, Try.ntmps56
  go_wp2_with fail
  refine CON.out.mono ?_
  rintro e w' ⟨rfl, rfl⟩
  go_wp2_with fail
  obtain ⟨a, ha⟩ : ∃ a, ad.add q = a := ⟨_, rfl⟩
  obtain ⟨C, hC⟩ : ∃ C, c - q = C := ⟨_, rfl⟩
  rw [ha] at HRM ⊢
  rw [hC] at hcm ⊢
  refine (behind_c (some a) m.length C _).mono ?_
  rintro e w4 ⟨rfl, hw4⟩
  have hsz : (w.alloc (.cells (madeCells #[.int .u64 0] (m.length + 1)) 50)).heap.size = w.heap.size + 1 := by simp
  have HBY4 : Aside0 (Below w.heap.size w w4) := ⟨by rw [hw4]; exact ((Below.refl _ _).alloc (Nat.le_refl _) _).alloc (by simp) _⟩
  have HCL : Aside0 (w4.heap[w.heap.size + 1]? = some (.cells #[.slice (some a) m.length C] 22 (0, 0))) := ⟨by rw [hw4, ← hsz]; exact heap_alloc_new _ _⟩
  have HOW : Aside0 (w4.ownsRow w.heap.size 50 1 (.slice (some ⟨w.heap.size, 0, none⟩) (m.length + 1) (m.length + 1)) (m.length + 1) (nums .u64 (List.replicate (m.length + 1) 0))) := ⟨by
    rw [hw4]
    exact World.ownsRow.alloc (own_made w (m.length + 1) (m.length + 1) (Nat.le_refl _) (by omega)) _⟩
  have hYS : w4.heap.size = w.heap.size + 2 := by rw [hw4]; simp
  rw [hsz]
  clear hw4 hsz CON
  go_wp2
  try rw [g1]
  go_loopw [28] (fun v28 wr => ∃ (j : Nat) (o : List Int), v28 = .int .i64 j ∧ j ≤ m.length ∧ Aside0 (DownI m o r j) ∧ Aside0 (wr.ownsRow w.heap.size 50 1 (.slice (some ⟨w.heap.size, 0, none⟩) (m.length + 1) (m.length + 1)) (m.length + 1) (nums .u64 o)) ∧ Aside0 (wr.heap[w.heap.size + 1]? = some (.cells #[.slice (some a) m.length C] 22 (0, 0))) ∧ Aside0 (Below w.heap.size w wr) ∧ Aside0 (wr.heap.size = w.heap.size + 2)) (fun v28 _ => m.length - (intOf v28).toNat)
  case atStart => exact ⟨0, _, rfl, Nat.zero_le _, ⟨DownI.start _ _⟩, HOW, HCL, HBY4, ⟨hYS⟩⟩
  case round =>
    obtain ⟨j, o, rfl, hj, HI, HO2, HC2', HBR, HSR⟩ := hrel
    have o0 : wr.cell? ⟨w.heap.size + 1, 0, none⟩ = some (.slice (some a) m.length C) := by simp [World.cell?, HC2'.out]
    have hsr := HSR.out
    have hol := HI.out.len
    by_cases hlt : j < m.length
    · have p0 : wr.cell? ⟨w.heap.size, j, none⟩ = some (.int .u64 (o.getD j 0)) := by
        rw [HO2.out.cellAt j (by omega)]
        simp [nums, List.getD_eq_getElem?_getD, List.getElem?_eq_getElem (show j < o.length by omega)]
      have p1 : wr.frozen? ⟨w.heap.size, j, none⟩ = false := HO2.out.frozenAt j
      generalize o.getD j 0 = oj at p0
      obtain ⟨ad', hA, hcell⟩ := read_at (Kd.C_below HRM.out HBR.out) j hlt
      obtain rfl : a = ad' := by simpa using hA
      clear hA
      have cl : ∀ W', Below wr.heap.size wr W' → Calls Try.prog 70 #[.int .i64 (IntKind.i64.wrap ((j : Int) + 1)), .pointer (some ⟨w.heap.size + 1, 0, none⟩)] W' fun e w' => e = .returned (.int .u64 (m.getD (j + 1) 0)) ∧ W' = w' := fun W' h => by
        have := behind1_c (w.heap.size + 1) (j + 1) (some a) C m (by omega) (by omega) W' ((h.cell (by show w.heap.size + 1 < wr.heap.size; omega)).trans o0) (Kd.C_below HRM.out (HBR.out.trans (h.mono (by omega))))
        rwa [show ((j + 1 : Nat) : Int) = IntKind.i64.wrap ((j : Int) + 1) by rw [IntKind.wrap_i64]; omega] at this
      have CL := Lib.hid cl
      clear cl
      have hx := getD_ok HOM.out j
      have hy := getD_ok HOM.out (j + 1)
      have hst := DownI.step HI.out hlt HOM.out HR64.out
      obtain ⟨X, hX⟩ := Int.eq_ofNat_of_zero_le hx.1
      obtain ⟨Y, hY⟩ := Int.eq_ofNat_of_zero_le hy.1
      rw [hX] at hcell hx hst
      rw [hY] at CL hy hst
      simp only [Int.toNat_natCast] at hst
      have hw := down_word r X Y HR64.out (by unfold B64; omega)
      have s2 : (X : Int) / 2 ^ min r 64 = ((X / 2 ^ r : Nat) : Int) := by
        have h1 := HR64.out
        rw [Nat.min_eq_left (by omega)]; simp
      have s1 : IntKind.u64.wrap ((Y : Int) * 2 ^ min t 64) = ((2 ^ t * (Y % 2 ^ r) : Nat) : Int) := by
        have h1 := HT.out
        have h2 := HR64.out
        have h : (Y : Int) * 2 ^ t = ((2 ^ t * Y : Nat) : Int) := by rw [Nat.mul_comm]; simp
        rw [Nat.min_eq_left (by omega), h, IntKind.wrap_u64, ← Nat.mul_mod_mul_left, ← Nat.pow_add, show t + r = 64 by omega]
        rfl
      rw [HT.out] at hst hw
      have s3 : bits .or .u64 ((X / 2 ^ r : Nat) : Int) ((2 ^ t * (Y % 2 ^ r) : Nat) : Int) = ((X / 2 ^ r + 2 ^ t * (Y % 2 ^ r) : Nat) : Int) := by
        have h := u64_or_nat (X / 2 ^ r) (2 ^ t * (Y % 2 ^ r)) (Nat.lt_of_le_of_lt (Nat.le_add_right _ _) hw) (Nat.lt_of_le_of_lt (Nat.le_add_left _ _) hw)
        have hlt2 : X / 2 ^ r < 2 ^ t := by
          rw [Nat.div_lt_iff_lt_mul (Nat.two_pow_pos r), ← HT.out, Nat.mul_comm, ← B64_pow r (by have := HR64.out; omega)]
          unfold B64; omega
        rw [Nat.or_comm, ← Nat.two_pow_add_eq_or_of_lt hlt2, Nat.add_comm (2 ^ t * (Y % 2 ^ r))] at h
        exact h
      generalize 2 ^ t * (Y % 2 ^ r) = Y2 at s1 s3 hst
      generalize X / 2 ^ r = X2 at s2 s3 hst
      generalize X2 + Y2 = Z at s3 hst
      have HST := Aside0.mk hst
      clear hst hX hx hw hY hy
      go_wp2
      go_region_with (go_at_call 70; refine (CL.out _ ?_).mono ?_; (first | exact Below.refl _ _ | exact (Below.refl _ _).drew); rintro e w2 ⟨rfl, rfl⟩)
      go_wp2
      go_roundw
      case rel =>
        refine ⟨j + 1, _, by go_num, by omega, HST, ⟨?_⟩, ⟨?_⟩, ⟨?_⟩, ⟨?_⟩⟩
        · have := ((HO2.out.stored j (.int .u64 (Z : Int))).1).drew
          rwa [nums, ← List.map_set] at this
        · show ((wr.setCell _ _).heap)[w.heap.size + 1]? = _
          rw [heap_setCell_other _ _ _ _ (by simp)]
          exact HC2'.out
        · exact (HBR.out.setCell (Nat.le_refl _) _).drew
        · simp [hsr]
      case measure => simp [intOf]; omega
    · obtain rfl : j = m.length := by omega
      have hd := HI.out.done HR64.out
      obtain ⟨ad', hA, hcell⟩ := read_at (Kd.C_below HRM.out HBR.out) 0 hm0
      obtain rfl : a = ad' := by simpa using hA
      clear hA
      have hx := getD_ok HOM.out 0
      obtain ⟨X, hX⟩ := Int.eq_ofNat_of_zero_le hx.1
      rw [hX] at hcell hx hd
      simp only [Int.toNat_natCast] at hd
      have s1 : IntKind.u64.wrap ((X : Int) * 2 ^ min t 64) = ((2 ^ t * (X % 2 ^ r) : Nat) : Int) := by
        have h1 := HT.out
        have h2 := HR64.out
        have h : (X : Int) * 2 ^ t = ((2 ^ t * X : Nat) : Int) := by rw [Nat.mul_comm]; simp
        rw [Nat.min_eq_left (by omega), h, IntKind.wrap_u64, ← Nat.mul_mod_mul_left, ← Nat.pow_add, show t + r = 64 by omega]
        rfl
      have hY : 2 ^ t * (X % 2 ^ r) = 0 ↔ nv m % 2 ^ r = 0 := by
        have := Nat.two_pow_pos t
        rw [hd.2.2, Nat.mul_eq_zero]; omega
      generalize 2 ^ t * (X % 2 ^ r) = Y at s1 hY
      have HRES : Aside0 (decide (nv l % 2 ^ by_ ≠ 0) = (lost || ((Y : Int) != 0))) := ⟨by
        have h1 := HCUT.out.2
        have h2 := HLOST.out
        rw [← h2]
        by_cases h3 : nv (l.take q) = 0 <;> by_cases h4 : Y = 0 <;> simp [h3, h4, h1, ← hY]⟩
      have HQ : Aside0 (nv o = nv l / 2 ^ by_) := ⟨by rw [HCUT.out.1, hd.2.1]⟩
      have HOL : Aside0 (okL o) := ⟨HI.out.ok⟩
      have HRO : Aside0 (Kd.R Lb.u64 50 wr w.heap.size (fun k => w.heap.size ≤ k) (.slice (some ⟨w.heap.size, 0, none⟩) o.length (m.length + 1)) o) := ⟨row_R (by rw [hol]; exact HO2.out)⟩
      clear hd hX hx hY
      have HHM := Aside0.mk hm
      clear hmk hcq ha hC hml hqb hc hm hsr o0 g1 g3 HCL HOW HBY4 hYS
      have hz0 : a.add 0 = a := by simp [Addr.add]
      have hcell2 := hcell
      rw [hz0] at hcell2
      have hcell3 : wr.drew.cell? a = some (.int .u64 (X : Int)) := hcell2
      have hcell4 : wr.drew.cell? (a.add 0) = some (.int .u64 (X : Int)) := hcell
      clear hz0
      have hM0 : (0 : Int) < (m.length : Int) := by omega
      have hM1 : decide ((0 : Int) < (m.length : Int)) = true := by simp; omega
      rw [← hol] at HRO
      have fin : ∀ nq, Kd.R Lb.u64 50 (wr.drewN nq) w.heap.size (fun k => w.heap.size ≤ k) (.slice (some ⟨w.heap.size, 0, none⟩) o.length o.length) o ∧ okL o ∧ o.length ≤ 4097 ∧ nv o = nv l / 2 ^ by_ ∧ Below w.heap.size w (wr.drewN nq) :=
        fun nq => ⟨Kd.R_drewN HRO.out nq, HOL.out, by omega, HQ.out, pw_below_drewN HBR.out nq⟩
      have FIN := Lib.hid fin
      clear fin
      cases lost with
      | true =>
        go_wp2
        go_quiet (fail)
        go_wp2
        exact bodyPost_ret (v := .tuple #[.slice (some ⟨w.heap.size, 0, none⟩) o.length o.length, .bool true]) (by simp [results, Try.results56, go_sem, hol]) rfl ⟨_, _, o, by rw [HRES.out]; rfl, FIN.out _⟩
      | false =>
        go_wp2
        go_quiet (fail)
        go_wp2
        exact bodyPost_ret (v := .tuple #[.slice (some ⟨w.heap.size, 0, none⟩) o.length o.length, .bool ((Y : Int) != 0)]) (by simp [results, Try.results56, go_sem, hol]) rfl ⟨_, _, o, by rw [HRES.out]; rfl, FIN.out _⟩
end Go.Proofs.Ytlcjnahfahobjaa.Lb
