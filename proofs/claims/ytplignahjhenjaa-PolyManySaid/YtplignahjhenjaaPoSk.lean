/- times: school. -/
import Derived.Test.YtplignahjhenjaaPoTr
import Derived.Test.YtplignahjhenjaaLbE
namespace Go.Proofs.Ytplignahjhenjaa.Lb
open Go.RowKit Go.Proofs.YtplignahjhenjaaW.PrintWords Go.Proofs.YtplignahjhenjaaW.PrintLast Go.Proofs.YtplignahjhenjaaW.PrintMore
set_option linter.unusedVariables false
set_option linter.unusedSimpArgs false

theorem addN (x y : Nat) (w : World) : (callFunc 65 #[.int .u64 (x : Int), .int .u64 (y : Int), .int .u64 0]).run Try.prog w = .ok (.value (.tuple #[.int .u64 (((x + y) % 18446744073709551616 : Nat) : Int), .int .u64 (((x + y) / 18446744073709551616 : Nat) : Int)])) w := by
  rw [xAdd (x : Int) (y : Int) 0 (by omega) (by omega) (by omega) (by omega) w]
  rw [show ((x : Int) + (y : Int) + 0) % 18446744073709551616 = (((x + y) % 18446744073709551616 : Nat) : Int) by omega, show ((x : Int) + (y : Int) + 0) / 18446744073709551616 = (((x + y) / 18446744073709551616 : Nat) : Int) by omega]
theorem mul64_l (x y H L : Nat) (hx : x < 18446744073709551616) (hy : y < 18446744073709551616) (hH : x * y / 18446744073709551616 = H) (hL : x * y % 18446744073709551616 = L) (w : World) :
    Calls Try.prog 112 #[.int .u64 (x : Int), .int .u64 (y : Int)] w fun e w' => e = .returned (.tuple #[.int .u64 (H : Int), .int .u64 (L : Int)]) ∧ w = w' := by
  subst hH hL
  exact mul64_c x y hx hy w
theorem getN {l : List Int} (h : okL l) (j : Nat) : ∃ x : Nat, l.getD j 0 = (x : Int) ∧ x < 18446744073709551616 := by
  have := okL_getS h j
  exact ⟨(l.getD j 0).toNat, by omega, by omega⟩
set_option maxRecDepth 100000 in
set_option maxHeartbeats 4000000 in
theorem school_c (A B : Option Addr) (n m cx cy N : Nat) (xs ys : List Int) (hn : xs.length = n) (hm : ys.length = m) (hN : n + m = N) (hcx : n ≤ cx) (hcy : m ≤ cy) (hx : okL xs) (hy : okL ys) (hb : N ≤ 17592186043904) (w : World) (h1 : u64.C w A xs.length xs) (h2 : u64.C w B ys.length ys) :
    Calls Try.prog 87 #[.slice A n cx, .slice B m cy] w fun e w' => ∃ G k c o, e = .returned (.slice G k c) ∧ k ≤ c ∧ Aside0 (u64.C w' G k (toL (nv xs * nv ys))) ∧ o = w' ∧ Aside0 (Below w.heap.size w w') := by
  subst hn hm
  have HX := Aside0.mk hx
  have HY := Aside0.mk hy
  have HA := Aside0.mk h1
  have HB2 := Aside0.mk h2
  have HN := Aside0.mk hN
  clear hx hy h1 h2
  have hmk0 := print_make (P := Try.prog) 23 50 .u64 8 Try.underlying23 (by kernel_rfl) (by decide) N (by omega)
  have hmk : ∀ W : World, (Instr.makeSlice 23 (.int .i64 ((xs.length : Int) + (ys.length : Int))) (.int .i64 ((xs.length : Int) + (ys.length : Int)))).run Try.prog W = .ok (.slice (some ⟨W.heap.size, 0, none⟩) N N) (W.alloc (.cells (madeCells #[.int .u64 0] N) 50)) := fun W => by
    rw [show (xs.length : Int) + (ys.length : Int) = (N : Int) by omega]
    exact hmk0 W
  clear hmk0
  have HO : Aside0 ((w.alloc (.cells (madeCells #[.int .u64 0] N) 50)).ownsRow w.heap.size 50 1 (.slice (some ⟨w.heap.size, 0, none⟩) N N) N (nums .u64 (outer xs ys 0 (List.replicate N 0)))) := ⟨own_made w w.heap.size 50 .u64 N (Nat.le_refl _) (by omega)⟩
  have HBW : Aside0 (Below w.heap.size w (w.alloc (.cells (madeCells #[.int .u64 0] N) 50))) := ⟨(Below.refl _ _).alloc (Nat.le_refl _) _⟩
  go_enter Try.func87, Try.ntmps87
  go_wp2
  clear hmk
  go_loopw [20] (fun v20 wr => ∃ i : Nat, v20 = .int .i64 i ∧ i ≤ xs.length ∧ Aside0 (wr.ownsRow w.heap.size 50 1 (.slice (some ⟨w.heap.size, 0, none⟩) N N) N (nums .u64 (outer xs ys i (List.replicate N 0)))) ∧ Aside0 (Below w.heap.size w wr)) (fun v20 _ => xs.length - (intOf v20).toNat)
  case atStart => exact ⟨0, rfl, Nat.zero_le _, HO, HBW⟩
  case round =>
    obtain ⟨i, rfl, hi, HOR, HBR⟩ := hrel
    by_cases hlt : i < xs.length
    · obtain ⟨X, hX, hX1⟩ := getN HX.out i
      obtain ⟨o, ho⟩ : ∃ o, outer xs ys i (List.replicate N 0) = o := ⟨_, rfl⟩
      rw [ho] at HOR
      have Ho := Aside0.mk ho
      have HX1 := Aside0.mk hX
      have HXb := Aside0.mk hX1
      clear ho hX hX1
      go_wp2
      go_loopw [7, 25] (fun v7 v25 wq => ∃ (k C : Nat) (q : List Int), v25 = .int .i64 k ∧ v7 = .int .u64 (C : Int) ∧ k ≤ ys.length ∧ Aside0 (inner X ys i k o = (q, C)) ∧ Aside0 (wq.ownsRow w.heap.size 50 1 (.slice (some ⟨w.heap.size, 0, none⟩) N N) N (nums .u64 q)) ∧ Aside0 (Below w.heap.size w wq)) (fun _ v25 _ => ys.length - (intOf v25).toNat)
      case atStart => exact ⟨0, 0, o, rfl, rfl, Nat.zero_le _, ⟨rfl⟩, HOR, HBR⟩
      case round =>
        obtain ⟨k, C, q, rfl, rfl, hk, HI, HOQ, HBQ⟩ := hrel
        rename World => wq
        have hok : okL o := by
          rw [← Ho.out]
          exact outer_ok HX.out HY.out (fun z hz => by rw [List.eq_of_mem_replicate hz]; omega) i
        have HOK := Aside0.mk hok
        clear hok
        have hq : okL q := by
          have := (inner_ok (x := X) (ys := ys) (out := o) HXb.out HY.out HOK.out i k).1
          rwa [HI.out] at this
        have hC : C < 18446744073709551616 := by
          have := (inner_ok (x := X) (ys := ys) (out := o) HXb.out HY.out HOK.out i k).2
          rwa [HI.out] at this
        have hql : q.length = N := by
          have := inner_len X ys i o k
          rw [HI.out] at this
          rw [this, ← Ho.out, outer_len, List.length_replicate]
        by_cases hkl : k < ys.length
        · obtain ⟨Y, hY, hYb⟩ := getN HY.out k
          obtain ⟨J, hJ⟩ : ∃ J, i + k = J := ⟨_, rfl⟩
          obtain ⟨O, hO, hOb⟩ := getN hq J
          obtain ⟨ad, hA, hca⟩ := read_at (Kd.C_below HA.out HBQ.out) i hlt
          obtain ⟨bd, hB, hcb⟩ := read_at (Kd.C_below HB2.out HBQ.out) k hkl
          subst hA hB
          rw [HX1.out] at hca
          rw [hY] at hcb
          have hJN : J < N := by have := HN.out; omega
          have p0 : wq.cell? ⟨w.heap.size, J, none⟩ = some (.int .u64 (O : Int)) := by
            rw [HOQ.out.cellAt J (by omega), ← hO]
            simp [nums, List.getD_eq_getElem?_getD, List.getElem?_eq_getElem (show J < q.length by omega)]
          have p1 : wq.frozen? ⟨w.heap.size, J, none⟩ = false := HOQ.out.frozenAt J
          have hJi : (i : Int) + (k : Int) = (J : Int) := by omega
          have HO1 := Aside0.mk hO
          have HOb := Aside0.mk hOb
          have HQ := Aside0.mk hq
          have HQL := Aside0.mk hql
          have HYb := Aside0.mk hYb
          have HY1 := Aside0.mk hY
          have HJ := Aside0.mk hJ
          have HC := Aside0.mk hC
          clear hO hOb hq hql hY hYb hC
          obtain ⟨LO, hLO⟩ : ∃ z, X * Y % 18446744073709551616 = z := ⟨_, rfl⟩
          obtain ⟨HH, hHH⟩ : ∃ z, X * Y / 18446744073709551616 = z := ⟨_, rfl⟩
          have HM := Aside0.mk (And.intro hHH hLO)
          have hst := step64 (X * Y) O C
          rw [hLO, hHH] at hst
          have x1 := addN LO C
          obtain ⟨L2, hL2⟩ : ∃ z, (LO + C) % 18446744073709551616 = z := ⟨_, rfl⟩
          obtain ⟨C1, hC1⟩ : ∃ z, (LO + C) / 18446744073709551616 = z := ⟨_, rfl⟩
          rw [hL2, hC1] at hst x1
          have x2 := addN O L2
          obtain ⟨O2, hO2⟩ : ∃ z, (O + L2) % 18446744073709551616 = z := ⟨_, rfl⟩
          obtain ⟨C2, hC2⟩ : ∃ z, (O + L2) / 18446744073709551616 = z := ⟨_, rfl⟩
          rw [hO2, hC2] at hst x2
          have hcy : HH + C1 + C2 < 18446744073709551616 := by
            have := (inner_ok (x := X) (ys := ys) (out := o) HXb.out HY.out HOK.out i (k + 1)).2
            simp only [inner, HI.out] at this
            rw [HY1.out, HJ.out, HO1.out, Int.toNat_natCast, Int.toNat_natCast] at this
            rw [hst.2]
            exact this
          have w1' : IntKind.u64.wrap ((HH : Int) + (C1 : Int)) = ((HH + C1 : Nat) : Int) := by rw [IntKind.wrap_u64]; omega
          obtain ⟨H2, hH2⟩ : ∃ z, HH + C1 = z := ⟨_, rfl⟩
          rw [hH2] at w1' hst hcy
          have w2' : IntKind.u64.wrap ((H2 : Int) + (C2 : Int)) = ((H2 + C2 : Nat) : Int) := by rw [IntKind.wrap_u64]; omega
          obtain ⟨CY, hCY⟩ : ∃ z, H2 + C2 = z := ⟨_, rfl⟩
          rw [hCY] at w2' hst hcy
          have HST := Aside0.mk hst
          clear hst hL2 hC1 hO2 hC2 hH2 hCY hcy hLO hHH hJ
          go_upto_region 9 with fail
          go_region_with (go_at_call 112; refine (mul64_l X Y HH LO HXb.out HYb.out HM.out.1 HM.out.2 _).mono ?_; rintro e w2 ⟨rfl, rfl⟩)
          go_wp2
          all_goals
            refine ⟨⟨k + 1, CY, q.set J (O2 : Int), by go_num, rfl, by omega, ⟨?_⟩, ⟨?_⟩, ⟨(HBQ.out.setCell (p := ⟨w.heap.size, J, none⟩) (Nat.le_refl _) _).drew⟩⟩, by simp [intOf]; omega⟩
            · simp only [inner, HI.out]
              rw [HY1.out, HJ.out, HO1.out, Int.toNat_natCast, Int.toNat_natCast]
              show (q.set J (((X * Y + O + C) % 18446744073709551616 : Nat) : Int), (X * Y + O + C) / 18446744073709551616) = _
              rw [← HST.out.1, ← HST.out.2]
            · have := ((HOQ.out.stored J (.int .u64 (O2 : Int))).1).drew
              rwa [nums, ← List.map_set] at this
        · obtain rfl : k = ys.length := by omega
          obtain ⟨J, hJ⟩ : ∃ J, i + ys.length = J := ⟨_, rfl⟩
          obtain ⟨O, hO, hOb⟩ := getN hq J
          have hJN : J < N := by have := HN.out; omega
          have p0 : wq.cell? ⟨w.heap.size, J, none⟩ = some (.int .u64 (O : Int)) := by
            rw [HOQ.out.cellAt J (by omega), ← hO]
            simp [nums, List.getD_eq_getElem?_getD, List.getElem?_eq_getElem (show J < q.length by omega)]
          have p1 : wq.frozen? ⟨w.heap.size, J, none⟩ = false := HOQ.out.frozenAt J
          have hJi : (i : Int) + (ys.length : Int) = (J : Int) := by omega
          have HJ := Aside0.mk hJ
          clear hO hOb hq hql hC hJ
          go_wp2_with fail
          go_roundw
          case rel =>
            refine ⟨i + 1, by go_num, by omega, ⟨?_⟩, ⟨HBQ.out.setCell (p := ⟨w.heap.size, J, none⟩) (Nat.le_refl _) _⟩⟩
            have := (HOQ.out.stored J (.int .u64 (C : Int))).1
            rw [nums, ← List.map_set] at this
            have e : outer xs ys (i + 1) (List.replicate N 0) = q.set J (C : Int) := by
              simp only [outer]
              rw [Ho.out, HX1.out, Int.toNat_natCast, HI.out, HJ.out]
            rw [e]
            exact this
          case measure => simp [intOf]; omega
    · obtain rfl : i = xs.length := by omega
      have hL : (outer xs ys xs.length (List.replicate N 0)).length = N := by rw [outer_len, List.length_replicate]
      have hC : (Kd.int .u64).C wr (some ⟨w.heap.size, 0, none⟩) (outer xs ys xs.length (List.replicate N 0)).length (outer xs ys xs.length (List.replicate N 0)) := by
        have hR := row_R (l := outer xs ys xs.length (List.replicate N 0)) (by rw [hL]; exact HOR.out)
        exact (Kd.R_reads' hR).2.2
      have hV : nv (outer xs ys xs.length (List.replicate N 0)) = nv xs * nv ys := by rw [← HN.out]; exact school_nv xs ys
      have hok : okL (outer xs ys xs.length (List.replicate N 0)) := outer_ok HX.out HY.out (fun z hz => by rw [List.eq_of_mem_replicate hz]; omega) _
      generalize outer xs ys xs.length (List.replicate N 0) = L at hL hC hV hok
      have HL := Aside0.mk hL
      have HC := Aside0.mk hC
      have HV := Aside0.mk hV
      have HK := Aside0.mk hok
      clear hL hC hV hok
      go_wp2_with fail
      refine (trim_c _ N N L HL.out (Nat.le_refl _) HK.out (by omega) _ HC.out).mono ?_
      rintro e w3 ⟨k, rfl, hk, HT, rfl⟩
      go_wp2_with fail
      go_ret
      refine ⟨some ⟨w.heap.size, 0, none⟩, k, N, _, rfl, hk, ⟨?_⟩, rfl, HBR⟩
      rw [← HV.out, ← HT.out]
      refine ⟨by rw [List.length_take, HL.out]; omega, by omega, fun h0 => ?_⟩
      obtain ⟨ad, e, hc⟩ := HC.out.2.2 (by rw [HL.out]; omega)
      refine ⟨ad, e, fun j p hj => hc j p ?_⟩
      rw [List.getElem?_take] at hj
      split at hj
      · exact hj
      · cases hj
end Go.Proofs.Ytplignahjhenjaa.Lb
