/- poly: Right (of lists that are right), trim, out. -/
import Derived.Test.YtplignahjhenjaaPoOw
import Derived.Test.YtplignahjhenjaaPoDi
namespace Go.Proofs.Ytplignahjhenjaa.Lb
open Go.RowKit Go.Proofs.YtplignahjhenjaaW.PrintWords Go.Proofs.YtplignahjhenjaaW.PrintLast Go.Proofs.YtplignahjhenjaaW.PrintMore
open Go.Proofs.Ytplignahjhenjaa.Po (trm trm_of_tight tight_trm trm_len tight_iff ev)
set_option linter.unusedVariables false
set_option linter.unusedSimpArgs false

theorem tight_top {zs : List Int} (h : Po.tight zs) (hn : 0 < zs.length) : 0 < (lm (zs.getD (zs.length - 1) 0)).length :=
  lm_pos ((tight_iff (List.length_pos_iff.1 hn)).1 h)
set_option maxRecDepth 100000 in
set_option maxHeartbeats 2000000 in
theorem right_pz (zs : List Int) (hz : ∀ z ∈ zs, lim 4096 z) (hs : zs.length ≤ 4096) (ht : Po.tight zs) (A : Option Addr) (c : Nat) (w : World) (r : PL w A zs) :
    Calls Try.prog 24 #[.slice A zs.length c] w (OutP w (.bool true)) := by
  have hu := Try.underlying25
  have R := Aside0.mk r
  have HZ := Aside0.mk hz
  have HT := Aside0.mk ht
  clear r hz ht
  have HBX : Aside0 (Below w.heap.size w w) := ⟨Below.refl _ _⟩
  go_enter Try.func24, Try.ntmps24
  go_wp2
  go_loopw [10] (fun v10 wr => ∃ i : Nat, v10 = .int .i64 i ∧ i ≤ zs.length ∧ Aside0 (Below w.heap.size w wr)) (fun v10 _ => zs.length - (intOf v10).toNat)
  case atStart => exact ⟨0, rfl, Nat.zero_le _, HBX⟩
  case round =>
    obtain ⟨i, rfl, hi, HB⟩ := hrel
    by_cases hlt : i < zs.length
    · obtain ⟨ad, B, cc, rfl, h1, h2, HR⟩ := R.out.get HB.out i hlt
      have hlz : lim 4096 (zs.getD i 0) := by
        rw [List.getD_eq_getElem?_getD, List.getElem?_eq_getElem hlt]
        exact HZ.out _ (List.getElem_mem hlt)
      obtain ⟨z, hzz⟩ : ∃ z, zs.getD i 0 = z := ⟨_, rfl⟩
      rw [hzz] at h1 h2 HR hlz
      have HL := Aside0.mk hlz
      clear hzz hlz
      go_wp2_with fail
      refine (right_z z HL.out B cc _ (HR.out.alloc _)).mono ?_
      rintro e w1 ⟨rfl, hB1⟩
      go_wp2_with fail
      go_roundw
      case rel => exact ⟨i + 1, by go_num, by omega, ⟨(HB.out.alloc HB.out.size _).trans (hB1.out.mono (by simp; have := HB.out.size; omega))⟩⟩
      case measure => simp [intOf]; omega
    · obtain rfl : i = zs.length := by omega
      rcases Nat.eq_zero_or_pos zs.length with h0 | h0
      · have h0' : ((zs.length : Int) == 0) = true := by simpa using h0
        go_wp2_with fail
        go_ret
        exact ⟨rfl, HB⟩
      · have h0' : ((zs.length : Int) == 0) = false := by simp; intro h; rw [h] at h0; simp at h0
        obtain ⟨m, hm⟩ : ∃ m, zs.length - 1 = m := ⟨_, rfl⟩
        obtain ⟨ad, B, cc, rfl, h1, h2, HR⟩ := R.out.get HB.out m (by omega)
        have htop := tight_top HT.out h0
        rw [hm] at htop
        have hmi : (zs.length : Int) - 1 = (m : Int) := by omega
        have hmw : wrap64 ((zs.length : Int) - 1) = (m : Int) := by unfold wrap64; omega
        have hml : (m : Int) < (zs.length : Int) := by omega
        generalize zs.getD m 0 = z at h1 h2 htop
        have HM := Aside0.mk hm
        clear hm
        go_wp2_with fail
        all_goals
          go_ret
          exact ⟨by first | rfl | (simp; omega), HB⟩
theorem trm_snoc0 : ∀ l : List Int, trm (l ++ [0]) = trm l
  | [] => by simp [trm]
  | c :: t => by rw [List.cons_append, trm, trm_snoc0 t, trm]
theorem trm_take0 {zs : List Int} {m : Nat} (hm : m < zs.length) (h0 : zs.getD m 0 = 0) : trm (zs.take (m + 1)) = trm (zs.take m) := by
  rw [List.take_succ_eq_append_getElem hm]
  rw [List.getD_eq_getElem?_getD, List.getElem?_eq_getElem hm] at h0
  have h1 : zs[m] = 0 := h0
  rw [h1, trm_snoc0]
theorem trm_takeN {zs : List Int} {m : Nat} (hm : m < zs.length) (h0 : zs.getD m 0 ≠ 0) : trm (zs.take (m + 1)) = zs.take (m + 1) := by
  refine trm_of_tight ?_
  have hl : (zs.take (m + 1)).length = m + 1 := by rw [List.length_take]; omega
  rw [tight_iff (List.length_pos_iff.1 (by omega)), hl, Nat.add_sub_cancel]
  rw [List.getD_eq_getElem?_getD, List.getElem?_take, if_pos (by omega), ← List.getD_eq_getElem?_getD]
  exact h0
set_option maxRecDepth 100000 in
set_option maxHeartbeats 2000000 in
theorem trim_pz (zs : List Int) (hs : zs.length ≤ 8796093022207) (A : Option Addr) (n c : Nat) (hn : zs.length = n) (hc : n ≤ c) (w : World) (r : PL w A zs) :
    Calls Try.prog 57 #[.slice A n c] w fun e w' => ∃ k, e = .returned (.slice A k c) ∧ k ≤ n ∧ Aside0 (zs.take k = trm zs) ∧ w = w' := by
  subst hn
  have hu := Try.underlying25
  have R := Aside0.mk r
  clear r
  go_enter Try.func57, Try.ntmps57
  go_wp2
  go_loop [0] (fun v => ∃ k : Nat, k ≤ zs.length ∧ v = .slice A k c ∧ Aside0 (trm (zs.take k) = trm zs)) (fun v => match v with | .slice _ k _ => k | _ => 0)
  case atStart => exact ⟨zs.length, Nat.le_refl _, rfl, ⟨by rw [List.take_length]⟩⟩
  case round =>
    obtain ⟨k, hk, rfl, HK⟩ := hrel
    cases k with
    | zero =>
      have HS : Aside0 (zs.take 0 = trm zs) := ⟨by rw [← HK.out]; simp [trm]⟩
      go_wp2
      go_ret
      exact ⟨0, rfl, Nat.zero_le _, HS, rfl⟩
    | succ m =>
      obtain ⟨ad, B, cc, hA, h1, h2, HR⟩ := R.out.get (Below.refl _ _) m (by omega)
      subst hA
      have hi0 : ((m + 1 : Nat) : Int) - 1 = (m : Int) := by omega
      have hi1 : (0 : Int) < ((m + 1 : Nat) : Int) := by omega
      have hi2 : (m : Int) ≤ (c : Int) := by omega
      have hw : wrap64 ((m + 1 : Nat) - 1 : Int) = (m : Int) := by unfold wrap64; omega
      by_cases hz : zs.getD m 0 = 0
      · have HS : Aside0 (trm (zs.take m) = trm zs) := ⟨by rw [← HK.out, trm_take0 (by omega) hz]⟩
        have hl : (lm (zs.getD m 0)).length = 0 := by rw [hz]; simp [lm, toL_zero]
        rw [hl] at h2
        clear hl hz h1 HR
        go_wp2
        go_round
        case rel => exact ⟨m, by omega, by first | rfl | simp, HS⟩
        case measure => simp
      · have HS : Aside0 (zs.take (m + 1) = trm zs) := ⟨by rw [← HK.out, trm_takeN (by omega) hz]⟩
        have hl := lm_pos hz
        obtain ⟨L, hL⟩ : ∃ L, (lm (zs.getD m 0)).length = L := ⟨_, rfl⟩
        rw [hL] at h2 hl
        have hl0 : ((L : Int) == 0) = false := by simp; omega
        clear hL hz h1 HR
        go_wp2
        go_ret
        exact ⟨m + 1, rfl, hk, HS, rfl⟩
set_option maxRecDepth 100000 in
set_option maxHeartbeats 2000000 in
theorem out_pz (zs : List Int) (hs : zs.length ≤ 8796093022207) (A : Option Addr) (n c g : Nat) (hn : zs.length = n) (hc : n ≤ c) (w : World) (r : PL w A zs) (hg : SB w g) :
    Calls Try.prog 45 #[.pointer (some ⟨g, 0, none⟩), .slice A n c] w fun e w' => ∃ k, e = .returned (.tuple #[.slice A k c, .int .i64 0]) ∧ k ≤ n ∧ Aside0 (zs.take k = trm zs) ∧ w = w' := by
  have TR := Lib.hid (trim_pz zs hs A n c hn hc w r)
  have s0 := hg.cell
  clear r hg hs
  go_enter Try.func45, Try.ntmps45
  go_wp2_with fail
  refine TR.out.mono ?_
  rintro e w1 ⟨k, rfl, hk, HK, rfl⟩
  go_wp2_with fail
  go_ret2
  exact ⟨k, rfl, hk, HK, rfl⟩
end Go.Proofs.Ytplignahjhenjaa.Lb
