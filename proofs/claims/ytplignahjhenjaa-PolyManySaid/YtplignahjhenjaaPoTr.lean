/- times: trim. -/
import Derived.Test.YtplignahjhenjaaPoK
import Derived.Test.YtplignahjhenjaaPoMu
namespace Go.Proofs.Ytplignahjhenjaa.Lb
open Go.RowKit Go.Proofs.YtplignahjhenjaaW.PrintWords Go.Proofs.YtplignahjhenjaaW.PrintLast Go.Proofs.YtplignahjhenjaaW.PrintMore
set_option linter.unusedVariables false
set_option linter.unusedSimpArgs false

theorem trim_end {l : List Int} {m : Nat} (ho : okL l) (hm : m < l.length) (hx : l.getD m 0 ≠ 0) (h : nv (l.take (m + 1)) = nv l) : l.take (m + 1) = toL (nv l) := by
  rw [← h]
  refine (toL_nv (okL_take ho _) (.inr ?_)).symm
  rw [List.getLast?_take, if_neg (by omega), show m + 1 - 1 = m by omega]
  rw [List.getD_eq_getElem?_getD, List.getElem?_eq_getElem hm] at hx
  rw [List.getElem?_eq_getElem hm]
  simpa using hx
set_option maxRecDepth 100000 in
set_option maxHeartbeats 2000000 in
theorem trim_c (A : Option Addr) (n c : Nat) (l : List Int) (hn : l.length = n) (hc : n ≤ c) (ho : okL l) (hm : n ≤ 4611686018427387904) (w : World) (h : u64.C w A l.length l) :
    Calls Try.prog 113 #[.slice A n c] w fun e w' => ∃ k, e = .returned (.slice A k c) ∧ k ≤ n ∧ Aside0 (l.take k = toL (nv l)) ∧ w = w' := by
  subst hn
  have HR := Aside0.mk h
  have HO := Aside0.mk ho
  clear h ho
  go_enter Try.func113, Try.ntmps113
  go_wp2
  go_loop [0] (fun v => ∃ k : Nat, k ≤ l.length ∧ v = .slice A k c ∧ Aside0 (nv (l.take k) = nv l)) (fun v => match v with | .slice _ k _ => k | _ => 0)
  case atStart => exact ⟨l.length, Nat.le_refl _, rfl, ⟨by rw [List.take_length]⟩⟩
  case round =>
    obtain ⟨k, hk, rfl, HK⟩ := hrel
    cases k with
    | zero =>
      have HS : Aside0 (l.take 0 = toL (nv l)) := ⟨by rw [← HK.out]; simp [nv, toL_zero]⟩
      go_wp2
      go_ret
      exact ⟨0, rfl, Nat.zero_le _, HS, rfl⟩
    | succ m =>
      obtain ⟨ad, hA, hcell⟩ := read_at HR.out m (by omega)
      subst hA
      have hz0 : ad.add 0 = ad := by simp [Addr.add]
      have hi0 : ((m + 1 : Nat) : Int) - 1 = (m : Int) := by omega
      have hi1 : (0 : Int) < ((m + 1 : Nat) : Int) := by omega
      have hi2 : (m : Int) ≤ (c : Int) := by omega
      have hw : wrap64 ((m + 1 : Nat) - 1 : Int) = (m : Int) := by unfold wrap64; omega
      obtain ⟨x, hx⟩ : ∃ x, l.getD m 0 = x := ⟨_, rfl⟩
      rw [hx] at hcell
      by_cases hz : x = 0
      · have HS : Aside0 (nv (l.take m) = nv l) := ⟨by
          have h1 := HK.out
          rw [nv_take_succ, hx, hz] at h1
          simpa using h1⟩
        subst hz
        clear hx
        go_wp2
        go_round
        case rel => exact ⟨m, by omega, by first | rfl | simp, HS⟩
        case measure => simp
      · have HS : Aside0 (l.take (m + 1) = toL (nv l)) := ⟨trim_end HO.out (by omega) (by rw [hx]; exact hz) HK.out⟩
        have hx0 : (x == 0) = false := by simpa using hz
        clear hx
        go_wp2
        go_ret
        exact ⟨m + 1, rfl, hk, HS, rfl⟩
end Go.Proofs.Ytplignahjhenjaa.Lb
