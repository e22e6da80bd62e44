/- store: plain: certificates as bytes, by the document. -/
import Derived.Test.YtoheamfnddfgkaaStCe
import Derived.Test.YtoheamfnddfgkaaStRp
namespace Go.Proofs.Ytoheamfnddfgkaa.St
open Go.RowKit Go.Proofs.YtoheamfnddfgkaaW.PrintWords Go.Proofs.Ytoheamfnddfgkaa.PB
set_option linter.unusedVariables false
set_option linter.unusedSimpArgs false

theorem rmay_l (fs ps l l' : List Int) (s s' : Bool) (hl : fs.length = ps.length) (hm : fs.length ≤ 64) : ∀ (m i k : Nat), i + m = fs.length → m < k → rosetteref30_may.l0 k (i : Int) s l s' l' fs ps = some (inB (fs.drop i) (ps.drop i))
 | 0, i, k + 1, hi, hk => by
  rw [rosetteref30_may.l0, if_neg (by omega), List.drop_of_length_le (by omega), List.drop_of_length_le (by omega)]
  rfl
 | m + 1, i, k + 1, hi, hk => by
  rw [rosetteref30_may.l0, if_pos (by omega), if_pos (by omega), rd_drop fs i (by omega), rd_drop ps i (by omega)]
  simp only [inB]
  by_cases h1 : rd fs (i : Int) < 0
  ·rw [if_pos h1, in31_no h1]
   simp
  ·rw [if_neg h1]
   by_cases h2 : rd fs (i : Int) > 2147483647
   ·rw [if_pos h2, in31_no2 h2]
    simp
   ·rw [if_neg h2, if_pos (by omega), in31_yes h1 h2]
    by_cases h3 : rd ps (i : Int) < 0
    ·rw [if_pos h3, in31_no h3]
     simp
    ·rw [if_neg h3]
     by_cases h4 : rd ps (i : Int) > 2147483647
     ·rw [if_pos h4, in31_no2 h4]
      simp
     ·rw [if_neg h4, in31_yes h3 h4, w1 i (by omega), rmay_l fs ps l l' s s' hl hm m (i + 1) k (by omega) (by omega)]
      simp
theorem rmay_f (c : S61) (hc : okCert c) (k : Nat) (hk : 70 < k) : rosetteref30_may.f k c.f0.f0 c.f0.f1 c.f1.f0 c.f1.f1 c.f2 c.f3 = some (mayS c) := by
 obtain ⟨k, rfl⟩ : ∃ k', k = k' + 1 := ⟨k - 1, by omega⟩
 obtain ⟨⟨_, h1⟩, ⟨_, h2⟩, ⟨_, h3⟩, ⟨_, h4⟩⟩ := hc
 unfold rosetteref30_may.f mayS
 rw [rright_f _ _ h1]
 simp only [Option.bind_some]
 cases r1 : rightB c.f0.f0 c.f0.f1 with
 | false => simp [rosetteref30_may.j0]
 | true =>
  rw [if_pos rfl, rright_f _ _ h2]
  simp only [Option.bind_some]
  cases r2 : rightB c.f1.f0 c.f1.f1 with
  | false => simp [rosetteref30_may.j0]
  | true =>
   rw [if_pos rfl]
   by_cases h5 : (c.f2.length : Int) > 64
   ·rw [if_pos h5, decide_eq_false (show ¬ c.f2.length ≤ 64 by omega)]
    simp [rosetteref30_may.j0]
   ·rw [if_neg h5, decide_eq_true (show c.f2.length ≤ 64 by omega)]
    by_cases h6 : c.f2.length = c.f3.length
    ·have h0 := rmay_l c.f2 c.f3 c.f0.f1 c.f1.f1 c.f0.f0 c.f1.f0 h6 (by omega) c.f2.length 0 k (by omega) (by omega)
     rw [show ((0 : Nat) : Int) = 0 from rfl] at h0
     rw [rosetteref30_may.j0, if_neg (by simp [h6]), h0, decide_eq_true h6]
     simp
    ·rw [rosetteref30_may.j0, if_pos (by simp; omega), decide_eq_false h6]
     simp
set_option maxHeartbeats 4000000 in
theorem rcerts_l1 (L : List S61) (I : Nat) (hI : I < L.length) (hI2 : I < 100) (fs ps : List Int) (hfs : (rd_T61 L (I : Int)).f2 = fs) (hps : (rd_T61 L (I : Int)).f3 = ps) (hl : fs.length = ps.length) (hm : fs.length ≤ 64) : ∀ (m i k : Nat) (out : List Int), i + m = fs.length → 10 ≤ k → out.length + 20 * m < 140737488000000 → inB (fs.drop i) (ps.drop i) = true →
  rosetteref30_Certs.l1 (k + m + 1) L out (I : Int) (i : Int) = rosetteref30_Certs.l0 k L (out ++ pairsB (fs.drop i) (ps.drop i)) ((I + 1 : Nat) : Int) := by
 intro m
 induction m with
 | zero =>
  intro i k out hi hk ho hb
  rw [rosetteref30_Certs.l1, hfs, hps, if_pos (by omega), if_pos (by omega), if_neg (by omega), List.drop_of_length_le (by omega), List.drop_of_length_le (by omega), w1 I (by omega)]
  simp [pairsB]
 | succ m ih =>
  intro i k out hi hk ho hb
  have e1 := rd_drop fs i (by omega)
  have e2 := rd_drop ps i (by omega)
  rw [e1, e2] at hb ⊢
  simp only [inB, Bool.and_eq_true] at hb
  have b1 := in31_b hb.1.1
  have b2 := in31_b hb.1.2
  obtain ⟨f, hf⟩ : ∃ f : Nat, rd fs (i : Int) = (f : Int) := ⟨(rd fs (i : Int)).toNat, by omega⟩
  obtain ⟨p, hp⟩ : ∃ p : Nat, rd ps (i : Int) = (p : Int) := ⟨(rd ps (i : Int)).toNat, by omega⟩
  rw [show k + (m + 1) + 1 = (k + m + 1) + 1 by omega, rosetteref30_Certs.l1, hfs, hps, if_pos (by omega), if_pos (by omega), if_pos (by omega), if_pos (by omega), hf, hp]
  rw [hf] at b1
  rw [hp] at b2
  have g1 := grpS_len f
  have g2 := grpS_len p
  have hq : (i : Int) < (ps.length : Int) := by omega
  have hL0 : out.length + (grpS f).length < 140737488355328 := by omega
  have hL1 : (out ++ grpS f).length + (grpS p).length < 140737488355328 := by rw [List.length_append]; omega
  have hL2 : (out ++ grpS f ++ grpS p).length + 20 * m < 140737488000000 := by simp only [List.length_append]; omega
  have hI := ih (i + 1) k (out ++ grpS f ++ grpS p) (by omega) hk hL2 hb.2
  rw [rgroups_f f _ (by omega) (by omega)]
  rw [Option.bind_some]
  rw [if_pos hL0, Option.bind_some, if_pos hq, rgroups_f p _ (by omega) (by omega)]
  rw [Option.bind_some]
  rw [if_pos hL1, w1 i (by omega), hI]
  simp [pairsB, List.append_assoc]
theorem putS_right {s : Bool} {l : List Int} (h : rightB s l = true) : putS s l = (numberS s l, 0) := by unfold putS; rw [if_pos h]
set_option maxHeartbeats 4000000 in
theorem rcerts_l0 (L : List S61) (hL : ∀ c ∈ L, okCert c) (hn : L.length ≤ 64) : ∀ (m i k : Nat) (out : List Int), i + m = L.length → 41010 + 100 * m < k → out.length + 70000 * m < 140737487000000 →
  rosetteref30_Certs.l0 k L out (i : Int) = some (certsK out (L.drop i))
 | 0, i, k + 1, out, hi, hk, ho => by
  rw [rosetteref30_Certs.l0, if_neg (by omega), List.drop_of_length_le (by omega)]
  rfl
 | m + 1, i, k + 1, out, hi, hk, ho => by
  have hlt : i < L.length := by omega
  have hok := hL _ (rd_mem hlt)
  obtain ⟨c, hc⟩ : ∃ c, rd_T61 L (i : Int) = c := ⟨_, rfl⟩
  rw [rosetteref30_Certs.l0, if_pos (by omega), if_pos (by omega), rd_T61_drop L i hlt, hc]
  rw [hc] at hok
  rw [rmay_f c hok k (by omega)]
  simp only [Option.bind_some, certsK]
  by_cases h : mayS c = true
  ·obtain ⟨h1, h2, h3, h4, h5⟩ := may_facts h
   have n1 := numberS_len h1
   have n2 := numberS_len h2
   have g1 := grpS_len c.f2.length
   rw [if_pos h, if_pos h, rput_f _ _ hok.1.1 hok.1.2 k (by omega), putS_right h1]
   simp only [Option.bind_some]
   rw [rput_f _ _ hok.2.1.1 hok.2.1.2 k (by omega), putS_right h2]
   simp only [Option.bind_some]
   have o1 : out.length + (numberS c.f0.f0 c.f0.f1).length < 140737488355328 := by omega
   have o2 : (out ++ numberS c.f0.f0 c.f0.f1).length + (numberS c.f1.f0 c.f1.f1).length < 140737488355328 := by rw [List.length_append]; omega
   have o3 : ((out ++ numberS c.f0.f0 c.f0.f1) ++ numberS c.f1.f0 c.f1.f1).length + (grpS c.f2.length).length < 140737488355328 := by simp only [List.length_append]; omega
   rw [if_pos o1, if_pos o2, rgroups_f c.f2.length k (by omega) (by omega)]
   simp only [Option.bind_some]
   rw [if_pos o3]
   have o4 : (((out ++ numberS c.f0.f0 c.f0.f1) ++ numberS c.f1.f0 c.f1.f1) ++ grpS c.f2.length).length + 20 * c.f2.length < 140737488000000 := by simp only [List.length_append]; omega
   obtain ⟨k', rfl⟩ : ∃ k', k = k' + c.f2.length + 1 := ⟨k - c.f2.length - 1, by omega⟩
   have hl := rcerts_l1 L i hlt (by omega) c.f2 c.f3 (by rw [hc]) (by rw [hc]) h4 h3 c.f2.length 0 k' (((out ++ numberS c.f0.f0 c.f0.f1) ++ numberS c.f1.f0 c.f1.f1) ++ grpS c.f2.length) (by omega) (by omega) o4 (by simpa using h5)
   rw [show ((0 : Nat) : Int) = 0 from rfl, List.drop_zero, List.drop_zero] at hl
   have hb := pairsB_len c.f2 c.f3
   have o5 : ((((out ++ numberS c.f0.f0 c.f0.f1) ++ numberS c.f1.f0 c.f1.f1) ++ grpS c.f2.length) ++ pairsB c.f2 c.f3).length + 70000 * m < 140737487000000 := by simp only [List.length_append]; omega
   rw [hl, rcerts_l0 L hL hn m (i + 1) k' _ (by omega) (by omega) o5]
   simp [certB, List.append_assoc]
  ·rw [if_neg h, if_neg h]
theorem rcerts_f (L : List S61) (hL : ∀ c ∈ L, okCert c) (hm : L.length ≤ 9223372036854775807) (k : Nat) (hk : 50000 ≤ k) : rosetteref30_Certs.f k L = some (certsT L) := by
 unfold rosetteref30_Certs.f certsT
 by_cases h : 64 < L.length
 ·rw [if_pos (by omega), if_pos h]
 ·have g := grpS_len L.length
  rw [if_neg (by omega), if_neg h, rgroups_f L.length k (by omega) (by omega)]
  simp only [Option.bind_some]
  have h0 := rcerts_l0 L hL (by omega) L.length 0 k (grpS L.length) (by omega) (by omega) (by omega)
  rw [show ((0 : Nat) : Int) = 0 from rfl, List.drop_zero] at h0
  exact h0
theorem storeCerts_f (L : List S61) (hL : ∀ c ∈ L, okCert c) (hm : L.length ≤ 9223372036854775807) : rosettelaw30_StoreCerts.f 5000000 L = some true := by
 have h1 := certsT_len L
 unfold rosettelaw30_StoreCerts.f
 rw [certs_f L hL hm _ (by decide), rcerts_f L hL hm _ (by decide)]
 simp only [Option.bind_some]
 rw [sameBytes_f _ _ (by omega) _ (by omega)]
 simp [rosettelaw30_awake.f]
theorem storeCerts_c (A0 : Option Addr) (n0 : Nat) (l0 : List S61) (hc0 : l0.length ≤ n0) (hm0 : l0.length ≤ 9223372036854775807) (ho0 : ∀ c ∈ l0, okCert c) (w : World) (hr0 : Kd.C k61 w A0 l0.length l0) :
  Calls Try.prog 5 #[.slice A0 l0.length n0] w fun e w' => e = .returned (.bool true) ∧ Below w.heap.size w w' :=
 rosettelaw30_StoreCerts.calls 5000000 A0 n0 l0 true w hr0 hc0 (storeCerts_f l0 ho0 hm0)
end Go.Proofs.Ytoheamfnddfgkaa.St
