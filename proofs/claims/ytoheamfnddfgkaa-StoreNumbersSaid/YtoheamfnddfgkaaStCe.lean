/- store: plain: certificates as bytes, by the program. -/
import Derived.Test.YtoheamfnddfgkaaStR
namespace Go.Proofs.Ytoheamfnddfgkaa.St
open Go.RowKit Go.Proofs.YtoheamfnddfgkaaW.PrintWords Go.Proofs.Ytoheamfnddfgkaa.PB
set_option linter.unusedVariables false
set_option linter.unusedSimpArgs false

def okI64 (l : List Int) : Prop := ∀ x ∈ l, -9223372036854775808 ≤ x ∧ x ≤ 9223372036854775807
def okCert (c : S61) : Prop := (okL64 c.f0.f1 ∧ c.f0.f1.length ≤ 9223372036854775807) ∧ (okL64 c.f1.f1 ∧ c.f1.f1.length ≤ 9223372036854775807) ∧ (okI64 c.f2 ∧ c.f2.length ≤ 9223372036854775807) ∧ (okI64 c.f3 ∧ c.f3.length ≤ 9223372036854775807)
def in31 (f : Int) : Bool := decide (0 ≤ f) && decide (f ≤ 2147483647)
def inB : List Int → List Int → Bool
 | f :: fs, p :: ps => (in31 f && in31 p) && inB fs ps
 | _, _ => true
def mayS (c : S61) : Bool := (rightB c.f0.f0 c.f0.f1 && rightB c.f1.f0 c.f1.f1) && ((decide (c.f2.length ≤ 64) && decide (c.f2.length = c.f3.length)) && inB c.f2 c.f3)
def pairsB : List Int → List Int → List Int
 | f :: fs, p :: ps => grpS f.toNat ++ grpS p.toNat ++ pairsB fs ps
 | _, _ => []
def certB (c : S61) : List Int := numberS c.f0.f0 c.f0.f1 ++ numberS c.f1.f0 c.f1.f1 ++ grpS c.f2.length ++ pairsB c.f2 c.f3
def certsK (out : List Int) : List S61 → List Int × Int
 | [] => (out, 0)
 | c :: l => if mayS c = true then certsK (out ++ certB c) l else ([], 2)
def certsT (l : List S61) : List Int × Int := if 64 < l.length then ([], 3) else certsK (grpS l.length) l
theorem in31_no {f : Int} (h : f < 0) : in31 f = false := by unfold in31; simp; omega
theorem in31_no2 {f : Int} (h : f > 2147483647) : in31 f = false := by unfold in31; simp; omega
theorem in31_yes {f : Int} (h : ¬ f < 0) (h2 : ¬ f > 2147483647) : in31 f = true := by unfold in31; simp; omega
theorem in31_b {f : Int} (h : in31 f = true) : 0 ≤ f ∧ f ≤ 2147483647 := by unfold in31 at h; simpa using h
theorem may_l (fs ps l l' : List Int) (s s' : Bool) (hl : fs.length = ps.length) (hm : fs.length ≤ 64) : ∀ (m i k : Nat), i + m = fs.length → m < k → store_may.l0 k fs (fs.length : Int) (i : Int) s l s' l' fs ps = some (inB (fs.drop i) (ps.drop i))
 | 0, i, k + 1, hi, hk => by
  rw [store_may.l0, if_neg (by omega), List.drop_of_length_le (by omega), List.drop_of_length_le (by omega)]
  rfl
 | m + 1, i, k + 1, hi, hk => by
  rw [store_may.l0, if_pos (by omega), if_pos (by omega), if_pos (by omega), rd_drop fs i (by omega), rd_drop ps i (by omega)]
  simp only [inB]
  by_cases h1 : rd fs (i : Int) < 0
  ·rw [if_pos h1, in31_no h1]
   simp
  ·rw [if_neg h1]
   by_cases h2 : rd fs (i : Int) > 2147483647
   ·rw [if_pos h2, in31_no2 h2]
    simp
   ·rw [if_neg h2, if_pos (by omega), in31_yes h1 h2]
    by_cases h3 : rd ps (i : Int) < 0
    ·rw [if_pos h3, in31_no h3]
     simp
    ·rw [if_neg h3]
     by_cases h4 : rd ps (i : Int) > 2147483647
     ·rw [if_pos h4, in31_no2 h4]
      simp
     ·rw [if_neg h4, in31_yes h3 h4, w1 i (by omega), may_l fs ps l l' s s' hl hm m (i + 1) k (by omega) (by omega)]
      simp
theorem may_f (c : S61) (hc : okCert c) (k : Nat) (hk : 70 < k) : store_may.f k c.f0.f0 c.f0.f1 c.f1.f0 c.f1.f1 c.f2 c.f3 = some (mayS c) := by
 obtain ⟨k, rfl⟩ : ∃ k', k = k' + 1 := ⟨k - 1, by omega⟩
 obtain ⟨⟨_, h1⟩, ⟨_, h2⟩, ⟨_, h3⟩, ⟨_, h4⟩⟩ := hc
 unfold store_may.f mayS
 rw [rightP_f _ _ h1]
 simp only [Option.bind_some]
 cases r1 : rightB c.f0.f0 c.f0.f1 with
 | false => simp [store_may.j0]
 | true =>
  rw [if_pos rfl, rightP_f _ _ h2]
  simp only [Option.bind_some]
  cases r2 : rightB c.f1.f0 c.f1.f1 with
  | false => simp [store_may.j0]
  | true =>
   rw [if_pos rfl]
   by_cases h5 : (c.f2.length : Int) > 64
   ·rw [if_pos h5, decide_eq_false (show ¬ c.f2.length ≤ 64 by omega)]
    simp [store_may.j0]
   ·rw [if_neg h5, decide_eq_true (show c.f2.length ≤ 64 by omega)]
    by_cases h6 : c.f2.length = c.f3.length
    ·have h0 := may_l c.f2 c.f3 c.f0.f1 c.f1.f1 c.f0.f0 c.f1.f0 h6 (by omega) c.f2.length 0 k (by omega) (by omega)
     rw [show ((0 : Nat) : Int) = 0 from rfl] at h0
     rw [store_may.j0, if_neg (by simp [h6]), h0, decide_eq_true h6]
     simp
    ·rw [store_may.j0, if_pos (by simp; omega), decide_eq_false h6]
     simp
theorem grpS_len (n : Nat) : (grpS n).length ≤ 10 := grp_len _ _
theorem pairsB_len : ∀ (fs ps : List Int), (pairsB fs ps).length ≤ 20 * fs.length
 | [], _ => by simp [pairsB]
 | _ :: _, [] => by simp [pairsB]
 | f :: fs, p :: ps => by
  have := pairsB_len fs ps
  have := grpS_len f.toNat
  have := grpS_len p.toNat
  simp only [pairsB, List.length_append, List.length_cons]
  omega
set_option maxHeartbeats 4000000 in
theorem certs_l1 (L : List S61) (n I : Int) (fs ps l l' : List Int) (s s' : Bool) (hl : fs.length = ps.length) (hm : fs.length ≤ 64) : ∀ (m i k : Nat) (out : List Int), i + m = fs.length → 10 ≤ k → out.length + 20 * m < 140737488000000 → inB (fs.drop i) (ps.drop i) = true →
  store_Certs.l1 (k + m + 1) out L n I fs (fs.length : Int) (i : Int) s l s' l' fs ps = store_Certs.l0 k (out ++ pairsB (fs.drop i) (ps.drop i)) L n (wrap64 (I + 1)) := by
 intro m
 induction m with
 | zero =>
  intro i k out hi hk ho hb
  rw [store_Certs.l1, if_neg (by omega), List.drop_of_length_le (by omega), List.drop_of_length_le (by omega)]
  simp [pairsB]
 | succ m ih =>
  intro i k out hi hk ho hb
  have e1 := rd_drop fs i (by omega)
  have e2 := rd_drop ps i (by omega)
  rw [e1, e2] at hb ⊢
  simp only [inB, Bool.and_eq_true] at hb
  have b1 := in31_b hb.1.1
  have b2 := in31_b hb.1.2
  obtain ⟨f, hf⟩ : ∃ f : Nat, rd fs (i : Int) = (f : Int) := ⟨(rd fs (i : Int)).toNat, by omega⟩
  obtain ⟨p, hp⟩ : ∃ p : Nat, rd ps (i : Int) = (p : Int) := ⟨(rd ps (i : Int)).toNat, by omega⟩
  rw [show k + (m + 1) + 1 = (k + m + 1) + 1 by omega, store_Certs.l1, if_pos (by omega), if_pos (by omega), if_pos (by omega), hf, hp]
  rw [hf] at b1
  rw [hp] at b2
  have g1 := grpS_len f
  have g2 := grpS_len p
  have hq : (i : Int) < (ps.length : Int) := by omega
  have hL : (out ++ grpS f).length < 140737488355300 := by rw [List.length_append]; omega
  have hG := groups_f p (k + m + 1) (out ++ grpS f) (by omega) (by omega) hL
  have hL2 : (out ++ grpS f ++ grpS p).length + 20 * m < 140737488000000 := by simp only [List.length_append]; omega
  have hI := ih (i + 1) k (out ++ grpS f ++ grpS p) (by omega) hk hL2 hb.2
  rw [groups_f f _ out (by omega) (by omega) (by omega)]
  rw [Option.bind_some]
  rw [if_pos hq, hG]
  rw [Option.bind_some]
  rw [w1 i (by omega), hI]
  simp [pairsB, List.append_assoc]
theorem may_facts {c : S61} (h : mayS c = true) : rightB c.f0.f0 c.f0.f1 = true ∧ rightB c.f1.f0 c.f1.f1 = true ∧ c.f2.length ≤ 64 ∧ c.f2.length = c.f3.length ∧ inB c.f2 c.f3 = true := by
 unfold mayS at h
 simp only [Bool.and_eq_true, decide_eq_true_eq] at h
 exact ⟨h.1.1, h.1.2, h.2.1.1, h.2.1.2, h.2.2⟩
theorem numberS_len {s : Bool} {l : List Int} (h : rightB s l = true) : (numberS s l).length ≤ 32778 := by
 have := right_len h
 have := grpS_len (2 * l.length + s.toNat)
 simp only [numberS, List.length_append, limbsS_len]
 omega
theorem certB_len {c : S61} (h : mayS c = true) : (certB c).length ≤ 66860 := by
 obtain ⟨h1, h2, h3, h4, h5⟩ := may_facts h
 have := numberS_len h1
 have := numberS_len h2
 have := grpS_len c.f2.length
 have := pairsB_len c.f2 c.f3
 simp only [certB, List.length_append]
 omega
theorem rd_T61_drop (l : List S61) (i : Nat) (h : i < l.length) : l.drop i = rd_T61 l (i : Int) :: l.drop (i + 1) := by
 rw [List.drop_eq_getElem_cons h]
 simp [rd_T61, List.getD_eq_getElem?_getD, h]
set_option maxHeartbeats 4000000 in
theorem certs_l0 (L : List S61) (hL : ∀ c ∈ L, okCert c) (hn : L.length ≤ 64) : ∀ (m i k : Nat) (out : List Int), i + m = L.length → 41000 + 100 * m < k → out.length + 70000 * m < 140737487000000 →
  store_Certs.l0 k out L (L.length : Int) (i : Int) = some (certsK out (L.drop i))
 | 0, i, k + 1, out, hi, hk, ho => by
  rw [store_Certs.l0, if_neg (by omega), List.drop_of_length_le (by omega)]
  rfl
 | m + 1, i, k + 1, out, hi, hk, ho => by
  have hlt : i < L.length := by omega
  have hok := hL _ (rd_mem hlt)
  rw [store_Certs.l0, if_pos (by omega), if_pos (by omega), if_pos (by omega), rd_T61_drop L i hlt]
  generalize rd_T61 L (i : Int) = c at hok ⊢
  rw [may_f c hok k (by omega)]
  simp only [Option.bind_some, certsK]
  by_cases h : mayS c = true
  ·obtain ⟨h1, h2, h3, h4, h5⟩ := may_facts h
   have n1 := numberS_len h1
   have n2 := numberS_len h2
   have g1 := grpS_len c.f2.length
   have q1 := number_f c.f0.f0 c.f0.f1 out hok.1.1 (right_len h1) (by omega) k (by have := right_len h1; omega)
   have o2 : (out ++ numberS c.f0.f0 c.f0.f1).length < 140737488000000 := by rw [List.length_append]; omega
   have q2 := number_f c.f1.f0 c.f1.f1 (out ++ numberS c.f0.f0 c.f0.f1) hok.2.1.1 (right_len h2) o2 k (by have := right_len h2; omega)
   have o3 : ((out ++ numberS c.f0.f0 c.f0.f1) ++ numberS c.f1.f0 c.f1.f1).length < 140737488355300 := by simp only [List.length_append]; omega
   have q3 := groups_f c.f2.length k ((out ++ numberS c.f0.f0 c.f0.f1) ++ numberS c.f1.f0 c.f1.f1) (by omega) (by omega) o3
   rw [if_pos h, if_pos h, q1]
   simp only [Option.bind_some]
   rw [q2]
   simp only [Option.bind_some]
   rw [q3]
   simp only [Option.bind_some]
   obtain ⟨k', rfl⟩ : ∃ k', k = k' + c.f2.length + 1 := ⟨k - c.f2.length - 1, by omega⟩
   have o4 : (((out ++ numberS c.f0.f0 c.f0.f1) ++ numberS c.f1.f0 c.f1.f1) ++ grpS c.f2.length).length + 20 * c.f2.length < 140737488000000 := by simp only [List.length_append]; omega
   have hl := certs_l1 L (L.length : Int) (i : Int) c.f2 c.f3 c.f0.f1 c.f1.f1 c.f0.f0 c.f1.f0 h4 h3 c.f2.length 0 k' (((out ++ numberS c.f0.f0 c.f0.f1) ++ numberS c.f1.f0 c.f1.f1) ++ grpS c.f2.length) (by omega) (by omega) o4 (by simpa using h5)
   rw [show ((0 : Nat) : Int) = 0 from rfl, List.drop_zero, List.drop_zero, w1 i (by omega)] at hl
   have hb := pairsB_len c.f2 c.f3
   have o5 : ((((out ++ numberS c.f0.f0 c.f0.f1) ++ numberS c.f1.f0 c.f1.f1) ++ grpS c.f2.length) ++ pairsB c.f2 c.f3).length + 70000 * m < 140737487000000 := by simp only [List.length_append]; omega
   rw [hl, certs_l0 L hL hn m (i + 1) k' _ (by omega) (by omega) o5]
   simp [certB, List.append_assoc]
  ·rw [if_neg h, if_neg h]
theorem certs_f (L : List S61) (hL : ∀ c ∈ L, okCert c) (hm : L.length ≤ 9223372036854775807) (k : Nat) (hk : 50000 ≤ k) : store_Certs.f k L = some (certsT L) := by
 unfold store_Certs.f certsT
 by_cases h : 64 < L.length
 ·rw [if_pos (by omega), if_pos h]
 ·have g := grpS_len L.length
  rw [if_neg (by omega), if_neg h, groups_f L.length k [] (by omega) (by omega) (by simp)]
  simp only [Option.bind_some, List.nil_append]
  have h0 := certs_l0 L hL (by omega) L.length 0 k (grpS L.length) (by omega) (by omega) (by omega)
  rw [show ((0 : Nat) : Int) = 0 from rfl, List.drop_zero] at h0
  exact h0
theorem certsK_len : ∀ (l : List S61) (out : List Int), (certsK out l).1.length ≤ out.length + 66860 * l.length
 | [], out => by simp [certsK]
 | c :: l, out => by
  simp only [certsK]
  split
  ·rename_i h
   have := certsK_len l (out ++ certB c)
   have := certB_len h
   simp only [List.length_append, List.length_cons] at *
   omega
  ·simp
theorem certsT_len (l : List S61) : (certsT l).1.length ≤ 4300000 := by
 unfold certsT
 split
 ·simp
 ·have := certsK_len l (grpS l.length)
  have := grpS_len l.length
  omega
end Go.Proofs.Ytoheamfnddfgkaa.St
