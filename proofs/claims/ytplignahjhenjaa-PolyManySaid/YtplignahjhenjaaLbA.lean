/- limb: told. -/
import Derived.Test.YtplignahjhenjaaPAx0
import Derived.Test.YtplignahjhenjaaLbM
import Derived.Outline
import Derived.Lib.Hide
namespace Go.Proofs.Ytplignahjhenjaa.Lb
open Go.RowKit Go.Proofs.YtplignahjhenjaaW.PrintWords Go.Proofs.YtplignahjhenjaaW.PrintLast Go.Proofs.YtplignahjhenjaaW.PrintMore
set_option linter.unusedVariables false
set_option linter.unusedSimpArgs false

set_option maxHeartbeats 400000 in
theorem clip_c (A : Option Addr) (n c : Nat) (hc : n ≤ c) (hm : n ≤ 9223372036854775807) (w : World) :
    Calls Try.prog 85 #[.slice A n c] w fun e w' => e = .returned (.slice A n n) ∧ w = w' := by
  go_enter Try.func85, Try.ntmps85
  go_wp2
  go_ret
  exact ⟨rfl, rfl⟩
/-- The limbs ahead of place m are all of it. -/
def TopsNought (l : List Int) (m : Nat) : Prop := nv (l.take m) = nv l
theorem tops_all (l : List Int) : TopsNought l l.length := by unfold TopsNought; rw [List.take_length]
theorem tops_less {l : List Int} {m : Nat} (hm : m ≤ l.length) (h0 : 0 < m) (h : TopsNought l m) (hz : l.getD (m - 1) 0 = 0) : TopsNought l (m - 1) := by
  unfold TopsNought at *
  rw [← h]
  obtain ⟨k, rfl⟩ : ∃ k, m = k + 1 := ⟨m - 1, by omega⟩
  have hk : k < l.length := by omega
  rw [Nat.add_sub_cancel] at *
  rw [List.take_succ_eq_append_getElem hk, nv_append]
  have : l[k] = 0 := by
    have e : l.getD k 0 = l[k] := by simp [List.getD_eq_getElem?_getD, List.getElem?_eq_getElem hk]
    rw [← e, hz]
  rw [this]
  simp [nv]
theorem take_canon {l : List Int} {m : Nat} (hm : m ≤ l.length) (h : m = 0 ∨ l.getD (m - 1) 0 ≠ 0) : canon (l.take m) := by
  rcases Nat.eq_zero_or_pos m with h0 | h0
  · exact .inl (by rw [h0, List.take_zero])
  · refine .inr ?_
    obtain ⟨k, rfl⟩ : ∃ k, m = k + 1 := ⟨m - 1, by omega⟩
    have hk : k < l.length := by omega
    rw [List.take_succ_eq_append_getElem hk, List.getLast?_append, List.getLast?_singleton]
    rcases h with h | h
    · omega
    · rw [Nat.add_sub_cancel] at h
      have e : l.getD k 0 = l[k] := by simp [List.getD_eq_getElem?_getD, List.getElem?_eq_getElem hk]
      rw [e] at h
      simpa using h
/-- Where `told`'s loop ends the limbs are the number's. -/
theorem tops_end {l : List Int} {m : Nat} (ho : okL l) (hm : m ≤ l.length) (h : TopsNought l m) (hz : m = 0 ∨ l.getD (m - 1) 0 ≠ 0) : toL (nv l) = l.take m := by
  unfold TopsNought at h
  rw [← h]
  exact toL_nv (okL_take ho m) (take_canon hm hz)
theorem read_at {w : World} {A : Option Addr} {n : Nat} {l : List Int} (h : Kd.C (Kd.int .u64) w A n l) (j : Nat) (hj : j < n) : ∃ ad, A = some ad ∧ w.cell? (ad.add j) = some (.int .u64 (l.getD j 0)) := by
  obtain ⟨ad, e, hc⟩ := Kd.at_int h (j : Int) (by omega) (by omega)
  exact ⟨ad, e, by simpa [rd] using hc⟩
/-- What comes of `told`: the same row, cut; or nothing. -/
def ToldOut (A : Option Addr) (l : List Int) (r : Bool × List Int × Int) (e : Ending) : Prop :=
  (r.2.1 = [] ∧ e = .returned (.tuple #[.agg #[.bool r.1, .slice none 0 0], .int .i64 r.2.2])) ∨
  (∃ m, m ≤ l.length ∧ r.2.1 = l.take m ∧ e = .returned (.tuple #[.agg #[.bool r.1, .slice A m m], .int .i64 r.2.2]))
set_option maxRecDepth 100000 in
set_option maxHeartbeats 1000000 in
theorem told_c (neg : Bool) (A : Option Addr) (c : Nat) (l : List Int) (hc : l.length ≤ c) (ho : okL l) (hm : l.length ≤ 9223372036854775807) (w : World) (hr : Kd.C (Kd.int .u64) w A l.length l) :
    Calls Try.prog 67 #[.bool neg, .slice A l.length c] w fun e w' => ToldOut A l (toldS neg (nv l)) e ∧ Below w.heap.size w w' := by
  have HR := Aside0.mk hr
  have HO := Aside0.mk ho
  clear hr ho
  have hu := Try.underlying25
  have hus := Try.underlying23
  have hb := Aside0.mk ((Below.refl w.heap.size w).alloc (Nat.le_refl _) (.cells #[.bool false, .slice none 0 0] 25))
  have HR2 := Aside0.mk (Kd.C_below HR.out hb.out)
  go_enter Try.func67, Try.ntmps67
  go_wp2
  go_loop [1] (fun v => ∃ m : Nat, m ≤ l.length ∧ v = .slice A m c ∧ Aside0 (TopsNought l m)) (fun v => match v with | .slice _ m _ => m | _ => 0)
  case atStart => exact ⟨l.length, Nat.le_refl _, rfl, ⟨tops_all l⟩⟩
  case round =>
    obtain ⟨m, hml, rfl, ht⟩ := hrel
    by_cases h0 : m = 0
    · subst h0
      go_wp2
      have hn : nv l = 0 := by have := ht.out; unfold TopsNought at this; rw [List.take_zero] at this; exact this.symm
      refine bodyPost_ret (v := .tuple #[.agg #[.bool false, .slice none 0 0], .int .i64 0]) (by simp [results, Try.results67, go_sem]) rfl ⟨.inl ?_, hb.out⟩
      rw [hn]
      simp [toldS, toL_zero]
    · obtain ⟨k, rfl⟩ : ∃ k, m = k + 1 := ⟨m - 1, by omega⟩
      obtain ⟨ad, hA, hcell⟩ := read_at HR2.out k (by omega)
      subst hA
      obtain ⟨x, hx⟩ : ∃ x, l.getD k 0 = x := ⟨_, rfl⟩
      rw [hx] at hcell
      have HX := Aside0.mk hx
      clear hx
      have hk1 : ((k + 1 : Nat) : Int) - 1 = (k : Int) := by omega
      by_cases hz : x = 0
      · subst hz
        go_wp2
        go_round
        case rel => exact ⟨k, by omega, rfl, ⟨tops_less (m := k + 1) hml (by omega) ht.out HX.out⟩⟩
        case measure => simp
      · have hx0 : (x == 0) = false := by simpa using hz
        have he := tops_end HO.out hml ht.out (.inr (by rw [Nat.add_sub_cancel, HX.out]; exact hz))
        have hlen : (l.take (k + 1)).length = k + 1 := by rw [List.length_take]; omega
        have hne : nv l ≠ 0 := fun e => by rw [e, toL_zero] at he; rw [← he] at hlen; simp at hlen
        by_cases hbig : 4096 < k + 1
        · have hS : Aside0 (toldS neg (nv l) = (false, [], 3)) := ⟨by unfold toldS; rw [he, hlen, if_pos hbig]⟩
          clear he hne
          go_wp2
          refine bodyPost_ret (v := .tuple #[.agg #[.bool false, .slice none 0 0], .int .i64 3]) (by simp [results, Try.results67, go_sem]) rfl ⟨?_, hb.out⟩
          rw [hS.out]
          exact .inl ⟨rfl, rfl⟩
        · have hS : Aside0 (toldS neg (nv l) = (neg, l.take (k + 1), 0)) := ⟨by unfold toldS; rw [he, hlen, if_neg hbig, if_neg hne]⟩
          clear he hne
          go_wp2_with (go_at_call 85; refine (clip_c _ _ _ (by omega) (by omega) _).mono ?_; rintro e w' ⟨rfl, rfl⟩)
          refine bodyPost_ret (v := .tuple #[.agg #[.bool neg, .slice (some ad) (k + 1) (k + 1)], .int .i64 0]) (by simp [results, Try.results67, go_sem]) rfl ⟨?_, (Below.refl _ _).alloc (Nat.le_refl _) _⟩
          rw [hS.out]
          exact .inr ⟨k + 1, hml, rfl, rfl⟩
/-- The same, the length by a name of its own. -/
theorem told_n (neg : Bool) (A : Option Addr) (n c : Nat) (l : List Int) (hn : l.length = n) (hc : n ≤ c) (ho : okL l) (hm : n ≤ 9223372036854775807) (w : World) (hr : Kd.C (Kd.int .u64) w A l.length l) :
    Calls Try.prog 67 #[.bool neg, .slice A n c] w fun e w' => ToldOut A l (toldS neg (nv l)) e ∧ Below w.heap.size w w' := by
  subst hn
  exact told_c neg A c l hc ho hm w hr
end Go.Proofs.Ytplignahjhenjaa.Lb
