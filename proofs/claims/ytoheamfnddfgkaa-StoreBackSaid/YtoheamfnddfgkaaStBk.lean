/- store: StoreBack, plain. -/
import Derived.Test.YtoheamfnddfgkaaStCa
import Derived.Test.YtoheamfnddfgkaaStCo
namespace Go.Proofs.Ytoheamfnddfgkaa.St
open Go.RowKit Go.Proofs.YtoheamfnddfgkaaW.PrintWords Go.Proofs.Ytoheamfnddfgkaa.PB
set_option linter.unusedVariables false
set_option linter.unusedSimpArgs false

theorem numS_get {b : List Int} {n : Bool × List Int} {j : Nat} (h : numS b = some (n, j)) : getS b = (n.1, n.2, (j : Int), 0) := by unfold getS; rw [h]
theorem numS_get0 {b : List Int} (h : numS b = none) : getS b = (false, [], 0, 400) := by unfold getS; rw [h]
theorem putS_right {s : Bool} {l : List Int} (h : rightB s l = true) : putS s l = (numberS s l, 0) := by unfold putS; rw [if_pos h]
theorem may_short {c : S61} (h : mayS c = true) : shortC 4096 c := by
  obtain ⟨h1, h2, h3, h4, h5⟩ := may_facts h
  exact ⟨right_len h1, right_len h2, by omega, by omega⟩
theorem back_j3 (b : List Int) (ho : okB b) (hb : b.length ≤ 140737488351232) (k : Nat) (hk : 5000000 ≤ k) : rosettelaw30_StoreBack.j3 (k + 1) b = some true := by
  rw [rosettelaw30_StoreBack.j3, read_f b ho (by omega), Option.bind_some]
  cases h : readS b with
  | error e =>
    have hp := read_place h
    rw [readG_err h]
    simp only [List.map_nil, List.length_nil]
    rw [if_neg (by decide), if_pos trivial, if_pos (by decide), if_pos (by omega), decide_eq_true (show (e : Int) ≤ (b.length : Int) by omega)]
  | ok cs =>
    obtain ⟨h1, h2⟩ := read_can ho h
    have hG : readG b = (cs, 0, 0) := by unfold readG; rw [h]
    have hlen := certsT_len (cs.map toS)
    have hsh := (readG_short b ho).1
    rw [hG] at hsh
    rw [h1] at hlen
    replace hsh : cs.length ≤ 64 := hsh
    replace hlen : b.length ≤ 4300000 := hlen
    rw [hG]
    simp only
    rw [if_pos trivial, certs_f _ h2 (by rw [List.length_map]; omega) k (by omega), Option.bind_some, h1]
    simp only
    rw [if_pos trivial, if_pos trivial, sameBytes_f b b (by omega) k (by omega), Option.bind_some]
    simp
theorem back_j2 (b : List Int) (ho : okB b) (hb : b.length ≤ 140737488351232) (k : Nat) (hk : 5000000 ≤ k) : rosettelaw30_StoreBack.j2 (k + 2) b = some true := by
  rw [rosettelaw30_StoreBack.j2, get_f b ho (by omega), Option.bind_some]
  cases h : numS b with
  | none =>
    rw [numS_get0 h]
    simp only
    rw [if_neg (by decide)]
    exact back_j3 b ho hb k hk
  | some p =>
    obtain ⟨⟨s, l⟩, n⟩ := p
    obtain ⟨h1, h2, h3⟩ := num_can ho h
    have hn := numS_len h
    have hl := right_len h1
    have hlen := numberS_len h1
    rw [numS_get h]
    simp only
    rw [if_pos trivial, put_f s l h2 (by omega) (k + 1) (by omega), Option.bind_some, putS_right h1]
    simp only
    rw [if_pos trivial, if_neg (by omega), if_neg (by omega), if_pos (by omega), if_pos (by omega), Int.toNat_natCast, h3]
    have hk2 : (b.take n).length < k + 1 := by rw [← h3]; omega
    have hk3 : (b.take n).length < 9223372036854775807 := by rw [← h3]; omega
    rw [sameBytes_f (b.take n) (b.take n) hk3 (k + 1) hk2, Option.bind_some, decide_eq_true (rfl : b.take n = b.take n)]
    rw [if_pos rfl]
    exact back_j3 b ho hb k hk
theorem back_j1 (L : List S61) (hL : ∀ c ∈ L, okCert c) (hm : L.length ≤ 9223372036854775807) (b : List Int) (ho : okB b) (hb : b.length ≤ 140737488351232) (k : Nat) (hk : 5000000 ≤ k) : rosettelaw30_StoreBack.j1 (k + 3) L b = some true := by
  rw [rosettelaw30_StoreBack.j1, certs_f L hL hm _ (by omega), Option.bind_some]
  by_cases h : (certsT L).2 = 0
  · obtain ⟨b1, b2, b3⟩ := read_back hL h []
    obtain ⟨c1, c2, c3⟩ := certsT_ok h
    rw [List.append_nil] at b1 b2
    have hlen := certsT_len L
    have hr : readS (certsT L).1 = .ok (L.map fromS) := by
      unfold readS
      rw [b1]
      simp only [Int.toNat_natCast]
      rw [b2]
      simp only
      rw [if_neg (by omega)]
    have hG : readG (certsT L).1 = (L.map fromS, 0, 0) := by unfold readG; rw [hr]
    have hmap : (L.map fromS).map toS = L := by rw [List.map_map]; exact List.map_id'' (fun c => rfl) L
    rw [if_pos h, read_f _ (okB_certs L h) (by omega), Option.bind_some, hG]
    simp only [hmap]
    rw [if_pos trivial, if_pos trivial, sameCerts_f 4096 (by decide) L (fun c hc => may_short (c2 c hc)) (by omega) (k + 2) (by omega), Option.bind_some, if_pos rfl]
    exact back_j2 b ho hb k hk
  · rw [if_neg h]
    exact back_j2 b ho hb k hk
theorem back_j0 (L : List S61) (hL : ∀ c ∈ L, okCert c) (hm : L.length ≤ 9223372036854775807) (b : List Int) (ho : okB b) (hb : b.length ≤ 140737488351232) (s : Bool) (l : List Int) (hl : okL64 l) (k : Nat) (hk : 5000000 ≤ k) :
    rosettelaw30_StoreBack.j0 (k + 4) L b (putS s l).1 (putS s l).2 false s l = some true := by
  rw [rosettelaw30_StoreBack.j0, if_neg (by simp)]
  by_cases h : rightB s l = true
  · have h4 := right_len h
    have hlen := numberS_len h
    rw [putS_right h]
    simp only
    rw [if_pos trivial]
    unfold rosettekit_CopyBytes.f
    rw [if_pos (by simp; omega), Option.bind_some, List.nil_append, if_pos (by omega)]
    have hg : getS (numberS s l ++ b) = (s, l, ((numberS s l).length : Int), 0) := numS_get (num_back s l b hl h)
    rw [get_f _ (okB_app (okB_number s l) ho) (by rw [List.length_append]; omega), Option.bind_some, hg]
    simp only
    rw [sameInt_law s l _ _ (by omega) _ (by omega), Option.bind_some, if_pos rfl]
    exact back_j1 L hL hm b ho hb k hk
  · have hp : putS s l = ([], 2) := by unfold putS; rw [if_neg h]
    rw [hp]
    simp only
    rw [if_neg (by decide)]
    exact back_j1 L hL hm b ho hb k hk
theorem put_flag (s : Bool) (l : List Int) : ((putS s l).2 == 0) = rightB s l := by
  unfold putS
  cases h : rightB s l <;> simp
theorem putS_inj {s t : Bool} {x y : List Int} (hx : okL64 x) (hy : okL64 y) (h1 : rightB s x = true) (h2 : rightB t y = true) : decide (numberS s x = numberS t y) = decide (s = t ∧ x = y) := by
  rw [decide_eq_decide]
  constructor
  · intro h
    have a := num_back s x [] hx h1
    have b := num_back t y [] hy h2
    rw [List.append_nil] at a b
    rw [h, b] at a
    simp only [Option.some.injEq, Prod.mk.injEq] at a
    exact ⟨a.1.1.symm, a.1.2.symm⟩
  · rintro ⟨rfl, rfl⟩
    rfl
theorem storeBack_f (s : Bool) (x : List Int) (hx : okL64 x) (hmx : x.length < 17592186044416) (t : Bool) (y : List Int) (hy : okL64 y) (hmy : y.length < 17592186044416) (L : List S61) (hL : ∀ c ∈ L, okCert c) (hm : L.length ≤ 9223372036854775807) (b : List Int) (ho : okB b) (hb : b.length ≤ 140737488351232) : ∃ k, rosettelaw30_StoreBack.f k s x t y L b = some true := by
  obtain ⟨K, hK⟩ : ∃ K, K = 17592186044416 := ⟨_, rfl⟩
  refine ⟨K + 4, ?_⟩
  have hj := back_j0 L hL hm b ho hb s x hx K (by omega)
  have f1 := put_flag s x
  have f2 := put_flag t y
  unfold rosettelaw30_StoreBack.f
  simp only [rosettelaw30_awake.f, Option.bind_some, if_true]
  rw [put_f s x hx (by omega) _ (by omega), Option.bind_some, put_f t y hy (by omega) _ (by omega), Option.bind_some, rightP_f s x (by omega), Option.bind_some]
  rw [if_neg (by rw [f1]; simp), rightP_f t y (by omega), Option.bind_some, if_neg (by rw [f2]; simp)]
  by_cases h1 : (putS s x).2 = 0
  · rw [if_pos h1]
    by_cases h2 : (putS t y).2 = 0
    · rw [if_pos h2]
      have r1 : rightB s x = true := by rw [← f1]; simp [h1]
      have r2 : rightB t y = true := by rw [← f2]; simp [h2]
      have l1 := numberS_len r1
      have e1 : (putS s x).1 = numberS s x := by rw [putS_right r1]
      have e2 : (putS t y).1 = numberS t y := by rw [putS_right r2]
      have hsb := sameBytes_f (putS s x).1 (putS t y).1 (by rw [e1]; omega) (K + 4) (by rw [e1]; omega)
      rw [hsb, Option.bind_some, sameInt_f s t x y (by omega) _ (by omega), Option.bind_some, e1, e2, putS_inj hx hy r1 r2, bne_self_eq_false, ← e1]
      exact hj
    · rw [if_neg h2]
      exact hj
  · rw [if_neg h1]
    exact hj
theorem storeBack_c (s : Bool) (A0 : Option Addr) (n0 : Nat) (l0 : List Int) (hc0 : l0.length ≤ n0) (ho0 : okL64 l0) (hm0 : l0.length < 17592186044416) (t : Bool) (A1 : Option Addr) (n1 : Nat) (l1 : List Int) (hc1 : l1.length ≤ n1) (ho1 : okL64 l1) (hm1 : l1.length < 17592186044416) (A2 : Option Addr) (n2 : Nat) (l2 : List S61) (hc2 : l2.length ≤ n2) (hm2 : l2.length ≤ 9223372036854775807) (ho2 : ∀ c ∈ l2, okCert c) (A3 : Option Addr) (n3 : Nat) (l3 : List Int) (hc3 : l3.length ≤ n3) (ho3 : okB l3) (hm3 : l3.length ≤ 140737488351232) (w : World) (hr0 : Kd.C (Kd.int .u64) w A0 l0.length l0) (hr1 : Kd.C (Kd.int .u64) w A1 l1.length l1) (hr2 : Kd.C k61 w A2 l2.length l2) (hr3 : Kd.C (Kd.int .u8) w A3 l3.length l3) :
    Calls Try.prog 8 #[.agg #[.bool s, .slice A0 l0.length n0], .agg #[.bool t, .slice A1 l1.length n1], .slice A2 l2.length n2, .slice A3 l3.length n3] w fun e w' => e = .returned (.bool true) ∧ Below w.heap.size w w' := by
  obtain ⟨k, hk⟩ := storeBack_f s l0 ho0 hm0 t l1 ho1 hm1 l2 ho2 hm2 l3 ho3 hm3
  exact rosettelaw30_StoreBack.calls k s A0 n0 l0 t A1 n1 l1 A2 n2 l2 A3 n3 l3 true w hr0 hc0 hr1 hc1 hr2 hc2 hr3 hc3 hk
end Go.Proofs.Ytoheamfnddfgkaa.St
