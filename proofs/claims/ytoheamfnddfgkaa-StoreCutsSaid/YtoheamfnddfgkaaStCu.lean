/- store: StoreCuts, plain. -/
import Derived.Test.YtoheamfnddfgkaaStCo
namespace Go.Proofs.Ytoheamfnddfgkaa.St
open Go.RowKit Go.Proofs.YtoheamfnddfgkaaW.PrintWords Go.Proofs.Ytoheamfnddfgkaa.PB
set_option linter.unusedVariables false
set_option linter.unusedSimpArgs false

theorem pick_le (a : Int) (n : Nat) (h : 0 < n) (hn : n ≤ 4611686018427387904) : ∃ t : Nat, rosettekit_Pick.f a (n : Int) = some (t : Int) ∧ t < n := by
  unfold rosettekit_Pick.f
  rw [if_neg (by omega), if_neg (by omega)]
  have h1 := Int.tmod_lt_of_pos a (show (0 : Int) < (n : Int) by omega)
  have h2 : -(n : Int) < Int.tmod a n := by
    have := Int.tmod_lt_of_pos (-a) (show (0 : Int) < (n : Int) by omega)
    rw [Int.neg_tmod] at this
    omega
  by_cases h3 : Int.tmod a n < 0
  · rw [if_pos h3, wr (by omega) (by omega)]
    exact ⟨(Int.tmod a n + n).toNat, by congr 1; omega, by omega⟩
  · rw [if_neg h3]
    exact ⟨(Int.tmod a n).toNat, by congr 1; omega, by omega⟩
/-- No beginning of a number's bytes is a number's. -/
theorem cut_number {s : Bool} {l : List Int} (hl : okL64 l) (hr : rightB s l = true) (t : Nat) (ht : t < (numberS s l).length) : getS ((numberS s l).take t) = (false, [], 0, 400) := by
  cases h : numS ((numberS s l).take t) with
  | none => unfold getS; rw [h]
  | some p =>
    obtain ⟨r, k⟩ := p
    have hk := (numS_len h).2
    have he := numS_ext (m := (numberS s l).drop t) h
    rw [List.take_append_drop] at he
    have hb := num_back s l [] hl hr
    rw [List.append_nil, he] at hb
    simp only [Option.some.injEq, Prod.mk.injEq] at hb
    rw [List.length_take] at hk
    omega
/-- No beginning of certificates' bytes is certificates'. -/
theorem cut_certs {l : List S61} (hl : ∀ c ∈ l, okCert c) (h : (certsT l).2 = 0) (t : Nat) (ht : t < (certsT l).1.length) : ∃ e, readS ((certsT l).1.take t) = .error e ∧ e ≤ t := by
  cases hr : readS ((certsT l).1.take t) with
  | error e =>
    have := read_place hr
    rw [List.length_take] at this
    exact ⟨e, rfl, by omega⟩
  | ok cs =>
    exfalso
    obtain ⟨b1, b2, b3⟩ := read_back hl h []
    rw [List.append_nil] at b1 b2
    unfold readS at hr
    cases h1 : groupsS 64 ((certsT l).1.take t) with
    | none => simp [h1] at hr
    | some p =>
      obtain ⟨q, k⟩ := p
      have lk := (gr_len h1).2.1
      have e1 := groups_ext (m := (certsT l).1.drop t) h1
      rw [List.take_append_drop, b1] at e1
      simp only [Option.some.injEq, Prod.mk.injEq] at e1
      obtain ⟨rfl, rfl⟩ := e1
      cases h2 : certsS ((l.length : Int)).toNat (((certsT l).1.take t).drop (grpS l.length).length) with
      | error e => simp only [h1, h2] at hr; cases hr
      | ok p =>
        obtain ⟨cs2, k2⟩ := p
        have e2 := certs_ext ((certsT l).1.drop t) _ _ h2
        rw [← drop_ext (by omega), List.take_append_drop, Int.toNat_natCast, b2] at e2
        injection e2 with e2
        simp only [Prod.mk.injEq] at e2
        simp only [h1, h2] at hr
        have lc := certs_len _ _ h2
        rw [List.length_drop] at lc
        simp only [List.length_take] at lc lk hr
        split at hr
        · cases hr
        · omega
theorem more_certs {l : List S61} (hl : ∀ c ∈ l, okCert c) (h : (certsT l).2 = 0) (m : List Int) (hm : m ≠ []) : readS ((certsT l).1 ++ m) = .error (certsT l).1.length := by
  obtain ⟨b1, b2, b3⟩ := read_back hl h m
  unfold readS
  rw [b1]
  simp only [Int.toNat_natCast]
  rw [b2]
  simp only
  have : 0 < m.length := List.length_pos_iff.2 hm
  rw [if_pos (by rw [List.length_append]; omega), b3]
theorem cuts_j1 (l : List S61) (hl : ∀ c ∈ l, okCert c) (h : (certsT l).2 = 0) (m : List Int) (ho : okB m) (hm : m.length ≤ 140737488351232) (k : Nat) : rosettelaw30_StoreCuts.j1 (k + 1) m (certsT l).1 false = some true := by
  have hb := certsT_len l
  rw [rosettelaw30_StoreCuts.j1, if_neg (by simp)]
  by_cases h0 : (m.length : Int) = 0
  · rw [if_pos h0]
  · rw [if_neg h0]
    have hne : m ≠ [] := fun e => h0 (by rw [e]; rfl)
    unfold rosettekit_CopyBytes.f
    rw [if_pos (by simp; omega)]
    simp only [Option.bind_some, List.nil_append]
    rw [if_pos (by omega), read_f _ (okB_app (okB_certs l h) ho) (by rw [List.length_append]; omega), readG_err (more_certs hl h m hne)]
    simp
theorem cuts_j0 (l : List S61) (hl : ∀ c ∈ l, okCert c) (hm1 : l.length ≤ 9223372036854775807) (a : Int) (m : List Int) (ho : okB m) (hm : m.length ≤ 140737488351232) (k : Nat) (hk : 50000 ≤ k) : rosettelaw30_StoreCuts.j0 (k + 2) l a m = some true := by
  have hb := certsT_len l
  rw [rosettelaw30_StoreCuts.j0, certs_f l hl hm1 _ (by omega)]
  simp only [Option.bind_some]
  by_cases h : (certsT l).2 = 0
  · rw [if_pos h]
    have hpos : 0 < (certsT l).1.length := by
      rw [(certsT_ok h).2.2]
      have := grpS_pos l.length
      simp only [List.length_append]
      omega
    obtain ⟨t, ht, hlt⟩ := pick_le a (certsT l).1.length hpos (by omega)
    rw [ht]
    simp only [Option.bind_some]
    rw [if_pos (by omega), if_pos (by omega)]
    simp only [Int.toNat_natCast]
    obtain ⟨e, he, hle⟩ := cut_certs hl h t hlt
    rw [read_f _ (okB_take (okB_certs l h) t) (by rw [List.length_take]; omega), readG_err he]
    simp only [Option.bind_some, if_true, List.map_nil, List.length_nil]
    rw [if_neg (by omega), decide_eq_false (show ¬ ((e : Int) > (t : Int)) by omega)]
    exact cuts_j1 l hl h m ho hm k
  · rw [if_neg h, certsT_err h]
    simp
theorem storeCuts_f (s : Bool) (l0 : List Int) (hl0 : okL64 l0) (hm0 : l0.length < 17592186044416) (l : List S61) (hl : ∀ c ∈ l, okCert c) (hm1 : l.length ≤ 9223372036854775807) (a : Int) (m : List Int) (ho : okB m) (hm : m.length ≤ 140737488351232) : rosettelaw30_StoreCuts.f 60002 s l0 l a m = some true := by
  unfold rosettelaw30_StoreCuts.f
  simp only [rosettelaw30_awake.f, Option.bind_some, if_true]
  rw [put_f s l0 hl0 (by omega) _ (by decide)]
  simp only [Option.bind_some]
  have hj := cuts_j0 l hl hm1 a m ho hm 60000 (by decide)
  unfold putS
  by_cases h : rightB s l0 = true
  · rw [if_pos h]
    simp only [if_true]
    have hlen := numberS_len h
    have hpos : 0 < (numberS s l0).length := by
      have := grpS_pos (2 * l0.length + s.toNat)
      simp only [numberS, List.length_append]
      omega
    obtain ⟨t, ht, hlt⟩ := pick_le a (numberS s l0).length hpos (by omega)
    rw [ht]
    simp only [Option.bind_some]
    rw [if_pos (by omega), if_pos (by omega)]
    simp only [Int.toNat_natCast]
    rw [get_f _ (okB_take (okB_number s l0) t) (by rw [List.length_take]; omega), cut_number hl0 h t hlt]
    simp only [Option.bind_some, if_true, List.length_nil]
    rw [if_neg (by omega), if_neg (by simp)]
    exact hj
  · rw [if_neg h]
    simp only
    rw [if_neg (by decide)]
    exact hj
theorem storeCuts_c (s : Bool) (A0 : Option Addr) (n0 : Nat) (l0 : List Int) (hc0 : l0.length ≤ n0) (ho0 : okL64 l0) (hm0 : l0.length < 17592186044416) (A1 : Option Addr) (n1 : Nat) (l1 : List S61) (hc1 : l1.length ≤ n1) (hm1 : l1.length ≤ 9223372036854775807) (ho1 : ∀ c ∈ l1, okCert c) (a2 : Int) (A3 : Option Addr) (n3 : Nat) (l3 : List Int) (hc3 : l3.length ≤ n3) (ho3 : okB l3) (hm3 : l3.length ≤ 140737488351232) (w : World) (hr0 : Kd.C (Kd.int .u64) w A0 l0.length l0) (hr1 : Kd.C k61 w A1 l1.length l1) (ha2 : -9223372036854775808 ≤ a2 ∧ a2 ≤ 9223372036854775807) (hr3 : Kd.C (Kd.int .u8) w A3 l3.length l3) :
    Calls Try.prog 9 #[.agg #[.bool s, .slice A0 l0.length n0], .slice A1 l1.length n1, .int .i64 a2, .slice A3 l3.length n3] w fun e w' => e = .returned (.bool true) ∧ Below w.heap.size w w' :=
  rosettelaw30_StoreCuts.calls 60002 s A0 n0 l0 A1 n1 l1 a2 A3 n3 l3 true w hr0 hc0 hr1 hc1 hr3 hc3 (storeCuts_f s l0 ho0 hm0 l1 ho1 hm1 a2 l3 ho3 hm3)
end Go.Proofs.Ytoheamfnddfgkaa.St
