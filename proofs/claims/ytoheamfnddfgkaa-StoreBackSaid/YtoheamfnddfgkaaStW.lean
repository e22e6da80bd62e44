/- store: how a row of certificates reads, as an argument of a law. -/
import Derived.Test.YtoheamfnddfgkaaStRo
import Derived.Test.YtoheamfnddfgkaaStCe
namespace Go.Proofs.Ytoheamfnddfgkaa.St
open Go.ChangeShapes Go.WideShapes Go.ChangeAt Go.RowKit Go.Deep Go.Proofs.YtoheamfnddfgkaaW.PrintWords
set_option linter.unusedVariables false
set_option linter.unusedSimpArgs false

section
variable {H : Type} {enc : TypeId × Value → H} {P : Program} {W : World} {base : Nat} {held : Bool}
theorem ints_C {k : IntKind} {t te : TypeId} {fuel : Nat} {cs : List Value} {x : DataW H × List MemPlace} (h1 : P.underlying t = some (.slice te)) (he : P.underlying te = some (.int k)) (hc : P.cellsOf te = 1) (h : DataW.trod enc P W base (fun _ => true) held fuel t cs = some x) :
    ∃ (A : Option Addr) (n : Nat) (l : List Int), cs = [.slice A l.length n] ∧ l.length ≤ n ∧ (∀ x ∈ l, (Lit.int k x).wf = true) ∧ (Kd.int k).C W A l.length l := by
  rcases open_ints h1 he hc h with ⟨hcs, hx⟩ | ⟨x, len, cap, zs, hcs, _, hl, hm, hz, hx, hcell, hw⟩
  · exact ⟨none, 0, [], hcs, Nat.le_refl _, by simp, Kd.C_nil _ _⟩
  · have hz : zs.length = cap := by simpa using hz
    have hlen : (zs.take len).length = len := by rw [List.length_take]; omega
    refine ⟨some x, cap, zs.take len, by rw [hlen]; exact hcs, by rw [hlen]; exact hl, fun n hn => hw n (List.mem_of_mem_take hn), Kd.C_of_reads (enc := fun x => .int k x) (d := (0 : Int)) (h1 := fun _ => rfl) ⟨rfl, by rw [hlen]; unfold maxLen at hm; omega, fun hp => ⟨x, rfl, fun i hi => ?_⟩⟩⟩
    rw [hcell i (by omega)]
    congr 2
    rw [hlen] at hi
    simp [List.getD_eq_getElem?_getD, List.getElem?_take, hi]
theorem wf_u64 {l : List Int} (h : ∀ x ∈ l, (Lit.int .u64 x).wf = true) : okL64 l := fun n hn => by
  have := h n hn
  simp [Lit.wf] at this
  have e0 : IntKind.u64.min = 0 := by decide
  have e1 : IntKind.u64.max = 18446744073709551615 := by decide
  omega
theorem wf_i64 {l : List Int} (h : ∀ x ∈ l, (Lit.int .i64 x).wf = true) : okI64 l := fun n hn => by
  have := h n hn
  simp [Lit.wf] at this
  have e0 : IntKind.i64.min = -9223372036854775808 := by decide
  have e1 : IntKind.i64.max = 9223372036854775807 := by decide
  omega
set_option maxRecDepth 100000 in
theorem open24 {n : Nat} {cs : List Value} {x : DataW H × List MemPlace} (h : DataW.trod enc Try.prog W base (fun _ => true) held n 24 cs = some x) :
    ∃ (c : PB.S24), (okL64 c.f1 ∧ c.f1.length ≤ 9223372036854775807) ∧ PB.k24.K W c cs := by
  obtain ⟨y0, y1, m, _, hl, h0, h1⟩ := trod_struct2 Try.underlying24 h
  have hl2 : cs.length = 2 := hl.trans (by kernel_rfl)
  obtain ⟨a, b, rfl⟩ : ∃ a b, cs = [a, b] := by
    match cs, hl2 with
    | [a, b], _ => exact ⟨a, b, rfl⟩
  have e4 : Try.prog.cellsOf 4 = 1 := by kernel_rfl
  have e22 : Try.prog.cellsOf 22 = 1 := by kernel_rfl
  simp only [e4, e22, List.drop_zero, List.drop_succ_cons, List.take_succ_cons, List.take_zero, List.take_nil] at h0 h1
  obtain ⟨s, hs, _⟩ := DataW.trod_bool Try.underlying4 h0
  obtain ⟨A, c, l, hv, hc, hw, hC⟩ := ints_C Try.underlying22 Try.underlying58 (by kernel_rfl) h1
  simp only [List.cons.injEq, and_true] at hs hv
  subst hs hv
  exact ⟨⟨s, l⟩, ⟨wf_u64 hw, hC.2.1⟩, PB.k24_mk W ⟨s, l⟩ hc hC⟩
theorem trod_struct4 {t : TypeId} {f0 f1 f2 f3 : Field} {spare : Nat → Bool} {fuel : Nat} {cs : List Value} {x : DataW H × List MemPlace} (ht : P.underlying t = some (.struct #[f0, f1, f2, f3])) (h : DataW.trod enc P W base spare held fuel t cs = some x) :
    ∃ y0 y1 y2 y3 n, cs.length = P.cellsOf t ∧ DataW.trod enc P W base spare held n f0.type ((cs.drop f0.offset).take (P.cellsOf f0.type)) = some y0 ∧ DataW.trod enc P W base spare held n f1.type ((cs.drop f1.offset).take (P.cellsOf f1.type)) = some y1 ∧
      DataW.trod enc P W base spare held n f2.type ((cs.drop f2.offset).take (P.cellsOf f2.type)) = some y2 ∧ DataW.trod enc P W base spare held n f3.type ((cs.drop f3.offset).take (P.cellsOf f3.type)) = some y3 := by
  obtain ⟨xs, n, _, _, hl, hlen, hf⟩ := DataW.trod_struct ht h
  match xs, hlen with
  | [y0, y1, y2, y3], _ => exact ⟨y0, y1, y2, y3, n, hl, by simpa using hf 0 f0 rfl, by simpa using hf 1 f1 rfl, by simpa using hf 2 f2 rfl, by simpa using hf 3 f3 rfl⟩
set_option maxRecDepth 100000 in
theorem open61 {n : Nat} {cs : List Value} {x : DataW H × List MemPlace} (h : DataW.trod enc Try.prog W base (fun _ => true) held n 61 cs = some x) :
    ∃ (c : PB.S61), okCert c ∧ PB.k61.K W c cs := by
  obtain ⟨y0, y1, y2, y3, m, hl, h0, h1, h2, h3⟩ := trod_struct4 Try.underlying61 h
  have hl6 : cs.length = 6 := hl.trans (by kernel_rfl)
  obtain ⟨a0, a1, a2, a3, a4, a5, rfl⟩ : ∃ a0 a1 a2 a3 a4 a5, cs = [a0, a1, a2, a3, a4, a5] := by
    match cs, hl6 with
    | [a0, a1, a2, a3, a4, a5], _ => exact ⟨a0, a1, a2, a3, a4, a5, rfl⟩
  have e24 : Try.prog.cellsOf 24 = 2 := by kernel_rfl
  have e59 : Try.prog.cellsOf 59 = 1 := by kernel_rfl
  simp only [e24, e59, List.drop_zero, List.drop_succ_cons, List.take_succ_cons, List.take_zero, List.take_nil] at h0 h1 h2 h3
  obtain ⟨c0, o0, k0⟩ := open24 h0
  obtain ⟨c1, o1, k1⟩ := open24 h1
  obtain ⟨A1, n1, q1, l1, g1⟩ := PB.k24_open k0
  obtain ⟨A3, n3, q3, l3, g3⟩ := PB.k24_open k1
  obtain ⟨A4, n4, x4, hv4, hc4, hw4, hC4⟩ := ints_C Try.underlying59 Try.underlying3 (by kernel_rfl) h2
  obtain ⟨A5, n5, x5, hv5, hc5, hw5, hC5⟩ := ints_C Try.underlying59 Try.underlying3 (by kernel_rfl) h3
  simp only [List.cons.injEq, and_true] at q1 q3 hv4 hv5
  obtain ⟨rfl, rfl⟩ := q1
  obtain ⟨rfl, rfl⟩ := q3
  subst hv4 hv5
  exact ⟨⟨c0, c1, x4, x5⟩, ⟨o0, o1, ⟨wf_i64 hw4, hC4.2.1⟩, ⟨wf_i64 hw5, hC5.2.1⟩⟩, PB.k61_mk W ⟨c0, c1, x4, x5⟩ l1 g1 l3 g3 hc4 hC4 hc5 hC5⟩
/-- Elements, each of which reads, are a list that reads. -/
theorem pick_list {α : Type} {Q : Nat → α → Prop} : ∀ (m : Nat), (∀ i, i < m → ∃ c, Q i c) → ∃ l : List α, l.length = m ∧ ∀ i c, l[i]? = some c → Q i c
  | 0, _ => ⟨[], rfl, by simp⟩
  | m + 1, h => by
    obtain ⟨l, hl, hq⟩ := pick_list m (fun i hi => h i (by omega))
    obtain ⟨c, hc⟩ := h m (by omega)
    refine ⟨l ++ [c], by simp [hl], fun i x hx => ?_⟩
    rcases Nat.lt_trichotomy i m with hi | hi | hi
    · rw [List.getElem?_append_left (by omega)] at hx
      exact hq i x hx
    · subst hi
      rw [List.getElem?_append_right (by omega), hl, Nat.sub_self] at hx
      simp at hx
      subst hx
      exact hc
    · rw [List.getElem?_eq_none (by simp; omega)] at hx
      cases hx
set_option maxRecDepth 100000 in
theorem open_certs {b0 : Nat} {v : Value} {d : DataW H} {p : List MemPlace} (hv : Value.okWide Try.prog W .any b0 35 v) (h : DataW.Trod enc Try.prog W base (fun _ => true) held 35 v d p) :
    ∃ (A : Option Addr) (n : Nat) (l : List PB.S61), v = .slice A l.length n ∧ l.length ≤ n ∧ l.length ≤ 9223372036854775807 ∧ (∀ c ∈ l, okCert c) ∧ PB.k61.C W A l.length l := by
  obtain ⟨a0, len0, cap0, rfl⟩ := okWide_slice Try.underlying35 hv
  obtain ⟨fuel, hf⟩ := h
  rcases DataW.trod_slice Try.underlying35 hf with ⟨hcs, _⟩ | ⟨a, len, cap, elems, rest, n, _, hcs, _, hb, hl, hm, hlen, hel, _, _⟩
  · simp [Value.cells] at hcs
    obtain ⟨rfl, rfl, rfl⟩ := hcs
    exact ⟨none, 0, [], rfl, Nat.le_refl _, by simp, by simp, Kd.C_nil _ _⟩
  · simp [Value.cells] at hcs
    obtain ⟨rfl, rfl, rfl⟩ := hcs
    have e61 : Try.prog.cellsOf 61 = 6 := by kernel_rfl
    rw [e61] at hel
    obtain ⟨l, hll, hq⟩ := pick_list (Q := fun i c => okCert c ∧ ∃ cs, W.cells? base (a.add (i * 6)) 6 = some cs ∧ PB.k61.K W c cs) len0 (fun i hi => by
      have h1 := hel i hi
      have h2 : i < elems.length := by omega
      rw [List.getElem?_eq_getElem h2, Option.bind_eq_some_iff] at h1
      obtain ⟨cs, hcs, hx⟩ := h1
      obtain ⟨c, ho, hk⟩ := open61 hx
      exact ⟨c, ho, cs, hcs, hk⟩)
    refine ⟨some a, cap0, l, by rw [hll], by omega, by rw [hll]; unfold maxLen at hm; omega, fun c hc => ?_, ?_⟩
    · obtain ⟨i, hi⟩ := List.getElem?_of_mem hc
      exact (hq i c hi).1
    · refine ⟨rfl, by rw [hll]; unfold maxLen at hm; omega, fun _ => ⟨a, rfl, fun j c hj => ?_⟩⟩
      obtain ⟨_, cs, hcs, hk⟩ := hq j c hj
      obtain ⟨_, hc1, hc2⟩ := World.cells?_some hcs
      refine ⟨cs, PB.k61.K_len hk, hk, fun i u hu => ?_⟩
      have hi : i < 6 := by have := (List.getElem?_eq_some_iff.1 hu).1; omega
      have e : a.add (j * PB.k61.sz + i) = (a.add (j * 6)).add i := by
        rw [show PB.k61.sz = 6 from rfl]
        unfold Addr.add
        by_cases h1 : j * 6 = 0
        · by_cases h2 : i = 0
          · simp [h1, h2]
          · simp [h1, h2]
        · by_cases h2 : i = 0
          · simp [h1, h2]
          · simp [h1, h2, Nat.add_assoc]
      rw [e, hc2 i hi]
      exact hu
end
end Go.Proofs.Ytoheamfnddfgkaa.St
