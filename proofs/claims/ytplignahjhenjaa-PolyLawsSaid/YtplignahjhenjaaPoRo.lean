/- poly: how a list of whole numbers reads, as an argument of a law. -/
import Derived.Test.YtplignahjhenjaaLbRo
import Derived.Test.YtplignahjhenjaaPoTa
namespace Go.Proofs.Ytplignahjhenjaa.Lb
open Go.ChangeShapes Go.WideShapes Go.ChangeAt Go.RowKit Go.Deep Go.Proofs.YtplignahjhenjaaW.PrintWords
set_option linter.unusedVariables false
set_option linter.unusedSimpArgs false

section
variable {H : Type} {enc : TypeId × Value → H} {P : Program} {W : World} {base : Nat} {held : Bool}
theorem ints_C2 {t te : TypeId} {fuel : Nat} {cs : List Value} {x : DataW H × List MemPlace} (h1 : P.underlying t = some (.slice te)) (he : P.underlying te = some (.int .u64)) (hc : P.cellsOf te = 1) (hB : P.bytesOf te = 8) (hw0 : ∀ n ∈ x.1.weights P t, n ≤ reachBytes) (h : DataW.trod enc P W base (fun _ => true) held fuel t cs = some x) :
    ∃ (A : Option Addr) (n : Nat) (l : List Int), cs = [.slice A l.length n] ∧ l.length ≤ n ∧ okL l ∧ l.length < 17592186044416 ∧ (Kd.int .u64).C W A l.length l := by
  rcases open_ints h1 he hc h with ⟨hcs, hx⟩ | ⟨a, len, cap, zs, hcs, _, hl, hm, hz, hx, hcell, hw⟩
  · exact ⟨none, 0, [], hcs, Nat.le_refl _, okL_nil, by simp, Kd.C_nil _ _⟩
  · have hz : zs.length = cap := by simpa using hz
    have hlen : (zs.take len).length = len := by rw [List.length_take]; omega
    have hok : okL zs := fun n hn => by
      have := hw n hn
      simp [Lit.wf] at this
      have e0 : IntKind.u64.min = 0 := by decide
      have e1 : IntKind.u64.max = 18446744073709551615 := by decide
      omega
    subst hx
    have hb := hw0 (((lits (H := H) .u64 (zs.take len)).length + (lits (H := H) .u64 (zs.drop len)).length) * P.bytesOf te) (by simp [DataW.weights, h1])
    have hsum : (lits (H := H) .u64 (zs.take len)).length + (lits (H := H) .u64 (zs.drop len)).length = zs.length := by
      simp [lits]; omega
    rw [hsum, hB] at hb
    have hr : reachBytes = 140737488351232 := rfl
    refine ⟨some a, cap, zs.take len, by rw [hlen]; exact hcs, by rw [hlen]; exact hl, okL_take hok len, by rw [hlen]; omega, Kd.C_of_reads (enc := fun x => .int .u64 x) (d := (0 : Int)) (h1 := fun _ => rfl) ⟨rfl, by rw [hlen]; unfold maxLen at hm; omega, fun hp => ⟨a, rfl, fun i hi => ?_⟩⟩⟩
    rw [hcell i (by omega)]
    congr 2
    rw [hlen] at hi
    simp [List.getD_eq_getElem?_getD, List.getElem?_take, hi]
set_option maxRecDepth 100000 in
theorem open_num {n : Nat} {cs : List Value} {x : DataW H × List MemPlace} (hw0 : ∀ n ∈ x.1.weights Try.prog 25, n ≤ reachBytes) (h : DataW.trod enc Try.prog W base (fun _ => true) held n 25 cs = some x) :
    ∃ (c : PB.S25), okc c ∧ PB.k25.K W c cs := by
  obtain ⟨y0, y1, m, hx, hl, h0, h1⟩ := trod_struct2 Try.underlying25 h
  subst hx
  have hl2 : cs.length = 2 := hl.trans (by kernel_rfl)
  obtain ⟨a, b, rfl⟩ : ∃ a b, cs = [a, b] := by
    match cs, hl2 with
    | [a, b], _ => exact ⟨a, b, rfl⟩
  have e4 : Try.prog.cellsOf 4 = 1 := by kernel_rfl
  have e22 : Try.prog.cellsOf 23 = 1 := by kernel_rfl
  simp only [e4, e22, List.drop_zero, List.drop_succ_cons, List.take_succ_cons, List.take_zero, List.take_nil] at h0 h1
  obtain ⟨s, hs, _⟩ := DataW.trod_bool Try.underlying4 h0
  obtain ⟨A, c, l, hv, hc, ho, hm, hC⟩ := ints_C2 Try.underlying23 Try.underlying50 (by kernel_rfl) (by kernel_rfl) (fun k hk => hw0 k (by
    simp only [DataW.weights, Try.underlying25, List.map_cons, List.map_nil, DataW.weightsEach]
    exact List.mem_append_right _ (List.mem_append_left _ hk))) h1
  simp only [List.cons.injEq, and_true] at hs hv
  subst hs hv
  exact ⟨⟨s, l⟩, ⟨ho, hm⟩, PB.k25_mk W ⟨s, l⟩ hc hC⟩
theorem pick_list {α : Type} {Q : Nat → α → Prop} : ∀ (m : Nat), (∀ i, i < m → ∃ c, Q i c) → ∃ l : List α, l.length = m ∧ ∀ i c, l[i]? = some c → Q i c
  | 0, _ => ⟨[], rfl, by simp⟩
  | m + 1, h => by
    obtain ⟨l, hl, hq⟩ := pick_list m (fun i hi => h i (by omega))
    obtain ⟨c, hc⟩ := h m (by omega)
    refine ⟨l ++ [c], by simp [hl], fun i x hx => ?_⟩
    rcases Nat.lt_trichotomy i m with hi | hi | hi
    · rw [List.getElem?_append_left (by omega)] at hx
      exact hq i x hx
    · subst hi
      rw [List.getElem?_append_right (by omega), hl, Nat.sub_self] at hx
      simp at hx
      subst hx
      exact hc
    · rw [List.getElem?_eq_none (by simp; omega)] at hx
      cases hx
theorem weightsAll_mem {P : Program} {e : TypeId} : ∀ {ds : List (DataW H)} {i : Nat} {d : DataW H}, ds[i]? = some d → ∀ n ∈ d.weights P e, n ∈ DataW.weightsAll P e ds
  | d :: r, 0, d', h, n, hn => by
    obtain rfl := Option.some.inj h
    simp only [DataW.weightsAll]
    exact List.mem_append_left _ hn
  | d :: r, i + 1, d', h, n, hn => by
    simp only [DataW.weightsAll]
    exact List.mem_append_right _ (weightsAll_mem (by simpa using h) n hn)
set_option maxRecDepth 100000 in
theorem open_nums {b0 : Nat} {v : Value} {d : DataW H} {p : List MemPlace} {tys : List TypeId} {ds : List (DataW H)} {j : Nat} (hsz : (DataW.weightsEach Try.prog tys ds).all (· ≤ reachBytes) = true) (hty : tys[j]? = some 22) (hd : ds[j]? = some d) (hv : Value.okWide Try.prog W .any b0 22 v) (h : DataW.Trod enc Try.prog W base (fun _ => true) held 22 v d p) :
    ∃ (A : Option Addr) (n : Nat) (l : List PB.S25), v = .slice A l.length n ∧ l.length ≤ n ∧ l.length ≤ 9223372036854775806 ∧ (∀ c ∈ l, okc c) ∧ Kd.C PB.k25 W A l.length l := by
  have hw0 : ∀ n ∈ d.weights Try.prog 22, n ≤ reachBytes := fun n hn => by
    have := List.all_eq_true.1 hsz _ (DataW.weights_mem_each hty hd n hn)
    simpa using this
  obtain ⟨a0, len0, cap0, rfl⟩ := okWide_slice Try.underlying22 hv
  obtain ⟨fuel, hf⟩ := h
  rcases DataW.trod_slice Try.underlying22 hf with ⟨hcs, _⟩ | ⟨a, len, cap, elems, rest, n, _, hcs, hx, hb, hl, hm, hlen, hel, _, _⟩
  · simp [Value.cells] at hcs
    obtain ⟨rfl, rfl, rfl⟩ := hcs
    exact ⟨none, 0, [], rfl, Nat.le_refl _, by simp, by simp, Kd.C_nil _ _⟩
  · simp [Value.cells] at hcs
    obtain ⟨rfl, rfl, rfl⟩ := hcs
    have hd2 : d = .slice (elems.map (·.1)) (rest.map (·.1)) := congrArg Prod.fst hx
    subst hd2
    have hwe : ∀ (i : Nat) (y : DataW H × List MemPlace), elems[i]? = some y → ∀ n ∈ y.1.weights Try.prog 25, n ≤ reachBytes := fun i y hy n hn => hw0 n (by
      simp only [DataW.weights, Try.underlying22]
      exact List.mem_cons_of_mem _ (List.mem_append_left _ (weightsAll_mem (i := i) (d := y.1) (by rw [List.getElem?_map, hy]; rfl) n hn)))
    have hcap : (elems.map (·.1)).length * Try.prog.bytesOf 25 ≤ reachBytes := by
      have := hw0 (((elems.map (·.1)).length + (rest.map (·.1)).length) * Try.prog.bytesOf 25) (by simp [DataW.weights, Try.underlying22])
      exact Nat.le_trans (Nat.mul_le_mul_right _ (Nat.le_add_right _ _)) this
    have hby : Try.prog.bytesOf 25 = 32 := by kernel_rfl
    have hr : reachBytes = 140737488351232 := rfl
    rw [List.length_map, hby, hlen, hr] at hcap
    have e61 : Try.prog.cellsOf 25 = 2 := by kernel_rfl
    rw [e61] at hel
    obtain ⟨l, hll, hq⟩ := pick_list (Q := fun i c => okc c ∧ ∃ cs, W.cells? base (a.add (i * 2)) 2 = some cs ∧ PB.k25.K W c cs) len0 (fun i hi => by
      have h1 := hel i hi
      have h2 : i < elems.length := by omega
      rw [List.getElem?_eq_getElem h2, Option.bind_eq_some_iff] at h1
      obtain ⟨cs, hcs, hx⟩ := h1
      obtain ⟨c, ho, hk⟩ := open_num (hwe i elems[i] (List.getElem?_eq_getElem h2)) hx
      exact ⟨c, ho, cs, hcs, hk⟩)
    refine ⟨some a, cap0, l, by rw [hll], by omega, by rw [hll]; omega, fun c hc => ?_, ?_⟩
    · obtain ⟨i, hi⟩ := List.getElem?_of_mem hc
      exact (hq i c hi).1
    · refine ⟨rfl, by rw [hll]; omega, fun _ => ⟨a, rfl, fun j c hj => ?_⟩⟩
      obtain ⟨_, cs, hcs, hk⟩ := hq j c hj
      obtain ⟨_, hc1, hc2⟩ := World.cells?_some hcs
      refine ⟨cs, PB.k25.K_len hk, hk, fun i u hu => ?_⟩
      have hi : i < 2 := by have := (List.getElem?_eq_some_iff.1 hu).1; omega
      have e : a.add (j * PB.k25.sz + i) = (a.add (j * 2)).add i := by
        rw [show PB.k25.sz = 2 from rfl]
        unfold Addr.add
        by_cases h1 : j * 2 = 0
        · by_cases h2 : i = 0
          · simp [h1, h2]
          · simp [h1, h2]
        · by_cases h2 : i = 0
          · simp [h1, h2]
          · simp [h1, h2, Nat.add_assoc]
      rw [e, hc2 i hi]
      exact hu
end
end Go.Proofs.Ytplignahjhenjaa.Lb
