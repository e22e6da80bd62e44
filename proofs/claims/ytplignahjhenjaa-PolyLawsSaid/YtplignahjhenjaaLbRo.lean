/- limb: how the arguments of a law read: a struct of a bool and a row of words. -/
import Derived.Test.YtplignahjhenjaaRows
import Derived.SizedLaws
import Derived.ChangeSlices
import Derived.Test.YtplignahjhenjaaLbM
import Derived.Test.YtplignahjhenjaaWAll
import Derived.Lib.SmallJoins
import Derived.ProofKit
import Derived.OpenShut
import Derived.ChangeOld
import Derived.Below
namespace Go.Proofs.Ytplignahjhenjaa.Lb
open Go.ChangeShapes Go.WideShapes Go.ChangeAt Go.RowKit Go.Deep Go.Proofs.YtplignahjhenjaaW.PrintWords
set_option linter.unusedVariables false
set_option linter.unusedSimpArgs false

section
variable {H : Type} {enc : TypeId × Value → H} {P : Program} {W : World} {base : Nat} {held : Bool}
/-- What lies in a struct weighs no more than may be read. -/
theorem sized_agg {ts : List TypeId} {ds : List (DataW H)} {j : Nat} {t : TypeId} {parts : List (DataW H)} {fs : Array Field} (h : (DataW.weightsEach P ts ds).all (· ≤ reachBytes) = true) (ht : ts[j]? = some t) (hd : ds[j]? = some (.agg parts)) (hu : P.underlying t = some (.struct fs)) :
    (DataW.weightsEach P (fs.toList.map (·.type)) parts).all (· ≤ reachBytes) = true := by
  rw [List.all_eq_true] at h ⊢
  intro n hn
  exact h n (DataW.weights_mem_each ht hd n (by simpa [DataW.weights, hu] using hn))
/-- A struct of a bool and a row of words, by value. -/
theorem open_pairS {b0 : Nat} {t te : TypeId} {f0 f1 : Field} {v : Value} {d : DataW H} {p : List MemPlace} {tys : List TypeId} {ds : List (DataW H)} {j : Nat} (hs : P.underlying t = some (.struct #[f0, f1])) (hone : oneCellFields P #[f0, f1] = true) (hC : P.cellsOf t = 2)
    (h0 : P.underlying f0.type = some .bool) (h1 : P.underlying f1.type = some (.slice te)) (he : P.underlying te = some (.int .u64)) (hc : P.cellsOf te = 1) (hB : P.bytesOf te = 8)
    (hsz : (DataW.weightsEach P tys ds).all (· ≤ reachBytes) = true) (ht : tys[j]? = some t) (hd : ds[j]? = some d)
    (hv : Value.okWide P W .any b0 t v) (h : DataW.Trod enc P W base (fun _ => true) held t v d p) :
    ∃ (s : Bool) (A : Option Addr) (n : Nat) (l : List Int), v = .agg #[.bool s, .slice A l.length n] ∧ l.length ≤ n ∧ okL l ∧ l.length ≤ 17592186043904 ∧ (Kd.int .u64).C W A l.length l := by
  obtain ⟨v0, v1, y0, y1, m, rfl, rfl, rfl, t0, t1⟩ := Joins.open_agg2 hs hone hC hv h
  obtain ⟨s, hb, _⟩ := DataW.trod_bool h0 t0
  simp at hb
  subst hb
  have hsz2 := sized_agg hsz ht hd hs
  rcases open_ints h1 he hc t1 with ⟨hcs, hx⟩ | ⟨x, len, cap, zs, hcs, _, hl, hm, hz, hx, hcell, hw⟩
  · simp at hcs
    subst hcs
    exact ⟨s, none, 0, [], rfl, Nat.le_refl _, okL_nil, by simp, Kd.C_nil _ _⟩
  · simp at hcs
    subst hcs
    have hz : zs.length = cap := by simpa using hz
    have hlen : (zs.take len).length = len := by rw [List.length_take]; omega
    have hok : okL zs := fun n hn => by
      have := hw n hn
      simp [Lit.wf] at this
      have e0 : IntKind.u64.min = 0 := by decide
      have e1 : IntKind.u64.max = 18446744073709551615 := by decide
      omega
    have hw8 := sized_slice hsz2 (j := 1) (t := f1.type) (e := te) (elems := lits .u64 (zs.take len)) (spare := lits .u64 (zs.drop len)) rfl (by rw [hx]; rfl) h1
    rw [hB] at hw8
    have hsum : (lits (H := H) .u64 (zs.take len)).length + (lits (H := H) .u64 (zs.drop len)).length = zs.length := by
      simp [lits]
      omega
    rw [hsum] at hw8
    have hr : reachBytes = 140737488351232 := rfl
    refine ⟨s, some x, cap, zs.take len, by rw [hlen], by rw [hlen]; exact hl, okL_take hok len, by rw [hlen]; omega, Kd.C_of_reads (enc := fun x => .int .u64 x) (d := (0 : Int)) (h1 := fun _ => rfl) ⟨rfl, by rw [hlen]; unfold maxLen at hm; omega, fun hp => ⟨x, rfl, fun i hi => ?_⟩⟩⟩
    rw [hcell i (by omega)]
    congr 2
    rw [hlen] at hi
    simp [List.getD_eq_getElem?_getD, List.getElem?_take, hi]
theorem open_pair {b0 : Nat} {t te : TypeId} {f0 f1 : Field} {v : Value} {d : DataW H} {p : List MemPlace} {tys : List TypeId} {ds : List (DataW H)} {j : Nat} (hs : P.underlying t = some (.struct #[f0, f1])) (hone : oneCellFields P #[f0, f1] = true) (hC : P.cellsOf t = 2)
    (h0 : P.underlying f0.type = some .bool) (h1 : P.underlying f1.type = some (.slice te)) (he : P.underlying te = some (.int .u64)) (hc : P.cellsOf te = 1) (hB : P.bytesOf te = 8)
    (hsz : (DataW.weightsEach P tys ds).all (· ≤ reachBytes) = true) (ht : tys[j]? = some t) (hd : ds[j]? = some d)
    (hv : Value.okWide P W .any b0 t v) (h : DataW.Trod enc P W base (fun _ => true) held t v d p) :
    ∃ (s : Bool) (A : Option Addr) (n : Nat) (l : List Int), v = .agg #[.bool s, .slice A l.length n] ∧ l.length ≤ n ∧ okL l ∧ l.length < 17592186044416 ∧ (Kd.int .u64).C W A l.length l := by
  obtain ⟨s, A, n, l, h1, h2, h3, h4, h5⟩ := open_pairS hs hone hC h0 h1 he hc hB hsz ht hd hv h
  exact ⟨s, A, n, l, h1, h2, h3, by omega, h5⟩
end
end Go.Proofs.Ytplignahjhenjaa.Lb
