/- poly: the kit's functions over lists of integers: row, SameInt, SameWholes, tame, number. -/
import Derived.Test.YtplignahjhenjaaPBx2
import Derived.Test.YtplignahjhenjaaPoLi
namespace Go.Proofs.Ytplignahjhenjaa.Lb
open Go.RowKit Go.Proofs.YtplignahjhenjaaW.PrintWords Go.Proofs.YtplignahjhenjaaW.PrintLast Go.Proofs.YtplignahjhenjaaW.PrintMore
open Go.Proofs.Ytplignahjhenjaa.Po (trm trm_of_tight tight_trm trm_len tight_iff ev)
set_option linter.unusedVariables false
set_option linter.unusedSimpArgs false

def sv (z : Int) : PB.S25 := ⟨sg z, lm z⟩
theorem rd_sv {zs : List Int} {j : Nat} (hj : j < zs.length) : PB.rd_T25 (zs.map sv) (j : Int) = sv (zs.getD j 0) := by
  unfold PB.rd_T25
  rw [Int.toNat_natCast, List.getD_eq_getElem?_getD, List.getElem?_map, List.getD_eq_getElem?_getD, List.getElem?_eq_getElem hj]
  rfl
theorem PL_of_C {w : World} {A : Option Addr} {zs : List Int} {n : Nat} (h : Kd.C PB.k25 w A n (zs.map sv)) (hs : zs.length ≤ 4611686018427387904) : PL w A zs := ⟨hs, fun j hj => by
  have hn : (zs.map sv).length = n := h.1
  rw [List.length_map] at hn
  obtain ⟨ad, B, c, e, h1, h2, h3, h4⟩ := PB.at_T25 h (j : Int) (by omega) (by omega)
  rw [rd_sv hj] at h1 h2 h3 h4
  rw [Int.toNat_natCast] at h1 h2
  exact ⟨ad, e, B, c, h1, h2, h3, h4⟩⟩
theorem C_of_PL {w : World} {A : Option Addr} {zs : List Int} (h : PL w A zs) : Kd.C PB.k25 w A zs.length (zs.map sv) := ⟨by simp, by have := h.small; omega, fun hn => by
  obtain ⟨ad, e, _⟩ := h.at_ 0 hn
  refine ⟨ad, e, fun j p hj => ?_⟩
  have hjl : j < zs.length := by have := (List.getElem?_eq_some_iff.1 hj).1; rwa [List.length_map] at this
  have hp : p = sv (zs.getD j 0) := by
    rw [List.getElem?_map, List.getElem?_eq_getElem hjl] at hj
    rw [List.getD_eq_getElem?_getD, List.getElem?_eq_getElem hjl]
    exact (Option.some.inj hj).symm
  obtain ⟨ad', e', B, c, h1, h2, h3⟩ := h.at_ j hjl
  obtain rfl : ad = ad' := by rw [e] at e'; exact Option.some.inj e'
  subst hp
  refine ⟨[.bool (sg (zs.getD j 0)), .slice B (lm (zs.getD j 0)).length c], rfl, PB.k25_mk w (sv (zs.getD j 0)) h3.cap h3.reads, fun i u hu => ?_⟩
  match i, hu with
  | 0, hu =>
    obtain rfl := Option.some.inj hu
    exact h1
  | 1, hu =>
    obtain rfl := Option.some.inj hu
    show w.cell? (ad.add (j * 2 + 1)) = _
    rw [add_one]
    exact h2
  | i + 2, hu => cases hu⟩
/-! ### row -/
theorem row_l0 (zs : List Int) (hz : ∀ z ∈ zs, -9223372036854775808 ≤ z ∧ z ≤ 9223372036854775807) (hs : zs.length ≤ 1000) : ∀ (d k i : Nat), i + d = zs.length → d < k → PB.rosettelaw23_row.l0 k zs ((zs.take i).map sv) (i : Int) = some (zs.map sv)
  | 0, k, i, h, hk => by
    obtain ⟨k, rfl⟩ : ∃ m, k = m + 1 := ⟨k - 1, by omega⟩
    rw [PB.rosettelaw23_row.l0, if_neg (by omega), List.take_of_length_le (by omega)]
  | d + 1, k, i, h, hk => by
    obtain ⟨k, rfl⟩ : ∃ m, k = m + 1 := ⟨k - 1, by omega⟩
    have hil : i < zs.length := by omega
    have ih := row_l0 zs hz hs d k (i + 1) (by omega) (by omega)
    have hr : rd zs (i : Int) = zs[i] := by simp [rd, List.getD_eq_getElem?_getD, List.getElem?_eq_getElem hil]
    have hb := hz _ (List.getElem_mem hil)
    have hf : PB.rosettelaw23_of.f (rd zs (i : Int)) = some (sg zs[i], lm zs[i]) := by
      rw [hr]; unfold PB.rosettelaw23_of.f; rw [if_pos hb]
    have hl : ((zs.take i).map sv).length < 4398046511104 := by rw [List.length_map, List.length_take]; omega
    have hw : wrap64 ((i : Int) + 1) = ((i + 1 : Nat) : Int) := by unfold wrap64; omega
    rw [PB.rosettelaw23_row.l0, if_pos (by omega), if_pos (by omega), hf, Option.bind_some]
    show (if ((zs.take i).map sv).length < 4398046511104 then _ else none) = _
    rw [if_pos hl, hw]
    have e : (zs.take i).map sv ++ [(⟨sg zs[i], lm zs[i]⟩ : PB.S25)] = (zs.take (i + 1)).map sv := by
      rw [List.take_succ_eq_append_getElem hil, List.map_append]; rfl
    rw [e]
    exact ih
theorem row_z (zs : List Int) (hz : ∀ z ∈ zs, -9223372036854775808 ≤ z ∧ z ≤ 9223372036854775807) (hs : zs.length ≤ 1000) (A : Option Addr) (n c : Nat) (hn : zs.length = n) (hc : n ≤ c) (w : World) (r : Kd.C (Kd.int .i64) w A n zs) :
    Calls Try.prog 26 #[.slice A n c] w (OutL w zs) := by
  subst hn
  refine (PB.rosettelaw23_row.calls (zs.length + 1) A c zs (zs.map sv) w r hc ?_).mono fun e w' ⟨v, he, hS, hB⟩ => ?_
  · exact row_l0 zs hz hs zs.length _ 0 (by omega) (by omega)
  · obtain ⟨A', c', rfl, h1, h2⟩ := Kd.S_reads hS
    rw [List.length_map] at he h1 h2
    exact ⟨A', c', he, h1, ⟨PL_of_C h2 (by omega)⟩, ⟨hB⟩⟩
/-! ### sameness -/
theorem limbs_l0 (l : List Int) (hs : l.length ≤ 9223372036854775806) : ∀ (d k i : Nat), i + d = l.length → d < k → PB.rosettekit_SameLimbs.l0 k l l (i : Int) = some true
  | 0, k, i, h, hk => by
    obtain ⟨k, rfl⟩ : ∃ m, k = m + 1 := ⟨k - 1, by omega⟩
    rw [PB.rosettekit_SameLimbs.l0, if_neg (by omega)]
  | d + 1, k, i, h, hk => by
    obtain ⟨k, rfl⟩ : ∃ m, k = m + 1 := ⟨k - 1, by omega⟩
    have ih := limbs_l0 l hs d k (i + 1) (by omega) (by omega)
    have hw : wrap64 ((i : Int) + 1) = ((i + 1 : Nat) : Int) := by unfold wrap64; omega
    rw [PB.rosettekit_SameLimbs.l0, if_pos (by omega), if_pos (by omega), if_pos (by omega), if_pos rfl, hw]
    exact ih
theorem sameInt_f (z : Int) (hz : lim 4096 z) (k : Nat) (hk : 4096 < k) : PB.rosettekit_SameInt.f k (sg z) (lm z) (sg z) (lm z) = some true := by
  have hl := lm_len hz
  unfold PB.rosettekit_SameInt.f PB.rosettekit_SameLimbs.f
  rw [if_pos (by simp), if_pos rfl]
  have := limbs_l0 (lm z) (by omega) (lm z).length k 0 (by omega) (by omega)
  rw [show ((0 : Nat) : Int) = 0 from rfl] at this
  rw [this]; rfl
theorem sameInt_z (z : Int) (hz : lim 4096 z) (A1 A2 : Option Addr) (c1 c2 : Nat) (w : World) (r1 : RV w A1 c1 z) (r2 : RV w A2 c2 z) :
    Calls Try.prog 20 #[.agg #[.bool (sg z), .slice A1 (lm z).length c1], .agg #[.bool (sg z), .slice A2 (lm z).length c2]] w (OutP w (.bool true)) :=
  (PB.rosettekit_SameInt.calls 4097 (sg z) A1 c1 (lm z) (sg z) A2 c2 (lm z) true w r1.reads r1.cap r2.reads r2.cap (sameInt_f z hz 4097 (by omega))).mono fun e w' h => ⟨h.1, ⟨h.2⟩⟩
theorem same_l0 (zs : List Int) (hz : ∀ z ∈ zs, lim 4096 z) (hs : zs.length ≤ 10000) : ∀ (d k i : Nat), i + d = zs.length → d + 4097 < k → PB.rosettekit_SameWholes.l0 k (zs.map sv) (zs.map sv) (i : Int) = some true
  | 0, k, i, h, hk => by
    obtain ⟨k, rfl⟩ : ∃ m, k = m + 1 := ⟨k - 1, by omega⟩
    rw [PB.rosettekit_SameWholes.l0, if_neg (by rw [List.length_map]; omega)]
  | d + 1, k, i, h, hk => by
    obtain ⟨k, rfl⟩ : ∃ m, k = m + 1 := ⟨k - 1, by omega⟩
    have hil : i < zs.length := by omega
    have ih := same_l0 zs hz hs d k (i + 1) (by omega) (by omega)
    have hw : wrap64 ((i : Int) + 1) = ((i + 1 : Nat) : Int) := by unfold wrap64; omega
    have hf := sameInt_f (zs.getD i 0) (by
      rw [List.getD_eq_getElem?_getD, List.getElem?_eq_getElem hil]; exact hz _ (List.getElem_mem hil)) k (by omega)
    rw [PB.rosettekit_SameWholes.l0, if_pos (by rw [List.length_map]; omega), if_pos (by omega), if_pos (by rw [List.length_map]; omega), rd_sv hil]
    show ((PB.rosettekit_SameInt.f k (sg (zs.getD i 0)) (lm (zs.getD i 0)) (sg (zs.getD i 0)) (lm (zs.getD i 0))).bind _) = _
    rw [hf, Option.bind_some]
    show (if true = true then _ else _) = _
    rw [if_pos rfl, hw]
    exact ih
theorem same_z (zs : List Int) (hz : ∀ z ∈ zs, lim 4096 z) (hs : zs.length ≤ 10000) (A1 A2 : Option Addr) (n m c1 c2 : Nat) (hn : zs.length = n) (hm : zs.length = m) (hc1 : n ≤ c1) (hc2 : m ≤ c2) (w : World) (r1 : PL w A1 zs) (r2 : PL w A2 zs) :
    Calls Try.prog 21 #[.slice A1 n c1, .slice A2 m c2] w (OutP w (.bool true)) := by
  subst hn hm
  have e : (zs.map sv).length = zs.length := List.length_map ..
  have h1 := C_of_PL r1
  have h2 := C_of_PL r2
  have h := PB.rosettekit_SameWholes.calls (zs.length + 4098) A1 c1 (zs.map sv) A2 c2 (zs.map sv) true w (by rw [e]; exact h1) (by rw [e]; exact hc1) (by rw [e]; exact h2) (by rw [e]; exact hc2) (by
    unfold PB.rosettekit_SameWholes.f
    rw [if_pos rfl]
    exact same_l0 zs hz hs zs.length _ 0 (by omega) (by omega))
  rw [e] at h
  exact h.mono fun e w' h => ⟨h.1, ⟨h.2⟩⟩
end Go.Proofs.Ytplignahjhenjaa.Lb
