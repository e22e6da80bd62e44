/- limb: plain: the document's digits: halves, low, limbs, digit. -/
import Derived.Test.YtlcjnahfahobjaaLbRo
import Derived.Test.YtlcjnahfahobjaaPDx2
/- limb: plain: digits of 32 bits, the lowest first. -/
set_option linter.unusedVariables false
namespace Go.Proofs.Ytlcjnahfahobjaa.Lb

/-- What digits are worth. -/
def nd : List Int → Nat
  | [] => 0
  | x :: l => x.toNat + 4294967296 * nd l
def okD (l : List Int) : Prop := ∀ x ∈ l, 0 ≤ x ∧ x < 4294967296
theorem okD_nil : okD [] := fun _ h => by cases h
theorem okD_cons {x : Int} {l : List Int} : okD (x :: l) ↔ (0 ≤ x ∧ x < 4294967296) ∧ okD l := by
  unfold okD
  constructor
  · intro h
    exact ⟨h x (by simp), fun y hy => h y (by simp [hy])⟩
  · rintro ⟨h1, h2⟩ y hy
    rcases List.mem_cons.1 hy with rfl | hy
    · exact h1
    · exact h2 y hy
theorem okD_append {l m : List Int} : okD (l ++ m) ↔ okD l ∧ okD m := by
  unfold okD
  constructor
  · intro h
    exact ⟨fun y hy => h y (by simp [hy]), fun y hy => h y (by simp [hy])⟩
  · rintro ⟨h1, h2⟩ y hy
    rcases List.mem_append.1 hy with hy | hy
    · exact h1 y hy
    · exact h2 y hy
theorem okD_take {l : List Int} (h : okD l) (n : Nat) : okD (l.take n) := fun x hx => h x (List.mem_of_mem_take hx)
theorem okD_drop {l : List Int} (h : okD l) (n : Nat) : okD (l.drop n) := fun x hx => h x (List.mem_of_mem_drop hx)
theorem nd_append (l m : List Int) : nd (l ++ m) = nd l + 4294967296 ^ l.length * nd m := by
  induction l with
  | nil => simp [nd]
  | cons x l ih =>
    simp only [List.cons_append, nd, ih, List.length_cons, Nat.pow_succ]
    rw [Nat.mul_add, ← Nat.mul_assoc, Nat.mul_comm 4294967296 (4294967296 ^ l.length)]
    omega
theorem nd_lt {l : List Int} (h : okD l) : nd l < 4294967296 ^ l.length := by
  induction l with
  | nil => simp [nd]
  | cons x l ih =>
    obtain ⟨h1, h2⟩ := okD_cons.1 h
    have := ih h2
    simp only [nd, List.length_cons, Nat.pow_succ]
    have hx : x.toNat < 4294967296 := by omega
    have hm : 4294967296 * nd l + 4294967296 ≤ 4294967296 ^ l.length * 4294967296 := by
      rw [Nat.mul_comm (4294967296 ^ l.length), ← Nat.mul_succ]
      exact Nat.mul_le_mul_left _ this
    omega
theorem nd_zeros (l : List Int) (h : ∀ x ∈ l, x = 0) : nd l = 0 := by
  induction l with
  | nil => rfl
  | cons x l ih =>
    have h0 := h x (by simp)
    subst h0
    simp only [nd]
    rw [ih (fun y hy => h y (by simp [hy]))]
    rfl
/-- Limbs in halves. -/
def hv : List Int → List Int
  | [] => []
  | x :: l => x % 4294967296 :: x / 4294967296 :: hv l
theorem nd_hv {l : List Int} (ho : okL l) : nd (hv l) = nv l := by
  induction l with
  | nil => rfl
  | cons x l ih =>
    obtain ⟨h1, h2⟩ := okL_cons.1 ho
    simp only [hv, nd, nv, ih h2]
    unfold B64
    omega
end Go.Proofs.Ytlcjnahfahobjaa.Lb
namespace Go.Proofs.Ytlcjnahfahobjaa.Lb
open Go.RowKit Go.Proofs.YtlcjnahfahobjaaW.PrintWords Go.Proofs.Ytlcjnahfahobjaa.PD
set_option linter.unusedVariables false
set_option linter.unusedSimpArgs false

theorem rd_drop (l : List Int) (i : Nat) (h : i < l.length) : l.drop i = rd l (i : Int) :: l.drop (i + 1) := by
  rw [List.drop_eq_getElem_cons h]
  simp [rd, List.getD_eq_getElem?_getD, h]
theorem w1 (i : Nat) (h : i < 9223372036854775807) : wrap64 ((i : Int) + 1) = ((i + 1 : Nat) : Int) := by unfold wrap64; omega
theorem w2 (i : Nat) (h : i < 9223372036854775800) : wrap64 ((i : Int) + 2) = ((i + 2 : Nat) : Int) := by unfold wrap64; omega
theorem wm1 (i : Nat) (h : i < 9223372036854775800) : wrap64 (((i + 1 : Nat) : Int) - 1) = (i : Int) := by unfold wrap64; omega
theorem u64w {x : Int} (h0 : 0 ≤ x) (h1 : x < 18446744073709551616) : IntKind.u64.wrap x = x := by rw [IntKind.wrap_u64]; omega
theorem tmodD (x : Int) (h : 0 ≤ x) : Int.tmod x 4294967296 = x % 4294967296 := Int.tmod_eq_emod_of_nonneg h
theorem tdivD (x : Int) (h : 0 ≤ x) : Int.tdiv x 4294967296 = x / 4294967296 := Int.tdiv_eq_ediv_of_nonneg h
theorem rd_ok {l : List Int} (h : okL l) (i : Nat) (hi : i < l.length) : 0 ≤ rd l (i : Int) ∧ rd l (i : Int) < 18446744073709551616 := by
  have hmem : rd l (i : Int) ∈ l.drop i := by rw [rd_drop l i hi]; exact List.mem_cons_self
  exact h _ (List.mem_of_mem_drop hmem)
theorem rd_okD {l : List Int} (h : okD l) (i : Nat) (hi : i < l.length) : ∃ y : Nat, rd l (i : Int) = (y : Int) ∧ y < 4294967296 := by
  have hmem : rd l (i : Int) ∈ l.drop i := by rw [rd_drop l i hi]; exact List.mem_cons_self
  have := h _ (List.mem_of_mem_drop hmem)
  exact ⟨(rd l (i : Int)).toNat, by omega, by omega⟩
theorem nd_drop {l : List Int} (i y : Nat) (hi : i < l.length) (hy : rd l (i : Int) = (y : Int)) : nd (l.drop i) = y + 4294967296 * nd (l.drop (i + 1)) := by
  rw [rd_drop l i hi, hy]
  simp [nd]
theorem nd_end {l : List Int} (i : Nat) (hi : l.length ≤ i) : nd (l.drop i) = 0 := by
  rw [List.drop_of_length_le hi]; rfl
/-- The tops from here on are noughts. -/
theorem nd_take {d : List Int} {m : Nat} (hm : m ≤ d.length) (hz : ∀ x ∈ d.drop m, x = 0) : nd (d.take m) = nd d := by
  have h := nd_append (d.take m) (d.drop m)
  rw [List.take_append_drop, nd_zeros _ hz] at h
  rw [h]; omega
theorem low_l (d : List Int) (hl : d.length < 4611686018427387904) : ∀ (m k : Nat), m ≤ d.length → m < k → (∀ x ∈ d.drop m, x = 0) →
    ∃ r, rosetteref00_low.l0 k d (m : Int) = some r ∧ nd r = nd d ∧ (okD d → okD r) ∧ r.length ≤ d.length
  | 0, k + 1, hm, hk, hz => by
    refine ⟨d.take 0, ?_, nd_take hm hz, fun h => okD_take h 0, by simp⟩
    rw [rosetteref00_low.l0]
    rw [if_neg (by omega), if_pos (by omega), if_pos (by omega)]
    rfl
  | m + 1, k + 1, hm, hk, hz => by
    rw [rosetteref00_low.l0, wm1 m (by omega)]
    rw [if_pos (by omega), if_pos (by omega), if_pos (by omega)]
    by_cases h : rd d (m : Int) = 0
    · rw [if_pos h]
      refine low_l d hl m k (by omega) (by omega) (fun x hx => ?_)
      rw [rd_drop d m (by omega)] at hx
      rcases List.mem_cons.1 hx with rfl | hx
      · exact h
      · exact hz x hx
    · rw [if_neg h, if_pos (by omega), if_pos (by omega)]
      exact ⟨d.take (m + 1), by simp, nd_take hm hz, fun h => okD_take h _, by simp; omega⟩
theorem low_f (d : List Int) (hl : d.length < 4611686018427387904) (k : Nat) (hk : d.length < k) : ∃ r, rosetteref00_low.f k d = some r ∧ nd r = nd d ∧ (okD d → okD r) ∧ r.length ≤ d.length := by
  unfold rosetteref00_low.f
  exact low_l d hl d.length k (Nat.le_refl _) hk (fun x hx => by rw [List.drop_of_length_le (Nat.le_refl _)] at hx; cases hx)
theorem halves_l (l : List Int) (ho : okL l) (hm : l.length ≤ 1099511627776) : ∀ (m i k : Nat) (out : List Int), i + m = l.length → out.length = 2 * i → okD out → 2 * l.length + m + 2 ≤ k →
    ∃ r, rosetteref00_halves.l0 k l out (i : Int) = some r ∧ nd r = nd (out ++ hv (l.drop i)) ∧ okD r ∧ r.length ≤ 2 * l.length
  | 0, i, k + 1, out, hi, hl, hd, hk => by
    rw [rosetteref00_halves.l0]
    rw [if_neg (by omega), List.drop_of_length_le (by omega)]
    obtain ⟨r, e, h1, h2, h3⟩ := low_f out (by omega) k (by omega)
    rw [e, Option.bind_some]
    exact ⟨r, rfl, by rw [h1]; simp [hv], h2 hd, by omega⟩
  | m + 1, i, k + 1, out, hi, hl, hd, hk => by
    have hx := rd_ok ho i (by omega)
    rw [rosetteref00_halves.l0]
    rw [if_pos (by omega), if_pos (by omega), Option.bind_some, tmodD _ hx.1, tdivD _ hx.1, u64w (by omega) (by omega)]
    have hy : ([rd l (i : Int) % 4294967296, rd l (i : Int) / 4294967296] : List Int).length = 2 := rfl
    rw [if_pos (by rw [hy]; omega), w1 i (by omega)]
    obtain ⟨r, e, h1, h2, h3⟩ := halves_l l ho hm m (i + 1) k (out ++ [rd l (i : Int) % 4294967296, rd l (i : Int) / 4294967296]) (by omega) (by rw [List.length_append, hy]; omega) (by
      rw [okD_append]
      refine ⟨hd, ?_⟩
      rw [okD_cons, okD_cons]
      exact ⟨by omega, by omega, okD_nil⟩) (by omega)
    refine ⟨r, e, ?_, h2, h3⟩
    rw [h1, rd_drop l i (by omega)]
    simp [hv]
theorem halves_f (l : List Int) (ho : okL l) (hm : l.length ≤ 1099511627776) (k : Nat) (hk : 3 * l.length + 2 ≤ k) : ∃ r, rosetteref00_halves.f k l = some r ∧ nd r = nv l ∧ okD r ∧ r.length ≤ 2 * l.length := by
  unfold rosetteref00_halves.f
  obtain ⟨r, e, h1, h2, h3⟩ := halves_l l ho hm l.length 0 k [] (by omega) rfl okD_nil (by omega)
  refine ⟨r, e, ?_, h2, h3⟩
  rw [h1]
  simp [nd_hv ho]
theorem pair_u (a b : Nat) (ha : a < 4294967296) (hb : b < 4294967296) : IntKind.u64.wrap ((a : Int) + IntKind.u64.wrap (4294967296 * (b : Int))) = ((a + 4294967296 * b : Nat) : Int) := by
  rw [u64w (x := 4294967296 * (b : Int)) (by omega) (by omega), u64w (by omega) (by omega)]
  omega
theorem nv_push (out : List Int) (v : Nat) (R S : Nat) (h : v + B64 * R = S) : nv (out ++ [(v : Int)]) + B64 ^ (out ++ [(v : Int)]).length * R = nv out + B64 ^ out.length * S := by
  have hl : (out ++ [(v : Int)]).length = out.length + 1 := by simp
  rw [nv_append, hl, Nat.pow_succ]
  simp only [nv, Int.toNat_natCast, Nat.mul_zero, Nat.add_zero]
  rw [← h, Nat.mul_add, Nat.mul_assoc]
  omega
theorem limbs_l (x : List Int) (ho : okD x) (hm : x.length ≤ 1099511627776) : ∀ (m i k : Nat) (out : List Int), x.length ≤ i + 2 * m → i ≤ x.length + 1 → out.length + m ≤ 2199023255552 → okL out → m < k →
    rosetteref00_limbs.l0 k x out (i : Int) = some (toL (nv out + B64 ^ out.length * nd (x.drop i)))
  | m, i, k + 1, out, hi, hi2, hl, hd, hk => by
    rw [rosetteref00_limbs.l0]
    by_cases h : i < x.length
    · obtain ⟨m, rfl⟩ : ∃ q, m = q + 1 := ⟨m - 1, by omega⟩
      obtain ⟨a, ea, ha⟩ := rd_okD ho i h
      have hn := nd_drop i a h ea
      rw [if_pos (by omega), if_pos (by omega), w1 i (by omega), ea, w2 i (by omega)]
      by_cases h2 : i + 1 < x.length
      · obtain ⟨b, eb, hb⟩ := rd_okD ho (i + 1) h2
        have hn2 : nd (x.drop (i + 1)) = b + 4294967296 * nd (x.drop (i + 2)) := nd_drop (i + 1) b h2 eb
        rw [if_pos (by omega), if_pos (by omega), if_pos (by omega), eb, pair_u a b ha hb]
        rw [limbs_l x ho hm m (i + 2) k _ (by omega) (by omega) (by rw [List.length_append]; simp; omega) (by
          rw [okL_append, okL_cons]
          exact ⟨hd, ⟨by omega, by omega⟩, okL_nil⟩) (by omega)]
        rw [nv_push out (a + 4294967296 * b) (nd (x.drop (i + 2))) (nd (x.drop i)) (by rw [hn, hn2]; unfold B64; omega)]
      · rw [if_neg (by omega), if_pos (by omega)]
        rw [limbs_l x ho hm m (i + 2) k _ (by omega) (by omega) (by rw [List.length_append]; simp; omega) (by
          rw [okL_append, okL_cons]
          exact ⟨hd, ⟨by omega, by omega⟩, okL_nil⟩) (by omega)]
        have z1 := nd_end (l := x) (i + 1) (by omega)
        have z2 := nd_end (l := x) (i + 2) (by omega)
        rw [nv_push out a (nd (x.drop (i + 2))) (nd (x.drop i)) (by rw [hn, z1, z2]; simp)]
    · rw [if_neg (by omega), nd_end i (by omega)]
      unfold rosetteref00_NatTrim.f
      rw [if_pos ⟨by omega, hd⟩, Option.bind_some]
      simp
theorem limbs_f (x : List Int) (ho : okD x) (hm : x.length ≤ 1099511627776) (k : Nat) (hk : x.length + 1 < k) : rosetteref00_limbs.f k x = some (toL (nd x)) := by
  unfold rosetteref00_limbs.f
  have h := limbs_l x ho hm x.length 0 k [] (by omega) (by omega) (by simp; omega) okL_nil (by omega)
  rw [show ((0 : Nat) : Int) = 0 from rfl] at h
  rw [h]
  simp [nv]
theorem digit_f (d : List Int) (ho : okD d) (i : Nat) : ∃ y : Nat, rosetteref00_digit.f d (i : Int) = some (y : Int) ∧ y < 4294967296 ∧ nd (d.drop i) = y + 4294967296 * nd (d.drop (i + 1)) ∧ (d.length ≤ i → y = 0) := by
  unfold rosetteref00_digit.f
  by_cases h : i < d.length
  · obtain ⟨y, ey, hy⟩ := rd_okD ho i h
    rw [if_pos (by omega), if_pos (by omega), ey]
    exact ⟨y, rfl, hy, nd_drop i y h ey, fun h2 => by omega⟩
  · rw [if_neg (by omega)]
    exact ⟨0, rfl, by omega, by rw [nd_end i (by omega), nd_end (i + 1) (by omega)], fun _ => rfl⟩
end Go.Proofs.Ytlcjnahfahobjaa.Lb
