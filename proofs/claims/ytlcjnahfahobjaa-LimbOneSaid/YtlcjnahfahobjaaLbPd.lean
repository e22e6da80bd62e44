/- limb: plain: the document's opposite, bits, shifts, small numbers are the program's. -/
import Derived.Test.YtlcjnahfahobjaaPDx10
import Derived.Test.YtlcjnahfahobjaaLbPc
import Derived.Test.YtlcjnahfahobjaaLbU
import Derived.Test.YtlcjnahfahobjaaLbI
namespace Go.Proofs.Ytlcjnahfahobjaa.Lb
open Go.RowKit Go.Proofs.YtlcjnahfahobjaaW.PrintWords Go.Proofs.Ytlcjnahfahobjaa.PD
set_option linter.unusedVariables false
set_option linter.unusedSimpArgs false

/-! ### over a small number -/
theorem short_d (t x p : Nat) (ht : t < p) (hp : p ≤ 2147483648) (hx : x < 4294967296) : ∃ q r : Nat, IntKind.u64.wrap (Int.tdiv (IntKind.u64.wrap (IntKind.u64.wrap ((t : Int) * 4294967296) + (x : Int))) (p : Int)) = (q : Int) ∧ Int.tmod (IntKind.u64.wrap (IntKind.u64.wrap ((t : Int) * 4294967296) + (x : Int))) (p : Int) = (r : Int) ∧ q < 4294967296 ∧ r < p ∧ t * 4294967296 + x = q * p + r := by
  rw [u64w (x := (t : Int) * 4294967296) (by omega) (by omega), u64w (x := (t : Int) * 4294967296 + (x : Int)) (by omega) (by omega), show (t : Int) * 4294967296 + (x : Int) = ((t * 4294967296 + x : Nat) : Int) by omega]
  obtain ⟨s, hs⟩ : ∃ s, t * 4294967296 + x = s := ⟨_, rfl⟩
  rw [hs]
  have hp0 : 0 < p := by omega
  have h1 : s / p < 4294967296 := by
    rw [Nat.div_lt_iff_lt_mul hp0]
    have := Nat.mul_le_mul_right 4294967296 (show t + 1 ≤ p by omega)
    rw [Nat.mul_comm 4294967296 p]
    omega
  have h2 := Nat.mod_lt s hp0
  have h3 := Nat.div_add_mod s p
  rw [Nat.mul_comm] at h3
  rw [← Int.ofNat_tdiv, ← Int.ofNat_tmod]
  obtain ⟨q, hq⟩ : ∃ q, s / p = q := ⟨_, rfl⟩
  rw [hq] at h1 h3 ⊢
  rw [u64w (by omega) (by omega)]
  exact ⟨q, s % p, rfl, rfl, h1, h2, h3.symm⟩
theorem set_mid (a b : List Int) (z q : Int) (m : Nat) (ha : a.length = m) : (a ++ z :: b).set m q = a ++ q :: b := by
  subst ha
  simp
theorem snoc_of (a : List Int) (m : Nat) (h : a.length = m + 1) : ∃ a' z, a = a' ++ [z] ∧ a'.length = m := by
  refine ⟨a.dropLast, a.getLast (fun e => by rw [e] at h; simp at h), (List.dropLast_concat_getLast _).symm, by rw [List.length_dropLast]; omega⟩
theorem nd_take_succ {l : List Int} (m y : Nat) (hi : m < l.length) (hy : rd l (m : Int) = (y : Int)) : nd (l.take (m + 1)) = nd (l.take m) + 4294967296 ^ m * y := by
  have hl : (l.take m).length = m := by rw [List.length_take]; omega
  rw [List.take_succ_eq_append_getElem hi, nd_append, hl]
  have : l[m] = (y : Int) := by rw [← hy]; simp [rd, List.getD_eq_getElem?_getD, hi]
  rw [this]
  simp [nd]
theorem short_l (x : List Int) (hx : okD x) (bx : x.length ≤ 1099511627776) (p : Nat) (hp0 : 0 < p) (hp : p ≤ 2147483648) : ∀ (m k t : Nat) (a b : List Int), a.length = m → a.length + b.length = x.length → okD b → t < p → x.length + m + 2 ≤ k →
    ∃ (q : List Int) (d : List Int) (r : Nat), rosetteref00_short.l0 k x (p : Int) (a ++ b) (t : Int) ((m : Int) - 1) = some (d, (r : Int)) ∧ nd d = nd (q ++ b) ∧ okD d ∧ d.length ≤ x.length ∧ q.length = m ∧ r < p ∧ t * 4294967296 ^ m + nd (x.take m) = nd q * p + r
  | 0, k + 1, t, a, b, ha, hb, ob, ht, hk => by
    have : a = [] := List.eq_nil_of_length_eq_zero ha
    subst this
    rw [rosetteref00_short.l0, if_neg (by omega)]
    simp only [List.nil_append, List.length_nil, Nat.zero_add] at hb ⊢
    obtain ⟨d, e, h1, h2, h3⟩ := low_f b (by omega) k (by omega)
    rw [e, Option.bind_some]
    exact ⟨[], d, t, rfl, by simpa using h1, h2 ob, by omega, rfl, ht, by simp [nd]⟩
  | m + 1, k + 1, t, a, b, ha, hb, ob, ht, hk => by
    obtain ⟨a', z, rfl, ha'⟩ := snoc_of a m ha
    obtain ⟨y, ey, hy⟩ := rd_okD hx m (by omega)
    obtain ⟨q, r, e1, e2, hq, hr, he⟩ := short_d t y p ht hp hy
    have hlen : (a' ++ [z] ++ b).length = x.length := by rw [List.length_append]; omega
    have hs : (a' ++ [z] ++ b).set m (q : Int) = a' ++ ((q : Int) :: b) := by rw [List.append_assoc]; exact set_mid a' b z q m ha'
    rw [rosetteref00_short.l0, show (((m + 1 : Nat) : Int) - 1) = (m : Int) by omega, if_pos (by omega), if_pos (by omega), if_pos (by omega), if_neg (by omega), if_pos (by rw [hlen]; omega), ey, e1, e2, show wrap64 ((m : Int) - 1) = (m : Int) - 1 by unfold wrap64; omega, Int.toNat_natCast, hs]
    obtain ⟨Q, d, r2, h1, h2, h3, h4, h5, h6, h7⟩ := short_l x hx bx p hp0 hp m k r a' ((q : Int) :: b) ha' (by simp at hb ⊢; omega) (by rw [okD_cons]; exact ⟨⟨by omega, by omega⟩, ob⟩) hr (by omega)
    refine ⟨Q ++ [(q : Int)], d, r2, h1, by rw [h2]; simp, h3, h4, by simp [h5], h6, ?_⟩
    rw [nd_take_succ m y (by omega) ey, nd_append, h5, Nat.pow_succ]
    simp only [nd, Int.toNat_natCast, Nat.mul_zero, Nat.add_zero]
    obtain ⟨P, hP⟩ : ∃ P, 4294967296 ^ m = P := ⟨_, rfl⟩
    rw [hP] at h7 ⊢
    have g1 : t * (P * 4294967296) + P * y = P * (q * p + r) := by rw [← he, Nat.mul_add]; congr 1; rw [Nat.mul_left_comm]
    have g2 : P * (q * p + r) = P * q * p + r * P := by rw [Nat.mul_add, Nat.mul_assoc, Nat.mul_comm P r]
    rw [Nat.add_mul]
    omega
theorem short_f (x : List Int) (hx : okD x) (bx : x.length ≤ 1099511627776) (p : Nat) (hp0 : 0 < p) (hp : p ≤ 2147483648) (k : Nat) (hk : 2 * x.length + 2 ≤ k) :
    ∃ (d : List Int) (r : Nat), rosetteref00_short.f k x (p : Int) = some (d, (r : Int)) ∧ okD d ∧ d.length ≤ x.length ∧ nd d = nd x / p ∧ r = nd x % p := by
  unfold rosetteref00_short.f
  rw [if_pos (by omega), if_pos (by omega), Int.toNat_natCast, show wrap64 ((x.length : Int) - 1) = (x.length : Int) - 1 by unfold wrap64; omega]
  obtain ⟨q, d, r, h1, h2, h3, h4, h5, h6, h7⟩ := short_l x hx bx p hp0 hp x.length k 0 (List.replicate x.length 0) [] (by simp) (by simp) okD_nil hp0 (by omega)
  rw [List.append_nil, show ((0 : Nat) : Int) = 0 from rfl] at h1
  rw [List.append_nil] at h2
  rw [List.take_of_length_le (Nat.le_refl _), Nat.zero_mul, Nat.zero_add] at h7
  refine ⟨d, r, h1, h3, h4, ?_, ?_⟩
  · rw [h2, h7, Nat.mul_comm, Nat.mul_add_div hp0, Nat.div_eq_of_lt h6, Nat.add_zero]
  · rw [h7, Nat.mul_comm, Nat.mul_add_mod, Nat.mod_eq_of_lt h6]
/-! ### over a power of two -/
theorem down_l1 (x : List Int) (hx : okD x) (bx : x.length ≤ 1099511627776) (n : Nat) (hq : n / 32 ≤ x.length) (hn : n ≤ 1099511627776) (lost : Bool) : ∀ (m i k : Nat), i + m = n % 32 → 4 * x.length + m + 6 ≤ k →
    rosetteref00_NatDown.l1 k (n : Int) x lost ((2 ^ i : Nat) : Int) (i : Int) = some (toL (nd (x.drop (n / 32)) / 2 ^ (n % 32)), lost || decide (nd (x.drop (n / 32)) % 2 ^ (n % 32) ≠ 0))
  | 0, i, k + 1, h1, hk => by
    have hi : i = n % 32 := by omega
    have ht : Int.tmod (n : Int) 32 = ((n % 32 : Nat) : Int) := by rw [Int.tmod_eq_emod_of_nonneg (by omega)]; omega
    have ht2 : wrap64 (Int.tdiv (n : Int) 32) = ((n / 32 : Nat) : Int) := by
      rw [Int.tdiv_eq_ediv_of_nonneg (by omega)]
      unfold wrap64; omega
    have hp : 2 ^ i ≤ 2147483648 := Nat.le_trans (Nat.pow_le_pow_right (by decide) (show i ≤ 31 by omega)) (by decide)
    have hdl : (x.drop (n / 32)).length ≤ x.length := by rw [List.length_drop]; omega
    obtain ⟨d, r, e, h3, h4, h5, h6⟩ := short_f (x.drop (n / 32)) (okD_drop hx _) (by omega) (2 ^ i) (Nat.pow_pos (by decide)) hp k (by omega)
    rw [rosetteref00_NatDown.l1, ht, if_neg (by omega), ht2, if_pos (by omega), if_pos (by omega), Int.toNat_natCast, e, Option.bind_some]
    dsimp only
    rw [limbs_f d h3 (by omega) k (by omega), Option.bind_some, h5, h6, hi]
    cases lost
    · rw [if_neg (by simp), Bool.false_or]
      congr 2
      rw [Bool.eq_iff_iff]
      simp only [bne_iff_ne, ne_eq, decide_eq_true_eq]
      omega
    · rw [if_pos rfl, Bool.true_or]
  | m + 1, i, k + 1, h1, hk => by
    have ht : Int.tmod (n : Int) 32 = ((n % 32 : Nat) : Int) := by rw [Int.tmod_eq_emod_of_nonneg (by omega)]; omega
    rw [rosetteref00_NatDown.l1, ht, if_pos (by omega), by_w i (by omega), w1 i (by omega)]
    exact down_l1 x hx bx n hq hn lost m (i + 1) k (by omega) (by omega)
theorem nd_ne {x : List Int} (hx : okD x) (i y : Nat) (hi : i < x.length) (hy : rd x (i : Int) = (y : Int)) : (nd (x.take (i + 1)) ≠ 0) ↔ (nd (x.take i) ≠ 0 ∨ y ≠ 0) := by
  rw [nd_take_succ i y hi hy]
  have hp : 0 < 4294967296 ^ i := Nat.pow_pos (by decide)
  rcases Nat.eq_zero_or_pos y with h | h
  · subst h; simp
  · have := Nat.mul_pos hp h
    omega
theorem down_l0 (x : List Int) (hx : okD x) (bx : x.length ≤ 1099511627776) (n : Nat) (hn : n ≤ 1099511627776) : ∀ (m i k : Nat), (i + m = n / 32 ∧ i ≤ x.length) → 4 * x.length + m + 60 ≤ k →
    rosetteref00_NatDown.l0 k (n : Int) x (decide (nd (x.take i) ≠ 0)) (i : Int) = some (toL (nd (x.drop (n / 32)) / 2 ^ (n % 32)), decide (nd (x.take (n / 32)) ≠ 0) || decide (nd (x.drop (n / 32)) % 2 ^ (n % 32) ≠ 0)) := by
  have ht2 : wrap64 (Int.tdiv (n : Int) 32) = ((n / 32 : Nat) : Int) := by
    rw [Int.tdiv_eq_ediv_of_nonneg (by omega)]
    unfold wrap64; omega
  have fin : ∀ (i k : Nat), (i = n / 32 ∨ i = x.length) → (n / 32 ≥ x.length ∨ i = n / 32) → 4 * x.length + 50 ≤ k → rosetteref00_NatDown.j1 (k + 1) (n : Int) x (decide (nd (x.take i) ≠ 0)) = some (toL (nd (x.drop (n / 32)) / 2 ^ (n % 32)), decide (nd (x.take (n / 32)) ≠ 0) || decide (nd (x.drop (n / 32)) % 2 ^ (n % 32) ≠ 0)) := by
    intro i k h1 h2 hk
    rw [rosetteref00_NatDown.j1, ht2]
    by_cases h : n / 32 ≥ x.length
    · have e : x.take i = x.take (n / 32) := by
        rcases h1 with rfl | rfl
        · rfl
        · rw [List.take_of_length_le (Nat.le_refl _), List.take_of_length_le h]
      rw [if_pos (by omega), nd_end (n / 32) h, e, Nat.zero_div, toL_zero, Nat.zero_mod]
      simp
    · have e : i = n / 32 := by omega
      subst e
      rw [if_neg (by omega)]
      have := down_l1 x hx bx n (by omega) hn (decide (nd (x.take (n / 32)) ≠ 0)) (n % 32) 0 k (by omega) (by omega)
      rw [show (((2 ^ 0 : Nat) : Nat) : Int) = 1 from rfl, show ((0 : Nat) : Int) = 0 from rfl] at this
      exact this
  intro m
  induction m with
  | zero =>
    intro i k h1 hk
    obtain ⟨k, rfl⟩ : ∃ q, k = q + 2 := ⟨k - 2, by omega⟩
    rw [rosetteref00_NatDown.l0, ht2, if_neg (by omega)]
    exact fin i k (by omega) (by omega) (by omega)
  | succ m ih =>
    intro i k h1 hk
    obtain ⟨k, rfl⟩ : ∃ q, k = q + 2 := ⟨k - 2, by omega⟩
    rw [rosetteref00_NatDown.l0, ht2, if_pos (by omega)]
    by_cases h : i < x.length
    · obtain ⟨y, ey, hy⟩ := rd_okD hx i h
      have hne := nd_ne hx i y h ey
      have hI := ih (i + 1) (k + 1) (by omega) (by omega)
      rw [if_pos (by omega), w1 i (by omega)]
      by_cases hz : nd (x.take i) = 0
      · rw [if_neg (by simpa using hz), if_pos (by omega), ey]
        rw [show ((y : Int) != 0) = decide (nd (x.take (i + 1)) ≠ 0) by
          rw [Bool.eq_iff_iff]
          simp only [bne_iff_ne, ne_eq, decide_eq_true_eq]
          constructor
          · intro a; exact hne.2 (.inr (by omega))
          · intro a
            rcases hne.1 a with b | b
            · exact absurd hz b
            · omega]
        exact hI
      · rw [if_pos (by simpa using hz)]
        rw [show decide (nd (x.take (i + 1)) ≠ 0) = true from decide_eq_true (hne.2 (.inl hz))] at hI
        exact hI
    · rw [if_neg (by omega)]
      exact fin i k (by omega) (by omega) (by omega)
theorem split_q (x : List Int) (q : Nat) (hq : q ≤ x.length) : nd x = nd (x.take q) + 4294967296 ^ q * nd (x.drop q) := by
  have h := nd_append (x.take q) (x.drop q)
  rw [List.take_append_drop, List.length_take, Nat.min_eq_left hq] at h
  exact h
theorem div_split (L H q r : Nat) (hL : L < 4294967296 ^ q) : (L + 4294967296 ^ q * H) / 2 ^ (32 * q + r) = H / 2 ^ r ∧ ((L + 4294967296 ^ q * H) % 2 ^ (32 * q + r) ≠ 0 ↔ (L ≠ 0 ∨ H % 2 ^ r ≠ 0)) := by
  have hD : (4294967296 : Nat) ^ q = 2 ^ (32 * q) := by rw [Nat.pow_mul]
  rw [hD] at hL ⊢
  rw [Nat.pow_add]
  obtain ⟨A, hA⟩ : ∃ A, 2 ^ (32 * q) = A := ⟨_, rfl⟩
  obtain ⟨B, hB⟩ : ∃ B, 2 ^ r = B := ⟨_, rfl⟩
  have hA0 : 0 < A := by rw [← hA]; exact Nat.pow_pos (by decide)
  rw [hA] at hL ⊢
  rw [hB]
  have e1 : (L + A * H) / A = H := by rw [Nat.add_mul_div_left _ _ hA0, Nat.div_eq_of_lt hL, Nat.zero_add]
  have e2 : (L + A * H) % A = L := by rw [Nat.add_mul_mod_self_left, Nat.mod_eq_of_lt hL]
  refine ⟨by rw [← Nat.div_div_eq_div_mul, e1], ?_⟩
  rw [Nat.mod_mul, e1, e2]
  constructor
  · intro h
    by_cases hL0 : L = 0
    · right
      intro hz
      apply h
      rw [hL0, hz]; simp
    · exact .inl hL0
  · intro h hz
    have h1 : L = 0 := by omega
    have h2 : A * (H % B) = 0 := by omega
    rcases Nat.mul_eq_zero.1 h2 with h3 | h3
    · omega
    · rcases h with h | h
      · exact h h1
      · exact h h3
theorem natDown_f (a : List Int) (ha : okL a) (la : a.length ≤ 4096000) (n : Nat) (hn : n ≤ 100000000) (k : Nat) (hk : 50000000 ≤ k) : rosetteref00_NatDown.f k a (n : Int) = some (toL (nv a / 2 ^ n), decide (nv a % 2 ^ n ≠ 0)) := by
  unfold rosetteref00_NatDown.f
  obtain ⟨x, ex, nx, ox, lx⟩ := halves_f a ha (by omega) k (by omega)
  rw [ex, Option.bind_some]
  have h := down_l0 x ox (by omega) n (by omega) (n / 32) 0 k (by omega) (by omega)
  rw [show decide (nd (x.take 0) ≠ 0) = false by simp [nd], show ((0 : Nat) : Int) = 0 from rfl] at h
  rw [h, ← nx]
  have hn32 : 32 * (n / 32) + n % 32 = n := by omega
  obtain ⟨q, hq⟩ : ∃ q, n / 32 = q := ⟨_, rfl⟩
  obtain ⟨r, hr⟩ : ∃ r, n % 32 = r := ⟨_, rfl⟩
  rw [hq, hr] at hn32 ⊢
  rw [← hn32]
  have goal : (nd (x.drop q) / 2 ^ r = nd x / 2 ^ (32 * q + r)) ∧ (nd x % 2 ^ (32 * q + r) ≠ 0 ↔ (nd (x.take q) ≠ 0 ∨ nd (x.drop q) % 2 ^ r ≠ 0)) := by
    rcases Nat.lt_or_ge x.length q with hlt | hge
    · have hb : nd x < 2 ^ (32 * q + r) := by
        refine Nat.lt_of_lt_of_le (nd_lt ox) ?_
        rw [show (4294967296 : Nat) = 2 ^ 32 from rfl, ← Nat.pow_mul]
        exact Nat.pow_le_pow_right (by decide) (by omega)
      rw [nd_end q (by omega), List.take_of_length_le (by omega), Nat.div_eq_of_lt hb, Nat.mod_eq_of_lt hb]
      simp
    · have hs := split_q x q hge
      have hL : nd (x.take q) < 4294967296 ^ q := by
        have := nd_lt (okD_take ox q)
        rwa [List.length_take, Nat.min_eq_left hge] at this
      have := div_split (nd (x.take q)) (nd (x.drop q)) q r hL
      rw [hs]
      exact ⟨this.1.symm, this.2⟩
  rw [goal.1]
  congr 2
  rw [Bool.eq_iff_iff]
  simp only [Bool.or_eq_true, decide_eq_true_eq]
  exact goal.2.symm
end Go.Proofs.Ytlcjnahfahobjaa.Lb
