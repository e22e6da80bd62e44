/- limb: plain: the document's sums and differences of natural numbers, powers of two, order, bits. -/
import Derived.Test.YtlcjnahfahobjaaPDx3
import Derived.Test.YtlcjnahfahobjaaLbPa
import Derived.Test.YtlcjnahfahobjaaLbU
namespace Go.Proofs.Ytlcjnahfahobjaa.Lb
open Go.RowKit Go.Proofs.YtlcjnahfahobjaaW.PrintWords Go.Proofs.Ytlcjnahfahobjaa.PD
set_option linter.unusedVariables false
set_option linter.unusedSimpArgs false

theorem nd_push (out : List Int) (v : Nat) (R S : Nat) (h : v + 4294967296 * R = S) : nd (out ++ [(v : Int)]) + 4294967296 ^ (out ++ [(v : Int)]).length * R = nd out + 4294967296 ^ out.length * S := by
  have hl : (out ++ [(v : Int)]).length = out.length + 1 := by simp
  rw [nd_append, hl, Nat.pow_succ]
  simp only [nd, Int.toNat_natCast, Nat.mul_zero, Nat.add_zero]
  rw [← h, Nat.mul_add, Nat.mul_assoc]
  omega
theorem okD_push {out : List Int} (h : okD out) (v : Nat) (hv : v < 4294967296) : okD (out ++ [(v : Int)]) := by
  rw [okD_append, okD_cons]
  exact ⟨h, ⟨by omega, by omega⟩, okD_nil⟩
theorem len_push (out : List Int) (v : Int) : (out ++ [v]).length = out.length + 1 := by simp
theorem add_d (a b c : Nat) (ha : a < 4294967296) (hb : b < 4294967296) (hc : c ≤ 1) : Int.tmod (IntKind.u64.wrap (IntKind.u64.wrap ((a : Int) + (b : Int)) + (c : Int))) 4294967296 = (((a + b + c) % 4294967296 : Nat) : Int) ∧ IntKind.u64.wrap (Int.tdiv (IntKind.u64.wrap (IntKind.u64.wrap ((a : Int) + (b : Int)) + (c : Int))) 4294967296) = (((a + b + c) / 4294967296 : Nat) : Int) := by
  rw [u64w (x := (a : Int) + (b : Int)) (by omega) (by omega), u64w (x := (a : Int) + (b : Int) + (c : Int)) (by omega) (by omega), tmodD _ (by omega), tdivD _ (by omega), u64w (by omega) (by omega)]
  omega
theorem add_l (x y : List Int) (hx : okD x) (hy : okD y) (bx : x.length ≤ 1099511627776) (by_ : y.length ≤ 1099511627776) : ∀ (m i k c : Nat) (out : List Int), x.length + 1 ≤ i + m → y.length + 1 ≤ i + m → c ≤ 1 → (c = 1 → i ≤ x.length ∨ i ≤ y.length) → out.length + m ≤ 1099511627776 → i ≤ 4398046511104 → okD out → 3 * m + out.length + 6 ≤ k →
    rosetteref00_NatAdd.l0 k x y out (c : Int) (i : Int) = some (toL (nd out + 4294967296 ^ out.length * (nd (x.drop i) + nd (y.drop i) + c)))
  | m, i, k + 2, c, out, h1, h2, h3, h4, h5, h6, hd, hk => by
    have done : ¬ (i < x.length) → ¬ (i < y.length) → c = 0 → rosetteref00_NatAdd.j1 (k + 1) x y out (c : Int) (i : Int) (decide ((c : Int) > 0)) = some (toL (nd out + 4294967296 ^ out.length * (nd (x.drop i) + nd (y.drop i) + c))) := by
      intro a b e
      subst e
      rw [rosetteref00_NatAdd.j1, if_neg (by simp), limbs_f out hd (by omega) k (by omega), Option.bind_some, nd_end i (by omega), nd_end i (by omega)]
      simp
    have step : (i < x.length ∨ i < y.length ∨ c = 1) → rosetteref00_NatAdd.j1 (k + 1) x y out (c : Int) (i : Int) true = some (toL (nd out + 4294967296 ^ out.length * (nd (x.drop i) + nd (y.drop i) + c))) := by
      intro hc
      obtain ⟨m, rfl⟩ : ∃ q, m = q + 1 := ⟨m - 1, by omega⟩
      obtain ⟨a, ea, ha, na, za⟩ := digit_f x hx i
      obtain ⟨b, eb, hb, nb, zb⟩ := digit_f y hy i
      have hs := add_d a b c ha hb h3
      obtain ⟨q, hq⟩ : ∃ q, (a + b + c) / 4294967296 = q := ⟨_, rfl⟩
      obtain ⟨r, hr⟩ : ∃ r, (a + b + c) % 4294967296 = r := ⟨_, rfl⟩
      rw [hq, hr] at hs
      rw [rosetteref00_NatAdd.j1, if_pos rfl, ea, Option.bind_some, eb, Option.bind_some, if_pos (by omega), hs.1, hs.2, w1 i (by omega)]
      rw [add_l x y hx hy bx by_ m (i + 1) k q _ (by omega) (by omega) (by omega) (fun e => by
        rcases Nat.lt_or_ge i x.length with h | h
        · left; omega
        · rcases Nat.lt_or_ge i y.length with h' | h'
          · right; omega
          · have := za h; have := zb h'; omega) (by rw [len_push]; omega) (by omega) (okD_push hd r (by omega)) (by rw [len_push]; omega)]
      rw [nd_push out r _ (nd (x.drop i) + nd (y.drop i) + c) (by rw [na, nb]; omega)]
    rw [rosetteref00_NatAdd.l0]
    by_cases a : i < x.length
    · rw [if_pos (by omega)]
      exact step (.inl a)
    · rw [if_neg (by omega)]
      by_cases b : i < y.length
      · rw [if_pos (by omega)]
        exact step (.inr (.inl b))
      · rw [if_neg (by omega)]
        by_cases e : c = 0
        · exact done a b e
        · have e1 : c = 1 := by omega
          have := step (.inr (.inr e1))
          rw [show decide ((c : Int) > 0) = true from decide_eq_true (by omega)]
          exact this
theorem natAdd_f (a b : List Int) (ha : okL a) (hb : okL b) (la : a.length ≤ 4096000) (lb : b.length ≤ 4096000) (k : Nat) (hk : 50000000 ≤ k) : rosetteref00_NatAdd.f k a b = some (toL (nv a + nv b)) := by
  unfold rosetteref00_NatAdd.f
  obtain ⟨x, ex, nx, ox, lx⟩ := halves_f a ha (by omega) k (by omega)
  obtain ⟨y, ey, ny, oy, ly⟩ := halves_f b hb (by omega) k (by omega)
  rw [ex, Option.bind_some, ey, Option.bind_some]
  have h := add_l x y ox oy (by omega) (by omega) (x.length + y.length + 1) 0 k 0 [] (by omega) (by omega) (by omega) (fun e => by omega) (by simp; omega) (by omega) okD_nil (by simp; omega)
  rw [show ((0 : Nat) : Int) = 0 from rfl] at h
  rw [h, ← nx, ← ny]
  simp [nd]
theorem sub_d (a b c : Nat) (ha : a < 4294967296) (hb : b < 4294967296) (hc : c ≤ 1) : ∃ r q : Nat, Int.tmod (IntKind.u64.wrap (IntKind.u64.wrap (IntKind.u64.wrap (4294967296 + (a : Int)) - (b : Int)) - (c : Int))) 4294967296 = (r : Int) ∧ IntKind.u64.wrap (1 - IntKind.u64.wrap (Int.tdiv (IntKind.u64.wrap (IntKind.u64.wrap (IntKind.u64.wrap (4294967296 + (a : Int)) - (b : Int)) - (c : Int))) 4294967296)) = (q : Int) ∧ r < 4294967296 ∧ q ≤ 1 ∧ a + 4294967296 * q = r + b + c := by
  rw [u64w (x := 4294967296 + (a : Int)) (by omega) (by omega), u64w (x := 4294967296 + (a : Int) - (b : Int)) (by omega) (by omega), u64w (x := 4294967296 + (a : Int) - (b : Int) - (c : Int)) (by omega) (by omega), tmodD _ (by omega), tdivD _ (by omega)]
  obtain ⟨s, hs⟩ : ∃ s : Nat, 4294967296 + (a : Int) - (b : Int) - (c : Int) = (s : Int) := ⟨(4294967296 + (a : Int) - (b : Int) - (c : Int)).toNat, by omega⟩
  rw [hs, u64w (x := (s : Int) / 4294967296) (by omega) (by omega), u64w (by omega) (by omega)]
  exact ⟨s % 4294967296, 1 - s / 4294967296, by omega, by omega, by omega, by omega, by omega⟩
theorem sub_l (x y : List Int) (hx : okD x) (hy : okD y) (bx : x.length ≤ 1099511627776) : ∀ (m i k c : Nat) (out : List Int), i + m = x.length → c ≤ 1 → nd (y.drop i) + c ≤ nd (x.drop i) → out.length + m ≤ 1099511627776 → okD out → 2 * m + out.length + 3 ≤ k →
    rosetteref00_NatSub.l0 k x y out (c : Int) (i : Int) = some (toL (nd out + 4294967296 ^ out.length * (nd (x.drop i) - nd (y.drop i) - c)))
  | 0, i, k + 1, c, out, h1, h3, h4, h5, hd, hk => by
    rw [nd_end (l := x) i (by omega)] at h4 ⊢
    rw [rosetteref00_NatSub.l0, if_neg (by omega), limbs_f out hd (by omega) k (by omega), Option.bind_some]
    simp
  | m + 1, i, k + 1, c, out, h1, h3, h4, h5, hd, hk => by
    obtain ⟨a, ea, ha⟩ := rd_okD hx i (by omega)
    have na := nd_drop i a (by omega) ea
    obtain ⟨b, eb, hb, nb, zb⟩ := digit_f y hy i
    obtain ⟨r, q, e1, e2, hr, hq, he⟩ := sub_d a b c ha hb h3
    rw [na, nb] at h4
    rw [rosetteref00_NatSub.l0, if_pos (by omega), if_pos (by omega), eb, Option.bind_some, if_pos (by omega), ea, e1, e2, w1 i (by omega)]
    rw [sub_l x y hx hy bx m (i + 1) k q _ (by omega) hq (by omega) (by rw [len_push]; omega) (okD_push hd r hr) (by rw [len_push]; omega)]
    rw [nd_push out r _ (nd (x.drop i) - nd (y.drop i) - c) (by rw [na, nb]; omega)]
theorem natSub_f (a b : List Int) (ha : okL a) (hb : okL b) (la : a.length ≤ 4096000) (lb : b.length ≤ 4096000) (hab : nv b ≤ nv a) (k : Nat) (hk : 50000000 ≤ k) : rosetteref00_NatSub.f k a b = some (toL (nv a - nv b)) := by
  unfold rosetteref00_NatSub.f
  obtain ⟨x, ex, nx, ox, lx⟩ := halves_f a ha (by omega) k (by omega)
  obtain ⟨y, ey, ny, oy, ly⟩ := halves_f b hb (by omega) k (by omega)
  rw [ex, Option.bind_some, ey, Option.bind_some]
  have h := sub_l x y ox oy (by omega) x.length 0 k 0 [] (by omega) (by omega) (by simp; omega) (by simp; omega) okD_nil (by simp; omega)
  rw [show ((0 : Nat) : Int) = 0 from rfl] at h
  rw [h, ← nx, ← ny]
  simp [nd]
/-! ### times a power of two -/
theorem by_w (s : Nat) (hs : s < 32) : IntKind.u64.wrap (2 * ((2 ^ s : Nat) : Int)) = ((2 ^ (s + 1) : Nat) : Int) := by
  have h : 2 ^ s ≤ 2 ^ 31 := Nat.pow_le_pow_right (by decide) (by omega)
  rw [Nat.pow_succ]
  obtain ⟨p, hp⟩ : ∃ p, 2 ^ s = p := ⟨_, rfl⟩
  rw [hp] at h ⊢
  rw [u64w (by omega) (by omega)]
  omega
theorem up_d (d p c : Nat) (hd : d < 4294967296) (hp : p ≤ 2147483648) (hc : c < p) : ∃ r q : Nat, Int.tmod (IntKind.u64.wrap (IntKind.u64.wrap ((d : Int) * (p : Int)) + (c : Int))) 4294967296 = (r : Int) ∧ IntKind.u64.wrap (Int.tdiv (IntKind.u64.wrap (IntKind.u64.wrap ((d : Int) * (p : Int)) + (c : Int))) 4294967296) = (q : Int) ∧ r < 4294967296 ∧ q < p ∧ d * p + c = r + 4294967296 * q := by
  have h1 : d * p ≤ 4294967295 * p := Nat.mul_le_mul_right p (by omega)
  have h2 : (d : Int) * (p : Int) = ((d * p : Nat) : Int) := by rw [Int.natCast_mul]
  obtain ⟨s, hs⟩ : ∃ s, d * p = s := ⟨_, rfl⟩
  rw [h2, hs]
  rw [hs] at h1
  rw [u64w (x := (s : Int)) (by omega) (by omega), u64w (x := (s : Int) + (c : Int)) (by omega) (by omega), tmodD _ (by omega), tdivD _ (by omega), u64w (by omega) (by omega)]
  exact ⟨(s + c) % 4294967296, (s + c) / 4294967296, by omega, by omega, by omega, by omega, by omega⟩
theorem up_l1 (x : List Int) (hx : okD x) (bx : x.length ≤ 1099511627776) (p : Nat) (hp : p ≤ 2147483648) : ∀ (m i k c : Nat) (out : List Int), i + m = x.length → c < p → out.length + m ≤ 1099511627775 → okD out → 2 * m + out.length + 4 ≤ k →
    rosetteref00_NatUp.l1 k x out (c : Int) (p : Int) (i : Int) = some (toL (nd out + 4294967296 ^ out.length * (nd (x.drop i) * p + c)))
  | 0, i, k + 1, c, out, h1, h3, h5, hd, hk => by
    rw [rosetteref00_NatUp.l1, if_neg (by omega), if_pos (by omega), limbs_f _ (okD_push hd c (by omega)) (by rw [len_push]; omega) k (by rw [len_push]; omega), Option.bind_some, nd_end i (by omega), nd_append]
    simp [nd]
  | m + 1, i, k + 1, c, out, h1, h3, h5, hd, hk => by
    obtain ⟨d, ea, ha⟩ := rd_okD hx i (by omega)
    have na := nd_drop i d (by omega) ea
    obtain ⟨r, q, e1, e2, hr, hq, he⟩ := up_d d p c ha hp h3
    rw [rosetteref00_NatUp.l1, if_pos (by omega), if_pos (by omega), if_pos (by omega), ea, e1, e2, w1 i (by omega)]
    rw [up_l1 x hx bx p hp m (i + 1) k q _ (by omega) hq (by rw [len_push]; omega) (okD_push hd r hr) (by rw [len_push]; omega)]
    rw [nd_push out r _ (nd (x.drop i) * p + c) (by rw [na, Nat.add_mul, Nat.mul_assoc, Nat.mul_add]; omega)]
theorem up_l0 (x : List Int) (hx : okD x) (bx : x.length ≤ 1099511627776) (n : Nat) (out : List Int) (ho : okD out) (hl : out.length + x.length ≤ 1099511627775) : ∀ (m i k : Nat), i + m = n % 32 → 2 * x.length + out.length + m + 6 ≤ k →
    rosetteref00_NatUp.l0 k (n : Int) x out 0 ((2 ^ i : Nat) : Int) (i : Int) = some (toL (nd out + 4294967296 ^ out.length * (nd x * 2 ^ (n % 32))))
  | 0, i, k + 1, h1, hk => by
    have hi : i = n % 32 := by omega
    have ht : Int.tmod (n : Int) 32 = ((n % 32 : Nat) : Int) := by rw [Int.tmod_eq_emod_of_nonneg (by omega)]; omega
    rw [rosetteref00_NatUp.l0, ht, if_neg (by omega)]
    have hp : 2 ^ i ≤ 2147483648 := Nat.le_trans (Nat.pow_le_pow_right (by decide) (show i ≤ 31 by omega)) (by decide)
    have := up_l1 x hx bx (2 ^ i) hp x.length 0 k 0 out (by omega) (Nat.pow_pos (by decide)) (by omega) ho (by omega)
    rw [show ((0 : Nat) : Int) = 0 from rfl] at this
    rw [this, ← hi]
    simp
  | m + 1, i, k + 1, h1, hk => by
    have ht : Int.tmod (n : Int) 32 = ((n % 32 : Nat) : Int) := by rw [Int.tmod_eq_emod_of_nonneg (by omega)]; omega
    rw [rosetteref00_NatUp.l0, ht, if_pos (by omega), by_w i (by omega), w1 i (by omega)]
    exact up_l0 x hx bx n out ho hl m (i + 1) k (by omega) (by omega)
theorem okD_zeros (q : Nat) : okD (List.replicate q 0) := fun x hx => by
  rw [List.eq_of_mem_replicate hx]; omega
theorem natUp_f (a : List Int) (ha : okL a) (la : a.length ≤ 4096000) (n : Nat) (hn : n ≤ 100000000) (k : Nat) (hk : 50000000 ≤ k) : rosetteref00_NatUp.f k a (n : Int) = some (toL (nv a * 2 ^ n)) := by
  unfold rosetteref00_NatUp.f
  obtain ⟨x, ex, nx, ox, lx⟩ := halves_f a ha (by omega) k (by omega)
  rw [ex, Option.bind_some]
  by_cases h0 : x.length = 0
  · rw [if_pos (by omega)]
    have hx : x = [] := List.eq_nil_of_length_eq_zero h0
    subst hx
    rw [← nx]
    simp [nd, toL_zero]
  · rw [if_neg (by omega)]
    have ht : wrap64 (Int.tdiv (n : Int) 32) = ((n / 32 : Nat) : Int) := by
      rw [Int.tdiv_eq_ediv_of_nonneg (by omega)]
      unfold wrap64; omega
    rw [ht, if_pos (by omega), if_pos (by omega)]
    have hl : (List.replicate (((n / 32 : Nat) : Int)).toNat (0 : Int)).length = n / 32 := by rw [List.length_replicate]; omega
    have := up_l0 x ox (by omega) n (List.replicate (((n / 32 : Nat) : Int)).toNat 0) (okD_zeros _) (by rw [hl]; omega) (n % 32) 0 k (by omega) (by rw [hl]; omega)
    rw [show (((2 ^ 0 : Nat) : Nat) : Int) = 1 from rfl, show ((0 : Nat) : Int) = 0 from rfl] at this
    rw [this, nd_zeros _ (fun y hy => List.eq_of_mem_replicate hy), hl, nx, Nat.zero_add]
    congr 2
    rw [show (4294967296 : Nat) = 2 ^ 32 from rfl, ← Nat.pow_mul, Nat.mul_left_comm, ← Nat.pow_add, show 32 * (n / 32) + n % 32 = n by omega]
/-! ### order -/
theorem trim_f (a : List Int) (ha : okL a) (la : a.length ≤ 4096000) : rosetteref00_NatTrim.f a = some (toL (nv a)) := by
  unfold rosetteref00_NatTrim.f
  rw [if_pos ⟨by omega, ha⟩]
def cmpN2 (a b : Nat) : Int := if a < b then -1 else if a = b then 0 else 1
theorem cmp_l (x y : List Int) (hx : okL x) (hy : okL y) (hl : x.length = y.length) (bx : x.length ≤ 4096000) : ∀ (m k : Nat), m ≤ x.length → m + 1 < k → nv (x.drop m) = nv (y.drop m) → rosetteref00_NatCmp.l0 k x y ((m : Int) - 1) = some (cmpN2 (nv (x.take m)) (nv (y.take m)))
  | 0, k + 1, h1, hk, he => by
    rw [rosetteref00_NatCmp.l0, if_neg (by omega)]
    simp [cmpN2]
  | m + 1, k + 1, h1, hk, he => by
    have e0 : (((m + 1 : Nat) : Int) - 1) = (m : Int) := by omega
    have ex := rd_ok hx m (by omega)
    have ey := rd_ok hy m (by omega)
    have lx := nv_lt (okL_take hx m)
    have ly := nv_lt (okL_take hy m)
    have tx : (x.take m).length = m := by rw [List.length_take]; omega
    have ty : (y.take m).length = m := by rw [List.length_take]; omega
    rw [tx] at lx
    rw [ty] at ly
    have sx : nv (x.take (m + 1)) = nv (x.take m) + B64 ^ m * (rd x (m : Int)).toNat := by
      rw [List.take_succ_eq_append_getElem (by omega), nv_append, tx]
      simp [nv, rd, List.getD_eq_getElem?_getD, show m < x.length by omega]
    have sy : nv (y.take (m + 1)) = nv (y.take m) + B64 ^ m * (rd y (m : Int)).toNat := by
      rw [List.take_succ_eq_append_getElem (by omega), nv_append, ty]
      simp [nv, rd, List.getD_eq_getElem?_getD, show m < y.length by omega]
    rw [e0, rosetteref00_NatCmp.l0, if_pos (by omega), if_pos (by omega), if_pos (by omega), if_pos (by omega), sx, sy]
    obtain ⟨a, ea⟩ : ∃ a : Nat, rd x (m : Int) = (a : Int) := ⟨(rd x (m : Int)).toNat, by omega⟩
    obtain ⟨b, eb⟩ : ∃ b : Nat, rd y (m : Int) = (b : Int) := ⟨(rd y (m : Int)).toNat, by omega⟩
    rw [ea, eb, Int.toNat_natCast, Int.toNat_natCast]
    have far : ∀ u v c d : Nat, u < B64 ^ m → c < d → u + B64 ^ m * c < v + B64 ^ m * d := by
      intro u v c d hu hcd
      have := Nat.mul_le_mul_left (B64 ^ m) (show c + 1 ≤ d by omega)
      rw [Nat.mul_add] at this
      omega
    by_cases h2 : a < b
    · rw [if_pos (by omega)]
      unfold cmpN2
      rw [if_pos (far _ _ _ _ lx h2)]
    · rw [if_neg (by omega)]
      by_cases h3 : b < a
      · rw [if_pos (by omega)]
        have := far _ (nv (x.take m)) _ _ ly h3
        unfold cmpN2
        rw [if_neg (by omega), if_neg (by omega)]
      · rw [if_neg (by omega)]
        have hab : a = b := by omega
        subst hab
        rw [show wrap64 ((m : Int) - 1) = (m : Int) - 1 by unfold wrap64; omega]
        rw [cmp_l x y hx hy hl bx m k (by omega) (by omega) (by rw [rd_drop x m (by omega), rd_drop y m (by omega), ea, eb]; simp only [nv]; rw [he])]
        unfold cmpN2
        congr 1
        have c1 : (nv (x.take m) < nv (y.take m)) = (nv (x.take m) + B64 ^ m * a < nv (y.take m) + B64 ^ m * a) := propext (by omega)
        have c2 : (nv (x.take m) = nv (y.take m)) = (nv (x.take m) + B64 ^ m * a = nv (y.take m) + B64 ^ m * a) := propext (by omega)
        simp only [c1, c2]
theorem toL_len_lt {a b : Nat} (h : (toL a).length < (toL b).length) : a < b := by
  rcases Nat.lt_or_ge a b with h1 | h1
  · exact h1
  · have h2 := (length_toL_le (n := a) (k := (toL a).length)).1 (Nat.le_refl _)
    have := (length_toL_le (n := b) (k := (toL a).length)).2 (by omega)
    omega
theorem natCmp_f (a b : Nat) (la : (toL a).length ≤ 4096000) (lb : (toL b).length ≤ 4096000) (k : Nat) (hk : 5000000 ≤ k) : rosetteref00_NatCmp.f k (toL a) (toL b) = some (cmpN2 a b) := by
  unfold rosetteref00_NatCmp.f
  rw [trim_f _ (okL_toL a) la, Option.bind_some, trim_f _ (okL_toL b) lb, Option.bind_some, nv_toL, nv_toL]
  by_cases h : (toL a).length = (toL b).length
  · rw [if_pos (by omega), show wrap64 (((toL a).length : Int) - 1) = ((toL a).length : Int) - 1 by unfold wrap64; omega]
    rw [cmp_l _ _ (okL_toL a) (okL_toL b) h la (toL a).length k (Nat.le_refl _) (by omega) (by rw [List.drop_of_length_le (by omega), List.drop_of_length_le (by omega)]), List.take_of_length_le (by omega), List.take_of_length_le (by omega), nv_toL, nv_toL]
  · rw [if_neg (by omega)]
    by_cases h2 : (toL a).length < (toL b).length
    · have := toL_len_lt h2
      rw [if_pos (by omega)]
      unfold cmpN2
      rw [if_pos this]
    · have := toL_len_lt (a := b) (b := a) (by omega)
      rw [if_neg (by omega)]
      unfold cmpN2
      rw [if_neg (by omega), if_neg (by omega)]
/-! ### bits -/
theorem toL_nv_len {a : List Int} (ha : okL a) : (toL (nv a)).length ≤ a.length := length_toL_le.2 (nv_lt ha)
theorem bitN_half (n : Nat) (h : n ≠ 0) : bitN n = bitN (n / 2) + 1 := by
  obtain ⟨k, hk, hk2⟩ := bitN_pos h
  have h3 := (bitN_le (n := n) (k := k + 1)).1 (by omega)
  cases k with
  | zero =>
    have h4 : n < 2 := h3
    have : n / 2 = 0 := by omega
    rw [this, hk, bitN_zero]
  | succ k =>
    rw [Nat.pow_succ] at h3 hk2
    rw [hk, bitN_of (n := n / 2) (k := k) (by omega) (by omega)]
theorem bits_l : ∀ (m t n k : Nat), t < 2 ^ m → m < 65 → n + m ≤ 1000000000 → m < k → rosetteref00_NatBits.l0 k (n : Int) (t : Int) = some ((n + bitN t : Nat) : Int)
  | 0, t, n, k + 1, ht, h65, hn, hk => by
    have : t = 0 := by simpa using ht
    subst this
    rw [rosetteref00_NatBits.l0, if_neg (by omega), bitN_zero]
    rfl
  | m + 1, t, n, k + 1, ht, h65, hn, hk => by
    by_cases h : t = 0
    · subst h
      rw [rosetteref00_NatBits.l0, if_neg (by omega), bitN_zero]
      rfl
    · have hb : t < 18446744073709551616 := Nat.lt_of_lt_of_le ht (Nat.le_trans (Nat.pow_le_pow_right (by decide) (show m + 1 ≤ 64 by omega)) (by decide))
      have e1 : IntKind.u64.wrap (Int.tdiv (t : Int) 2) = ((t / 2 : Nat) : Int) := by
        rw [Int.tdiv_eq_ediv_of_nonneg (by omega), u64w (by omega) (by omega)]; omega
      have h2 : t / 2 < 2 ^ m := by rw [Nat.pow_succ] at ht; omega
      rw [rosetteref00_NatBits.l0, if_pos (by omega), e1, w1 n (by omega), bits_l m (t / 2) (n + 1) k h2 (by omega) (by omega) (by omega), bitN_half t h]
      congr 2
      omega
theorem natBits_f (a : List Int) (ha : okL a) (la : a.length ≤ 4096000) (k : Nat) (hk : 5000000 ≤ k) : rosetteref00_NatBits.f k a = some ((bitN (nv a) : Nat) : Int) := by
  unfold rosetteref00_NatBits.f
  rw [trim_f a ha la, Option.bind_some]
  obtain ⟨v, hv⟩ : ∃ v, nv a = v := ⟨_, rfl⟩
  rw [hv]
  have hlen : (toL v).length ≤ 4096000 := by
    rw [← hv]
    exact Nat.le_trans (toL_nv_len ha) la
  by_cases h0 : v = 0
  · subst h0
    rw [toL_zero, if_pos (by simp), bitN_zero]
    rfl
  · have hne : (toL v).length ≠ 0 := fun e => h0 (toL_eq_nil.1 (List.eq_nil_of_length_eq_zero e))
    obtain ⟨j, hj⟩ : ∃ j, (toL v).length = j + 1 := ⟨(toL v).length - 1, by omega⟩
    rw [if_neg (by omega), show wrap64 (((toL v).length : Int) - 1) = (j : Int) by unfold wrap64; omega, if_pos (by omega), if_pos (by omega), show wrap64 (64 * (j : Int)) = ((64 * j : Nat) : Int) by unfold wrap64; omega]
    have hx := rd_ok (okL_toL v) j (by omega)
    have hg : (toL v).getD j 0 ≠ 0 := by
      rcases canon_toL v with h | h
      · rw [h] at hne; exact absurd rfl hne
      · intro e
        apply h
        rw [List.getLast?_eq_getElem?, hj]
        rw [List.getD_eq_getElem?_getD] at e
        have hlt : j < (toL v).length := by omega
        rw [Nat.add_sub_cancel, List.getElem?_eq_getElem hlt]
        rw [List.getElem?_eq_getElem hlt] at e
        exact congrArg some e
    have ht := bitN_top (okL_toL v) hj hg
    rw [nv_toL] at ht
    have er : rd (toL v) (j : Int) = (toL v).getD j 0 := by simp [rd]
    rw [er] at hx ⊢
    obtain ⟨t, et⟩ : ∃ t : Nat, (toL v).getD j 0 = (t : Int) := ⟨((toL v).getD j 0).toNat, by omega⟩
    rw [et] at hx ht ⊢
    rw [Int.toNat_natCast] at ht
    rw [bits_l 64 t (64 * j) k (by omega) (by omega) (by omega) (by omega), ht]
end Go.Proofs.Ytlcjnahfahobjaa.Lb
