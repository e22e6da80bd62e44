/- store: plain: what is put, and that the program's and the document's ways of it are one. -/
import Derived.Test.YtoheamfnddfgkaaPBx0
import Derived.Test.YtoheamfnddfgkaaPBx1
import Derived.Test.YtoheamfnddfgkaaPBx2
import Derived.Test.YtoheamfnddfgkaaPBx3
import Derived.Test.YtoheamfnddfgkaaPBx4
import Derived.Test.YtoheamfnddfgkaaPBx5
import Derived.Test.YtoheamfnddfgkaaPBx6
import Derived.Test.YtoheamfnddfgkaaPBx7
import Derived.Test.YtoheamfnddfgkaaPBx8
import Derived.Test.YtoheamfnddfgkaaPBx9
import Derived.Test.YtoheamfnddfgkaaPBx10
import Derived.Test.YtoheamfnddfgkaaPBx11
import Derived.Test.YtoheamfnddfgkaaPBx12
namespace Go.Proofs.Ytoheamfnddfgkaa.St
open Go.RowKit Go.Proofs.YtoheamfnddfgkaaW.PrintWords Go.Proofs.Ytoheamfnddfgkaa.PB
set_option linter.unusedVariables false
set_option linter.unusedSimpArgs false

/-! ### rows that are the same -/
theorem rd_drop (l : List Int) (i : Nat) (h : i < l.length) : l.drop i = rd l (i : Int) :: l.drop (i + 1) := by
 rw [List.drop_eq_getElem_cons h]
 simp [rd, List.getD_eq_getElem?_getD, h]
theorem w1 (i : Nat) (h : i < 9223372036854775807) : wrap64 ((i : Int) + 1) = ((i + 1 : Nat) : Int) := by unfold wrap64; omega
theorem sameBytes_l (x y : List Int) (hl : x.length = y.length) (hm : x.length < 9223372036854775807) : ∀ (m i k : Nat), i + m = x.length → m < k → rosettekit_SameBytes.l0 k x y (i : Int) = some (decide (x.drop i = y.drop i))
 | 0, i, k + 1, hi, hk => by
  simp only [rosettekit_SameBytes.l0]
  rw [if_neg (by omega), List.drop_of_length_le (by omega), List.drop_of_length_le (by omega)]
  rfl
 | m + 1, i, k + 1, hi, hk => by
  simp only [rosettekit_SameBytes.l0]
  rw [if_pos (by omega), if_pos (by omega), if_pos (by omega), rd_drop x i (by omega), rd_drop y i (by omega), w1 i (by omega)]
  by_cases h : rd x (i : Int) = rd y (i : Int)
  ·rw [if_pos h, sameBytes_l x y hl hm m (i + 1) k (by omega) (by omega)]
   congr 1
   simp [h]
  ·rw [if_neg h]
   simp [h]
theorem sameBytes_f (x y : List Int) (hm : x.length < 9223372036854775807) (k : Nat) (hk : x.length < k) : rosettekit_SameBytes.f k x y = some (decide (x = y)) := by
 unfold rosettekit_SameBytes.f
 by_cases h : x.length = y.length
 ·rw [if_pos (by omega)]
  have := sameBytes_l x y h hm x.length 0 k (by omega) hk
  simpa using this
 ·rw [if_neg (by omega)]
  congr 1
  symm
  rw [decide_eq_false_iff_not]
  rintro rfl
  exact h rfl
theorem sameLimbs_l (x y : List Int) (hl : x.length = y.length) (hm : x.length < 9223372036854775807) : ∀ (m i k : Nat), i + m = x.length → m < k → rosettekit_SameLimbs.l0 k x y (i : Int) = some (decide (x.drop i = y.drop i))
 | 0, i, k + 1, hi, hk => by
  simp only [rosettekit_SameLimbs.l0]
  rw [if_neg (by omega), List.drop_of_length_le (by omega), List.drop_of_length_le (by omega)]
  rfl
 | m + 1, i, k + 1, hi, hk => by
  simp only [rosettekit_SameLimbs.l0]
  rw [if_pos (by omega), if_pos (by omega), if_pos (by omega), rd_drop x i (by omega), rd_drop y i (by omega), w1 i (by omega)]
  by_cases h : rd x (i : Int) = rd y (i : Int)
  ·rw [if_pos h, sameLimbs_l x y hl hm m (i + 1) k (by omega) (by omega)]
   congr 1
   simp [h]
  ·rw [if_neg h]
   simp [h]
theorem sameLimbs_f (x y : List Int) (hm : x.length < 9223372036854775807) (k : Nat) (hk : x.length < k) : rosettekit_SameLimbs.f k x y = some (decide (x = y)) := by
 unfold rosettekit_SameLimbs.f
 by_cases h : x.length = y.length
 ·rw [if_pos (by omega)]
  have := sameLimbs_l x y h hm x.length 0 k (by omega) hk
  simpa using this
 ·rw [if_neg (by omega)]
  congr 1
  symm
  rw [decide_eq_false_iff_not]
  rintro rfl
  exact h rfl
theorem sameInt_f (s t : Bool) (x y : List Int) (hm : x.length < 9223372036854775807) (k : Nat) (hk : x.length < k) : rosettekit_SameInt.f k s x t y = some (decide (s = t ∧ x = y)) := by
 unfold rosettekit_SameInt.f
 rw [sameLimbs_f x y hm k hk]
 by_cases h : s = t
 ·subst h
  simp
 ·rw [if_neg (by simpa using h)]
  simp [h]
theorem sameInt_law (s : Bool) (x : List Int) (n e : Int) (hm : x.length < 9223372036854775807) (k : Nat) (hk : x.length < k) : rosettelaw30_sameInt.f k s x n e s x n e = some true := by
 unfold rosettelaw30_sameInt.f
 rw [sameInt_f s s x x hm k hk]
 simp
/-! ### groups -/
def grp : Nat → Nat → List Int
 | 0, _ => []
 | f + 1, n => if 128 ≤ n then ((n % 128 + 128 : Nat) : Int) :: grp f (n / 128) else [(n : Int)]
theorem grp_len : ∀ (f n : Nat), (grp f n).length ≤ f
 | 0, _ => by simp [grp]
 | f + 1, n => by
  simp only [grp]
  split
  ·simp only [List.length_cons]
   have := grp_len f (n / 128)
   omega
  ·simp
theorem or128 : ∀ c : Fin 256, Go.bits .or .u8 (c.val : Int) 128 = ((c.val % 128 + 128 : Nat) : Int) := by decide +kernel
theorem or128' (n : Nat) : Go.bits .or .u8 ((n : Int) % 256) 128 = ((n % 128 + 128 : Nat) : Int) := by
 have h := or128 ⟨n % 256, by omega⟩
 simp only at h
 rw [show (n : Int) % 256 = ((n % 256 : Nat) : Int) by omega, h]
 omega
theorem pw (f n : Nat) (h : n < 128 ^ (f + 1)) : n / 128 < 128 ^ f := by
 rw [Nat.pow_succ, Nat.mul_comm] at h
 exact Nat.div_lt_of_lt_mul h
theorem groups_l : ∀ (f n k : Nat) (out : List Int), n < 128 ^ f → 0 < f → f ≤ k → out.length + f < 140737488355328 → store_groups.l0 k out (n : Int) = some (out ++ grp f n)
 | f + 1, n, k + 1, out, hn, _, hk, ho => by
  simp only [store_groups.l0, grp]
  by_cases h : 128 ≤ n
  ·rw [if_pos (by omega), if_pos (by omega), or128', if_pos h, show (n : Int) / 128 = ((n / 128 : Nat) : Int) by omega]
   have hf : 0 < f := by
    rcases Nat.eq_zero_or_pos f with rfl | h'
    ·simp at hn; omega
    ·exact h'
   rw [groups_l f (n / 128) k _ (pw f n hn) hf (by omega) (by simp; omega)]
   simp
  ·rw [if_neg (by omega), if_pos (by omega), if_neg h, show (n : Int) % 256 = (n : Int) by omega]
/-- A number up to 2^63 in groups. -/
def grpS (n : Nat) : List Int := grp 10 n
theorem groups_f (n k : Nat) (out : List Int) (hn : n < 9223372036854775808) (hk : 10 ≤ k) (ho : out.length < 140737488355300) : store_groups.f k out (n : Int) = some (out ++ grpS n) :=
 groups_l 10 n k out (Nat.lt_of_lt_of_le hn (by decide)) (by decide) hk (by omega)
/-! ### limbs as bytes -/
def bF : Nat → Nat → List Int
 | 0, _ => []
 | m + 1, u => ((u % 256 : Nat) : Int) :: bF m (u / 256)
theorem bF_len : ∀ m u, (bF m u).length = m
 | 0, _ => rfl
 | m + 1, u => by simp [bF, bF_len m]
def okL64 (l : List Int) : Prop := ∀ x ∈ l, 0 ≤ x ∧ x < 18446744073709551616
def limbsS (l : List Int) : List Int := (l.map (fun u => bF 8 u.toNat)).flatten
theorem limbsS_cons (u : Int) (l : List Int) : limbsS (u :: l) = bF 8 u.toNat ++ limbsS l := by simp [limbsS]
theorem limbsS_len : ∀ l, (limbsS l).length = 8 * l.length
 | [] => rfl
 | u :: l => by
  rw [limbsS_cons, List.length_append, bF_len, limbsS_len l, List.length_cons]
  omega
theorem number_l1 : ∀ (m j u : Nat) (k : Nat) (out l : List Int) (n i : Int), j + m = 8 → out.length + m < 140737488355328 →
  store_number.l1 (k + m + 1) out (u : Int) l n i (j : Int) = store_number.l0 k (out ++ bF m u) l n (wrap64 (i + 1))
 | 0, j, u, k, out, l, n, i, hj, ho => by
  simp only [store_number.l1, bF]
  rw [if_neg (by omega), List.append_nil]
 | m + 1, j, u, k, out, l, n, i, hj, ho => by
  rw [show k + (m + 1) + 1 = (k + m + 1) + 1 by omega, store_number.l1]
  simp only [bF]
  rw [if_pos (by omega), if_pos (by omega), w1 j (by omega), show (u : Int) / 256 = ((u / 256 : Nat) : Int) by omega, number_l1 m (j + 1) (u / 256) k _ l n i (by omega) (by simp; omega), show (u : Int) % 256 = ((u % 256 : Nat) : Int) by omega]
  simp
theorem number_l0 : ∀ (m i k : Nat) (out l : List Int), okL64 l → i + m = l.length → 10 * m < k → out.length + 8 * m < 140737488355328 → l.length < 140737488355328 →
  store_number.l0 k out l (l.length : Int) (i : Int) = some (out ++ limbsS (l.drop i))
 | 0, i, k + 1, out, l, hl, hi, hk, ho, hm => by
  simp only [store_number.l0]
  rw [if_neg (by omega), List.drop_of_length_le (by omega)]
  simp [limbsS]
 | m + 1, i, k + 1, out, l, hl, hi, hk, ho, hm => by
  simp only [store_number.l0]
  rw [if_pos (by omega), if_pos (by omega), if_pos (by omega)]
  have hlt : i < l.length := by omega
  have hd := rd_drop l i hlt
  have hmem : rd l (i : Int) ∈ l := by
   have : rd l (i : Int) ∈ l.drop i := by rw [hd]; exact List.mem_cons_self
   exact List.mem_of_mem_drop this
  obtain ⟨u, hu⟩ : ∃ u : Nat, rd l (i : Int) = (u : Int) := ⟨(rd l (i : Int)).toNat, by have := hl _ hmem; omega⟩
  rw [hd, hu, limbsS_cons]
  obtain ⟨k', rfl⟩ : ∃ k', k = k' + 8 + 1 := ⟨k - 9, by omega⟩
  have := number_l1 8 0 u k' out l (l.length : Int) (i : Int) rfl (by omega)
  rw [show ((0 : Nat) : Int) = 0 from rfl] at this
  rw [this, w1 i (by omega), number_l0 m (i + 1) k' _ l hl (by omega) (by omega) (by rw [List.length_append, bF_len]; omega) hm]
  simp
/-- The bytes of a right whole number. -/
def numberS (s : Bool) (l : List Int) : List Int := grpS (2 * l.length + s.toNat) ++ limbsS l
theorem number_f (s : Bool) (l out : List Int) (hl : okL64 l) (hm : l.length ≤ 4096) (ho : out.length < 140737488000000) (k : Nat) (hk : 10 * l.length + 20 < k) : store_number.f k out s l = some (out ++ numberS s l) := by
 obtain ⟨k, rfl⟩ : ∃ k', k = k' + 1 := ⟨k - 1, by omega⟩
 have hg := groups_f (2 * l.length + s.toNat) k out (by have := Bool.toNat_le s; omega) (by omega) (by omega)
 have hg2 : (grpS (2 * l.length + s.toNat)).length ≤ 10 := grp_len _ _
 have h0 := number_l0 l.length 0 k (out ++ grpS (2 * l.length + s.toNat)) l hl (by omega) (by omega) (by rw [List.length_append]; omega) (by omega)
 have hj : store_number.j0 (k + 1) out (((2 * l.length + s.toNat : Nat)) : Int) s l = some (out ++ numberS s l) := by
  simp only [store_number.j0]
  rw [hg]
  simp only [Option.bind_some]
  rw [show (0 : Int) = ((0 : Nat) : Int) from rfl, h0]
  simp [numberS]
 unfold store_number.f
 cases s
 ·rw [if_neg (by simp), ← hj]
  congr 1
  unfold wrap64
  simp
  omega
 ·rw [if_pos rfl, ← hj]
  congr 1
  unfold wrap64
  simp
  omega
theorem rightP_f (s : Bool) (l : List Int) (hm : l.length ≤ 9223372036854775807) : limb_Right.f s l = some (rightB s l) := by
 unfold limb_Right.f rightB
 have hw : wrap64 ((l.length : Int) - 1) = (l.length : Int) - 1 := by unfold wrap64; omega
 rw [hw]
 by_cases h0 : l.length = 0
 ·rw [if_pos (by omega), if_pos h0, if_neg (by omega : ¬ (l.length : Int) > 0)]
  cases s <;> simp
 ·rw [if_neg (by omega), if_neg h0, if_pos (by omega)]
  by_cases h1 : l.length ≤ 4096
  ·rw [if_pos (by omega), if_pos (by omega), if_pos (by omega)]
   have e : rd l ((l.length : Int) - 1) = l.getD (l.length - 1) 0 := by
    unfold rd
    congr 1
    omega
   rw [e]
   simp [h1]
  ·rw [if_neg (by omega)]
   simp [h1]
theorem right_len {s : Bool} {l : List Int} (h : rightB s l = true) : l.length ≤ 4096 := by
 unfold rightB at h
 split at h
 ·omega
 ·simp at h; exact h.1
/-- What is put. -/
def putS (s : Bool) (l : List Int) : List Int × Int := if rightB s l = true then (numberS s l, 0) else ([], 2)
theorem put_f (s : Bool) (l : List Int) (hl : okL64 l) (hm : l.length ≤ 9223372036854775807) (k : Nat) (hk : 41000 ≤ k) : store_Put.f k s l = some (putS s l) := by
 unfold store_Put.f putS
 rw [rightP_f s l hm]
 simp only [Option.bind_some]
 by_cases h : rightB s l = true
 ·rw [if_pos h, if_pos h, number_f s l [] hl (right_len h) (by simp) k (by have := right_len h; omega)]
  simp
 ·rw [if_neg h, if_neg h]
/-! ### small -/
theorem wr {x : Int} (h1 : -9223372036854775808 ≤ x) (h2 : x ≤ 9223372036854775807) : wrap64 x = x := by unfold wrap64; omega
theorem toNat_add (x : Nat) : ((x : Nat) : Int).toNat = x := Int.toNat_natCast x
theorem addN (x y : Nat) (h : x + y ≤ 4611686018427387904) : wrap64 ((x : Int) + (y : Int)) = ((x + y : Nat) : Int) := by rw [wr (by omega) (by omega)]; omega
theorem getS_len (b : List Int) : (getS b).2.1.length ≤ 4096 := by
 unfold getS numS
 cases hg : groupsS 8193 b with
 | none => simp
 | some p =>
  obtain ⟨v, j⟩ := p
  simp only
  split
  ·rename_i h
   split at h
   ·cases h
   ·split at h
    ·rename_i h2
     simp only [Option.some.injEq, Prod.mk.injEq] at h
     rw [← h.1.2]
     exact right_len h2
    ·cases h
  ·simp
theorem get_f (b : List Int) (ho : okB b) (hb : b.length ≤ 4611686018427387904) : store_Get.f b = some (getS b) := by
 unfold store_Get.f
 rw [if_pos ⟨ho, hb⟩]
theorem putS_len (s : Bool) (l : List Int) : (putS s l).1.length ≤ 32778 := by
 unfold putS
 split
 ·rename_i h
  have := right_len h
  have := grp_len 10 (2 * l.length + s.toNat)
  simp only [numberS, List.length_append, limbsS_len, grpS]
  omega
 ·simp
/-! ### rows of certificates that are the same -/
theorem sameInts_l (x : List Int) (hm : x.length < 9223372036854775807) : ∀ (m i k : Nat), i + m = x.length → m < k → rosettekit_SameInts.l0 k x x (i : Int) = some true
 | 0, i, k + 1, hi, hk => by
  rw [rosettekit_SameInts.l0, if_neg (by omega)]
 | m + 1, i, k + 1, hi, hk => by
  rw [rosettekit_SameInts.l0, if_pos (by omega), if_pos (by omega), if_pos (by omega), if_pos rfl, w1 i (by omega)]
  exact sameInts_l x hm m (i + 1) k (by omega) (by omega)
theorem sameInts_f (x : List Int) (hm : x.length < 9223372036854775807) (k : Nat) (hk : x.length < k) : rosettekit_SameInts.f k x x = some true := by
 unfold rosettekit_SameInts.f
 rw [if_pos rfl]
 exact sameInts_l x hm x.length 0 k (by omega) hk
/-- A certificate whose rows are no longer than N. -/
def shortC (N : Nat) (c : S61) : Prop := c.f0.f1.length ≤ N ∧ c.f1.f1.length ≤ N ∧ c.f2.length ≤ N ∧ c.f3.length ≤ N
theorem sameCert_f (N : Nat) (hN : N < 9223372036854775807) (c : S61) (hc : shortC N c) (k : Nat) (hk : N < k) : rosettekit_SameCert.f k c.f0.f0 c.f0.f1 c.f1.f0 c.f1.f1 c.f2 c.f3 c.f0.f0 c.f0.f1 c.f1.f0 c.f1.f1 c.f2 c.f3 = some true := by
 obtain ⟨h1, h2, h3, h4⟩ := hc
 unfold rosettekit_SameCert.f
 rw [sameInt_f _ _ _ _ (by omega) k (by omega), sameInt_f _ _ _ _ (by omega) k (by omega), sameInts_f _ (by omega) k (by omega), sameInts_f _ (by omega) k (by omega)]
 simp
theorem rd_mem {l : List S61} {i : Nat} (h : i < l.length) : rd_T61 l (i : Int) ∈ l := by
 have : rd_T61 l (i : Int) = l[i] := by simp [rd_T61, List.getD_eq_getElem?_getD, h]
 rw [this]
 exact List.getElem_mem h
theorem sameCerts_l (N : Nat) (hN : N < 9223372036854775807) (x : List S61) (hx : ∀ c ∈ x, shortC N c) (hm : x.length < 9223372036854775807) : ∀ (m i k : Nat), i + m = x.length → m + N < k → rosettekit_SameCerts.l0 k x x (i : Int) = some true
 | 0, i, k + 1, hi, hk => by
  rw [rosettekit_SameCerts.l0, if_neg (by omega)]
 | m + 1, i, k + 1, hi, hk => by
  rw [rosettekit_SameCerts.l0, if_pos (by omega), if_pos (by omega), if_pos (by omega), sameCert_f N hN _ (hx _ (rd_mem (by omega))) k (by omega)]
  simp only [Option.bind_some, if_true]
  rw [w1 i (by omega)]
  exact sameCerts_l N hN x hx hm m (i + 1) k (by omega) (by omega)
theorem sameCerts_f (N : Nat) (hN : N < 9223372036854775807) (x : List S61) (hx : ∀ c ∈ x, shortC N c) (hm : x.length < 9223372036854775807) (k : Nat) (hk : x.length + N < k) : rosettekit_SameCerts.f k x x = some true := by
 unfold rosettekit_SameCerts.f
 rw [if_pos rfl]
 exact sameCerts_l N hN x hx hm x.length 0 k (by omega) hk
end Go.Proofs.Ytoheamfnddfgkaa.St
