/- store: what a reader's number comes to (plain), and Right. -/
import Derived.Test.YtoheamfnddfgkaaPAx1
import Derived.Test.YtoheamfnddfgkaaStB
namespace Go.Proofs.Ytoheamfnddfgkaa.St
open Go.RowKit Go.Proofs.YtoheamfnddfgkaaW.PrintWords Go.Proofs.YtoheamfnddfgkaaW.PrintLast Go.Proofs.YtoheamfnddfgkaaW.PrintMore
set_option linter.unusedVariables false
set_option linter.unusedSimpArgs false

/-- Is it a right whole number? -/
def rightB (s : Bool) (l : List Int) : Bool := if l.length = 0 then !s else (decide (l.length ≤ 4096) && (l.getD (l.length - 1) 0 != 0))
theorem right_f (s : Bool) (l : List Int) (hm : l.length ≤ 9223372036854775807) : PA.limb_Right.f s l = some (rightB s l) := by
  unfold PA.limb_Right.f rightB
  have hw : wrap64 ((l.length : Int) - 1) = (l.length : Int) - 1 := by unfold wrap64; omega
  rw [hw]
  by_cases h0 : l.length = 0
  · rw [if_pos (by omega), if_pos h0, if_neg (by omega : ¬ (l.length : Int) > 0)]
    cases s <;> simp
  · rw [if_neg (by omega), if_neg h0, if_pos (by omega)]
    by_cases h1 : l.length ≤ 4096
    · rw [if_pos (by omega), if_pos (by omega), if_pos (by omega)]
      have e : rd l ((l.length : Int) - 1) = l.getD (l.length - 1) 0 := by
        unfold rd
        congr 1
        omega
      rw [e]
      simp [h1]
    · rw [if_neg (by omega)]
      simp [h1]
theorem right_c (s : Bool) (A : Option Addr) (c : Nat) (l : List Int) (w : World) (hr : Kd.C (Kd.int .u64) w A l.length l) (hc : l.length ≤ c) :
    Calls Try.prog 35 #[.agg #[.bool s, .slice A l.length c]] w fun e w' => e = .returned (.bool (rightB s l)) ∧ Below w.heap.size w w' :=
  PA.limb_Right.calls s A c l _ w hr hc (right_f s l hr.2.1)

/-- A word of bytes, little endian: the i last of eight. -/
def w8 (l : List Int) : Nat → Nat
  | 0 => 0
  | i + 1 => w8 l i * 256 + (l.getD (7 - i) 0).toNat
theorem byte_lt {l : List Int} (h : okB l) (i : Nat) : 0 ≤ l.getD i 0 ∧ l.getD i 0 < 256 := by
  rw [List.getD_eq_getElem?_getD]
  by_cases hi : i < l.length
  · rw [List.getElem?_eq_getElem hi]
    exact h _ (List.getElem_mem hi)
  · rw [List.getElem?_eq_none (by omega)]
    simp
theorem w8_lt {l : List Int} (h : okB l) : ∀ i, w8 l i < 256 ^ i
  | 0 => by simp [w8]
  | i + 1 => by
    have := w8_lt h i
    have := byte_lt h (7 - i)
    simp only [w8, Nat.pow_succ]
    omega
theorem w8_lt64 {l : List Int} (h : okB l) {i : Nat} (hi : i ≤ 8) : w8 l i < 18446744073709551616 :=
  Nat.lt_of_lt_of_le (w8_lt h i) (Nat.le_trans (Nat.pow_le_pow_right (by decide) hi) (by decide))
theorem w8_lt56 {l : List Int} (h : okB l) {i : Nat} (hi : i ≤ 7) : w8 l i < 72057594037927936 :=
  Nat.lt_of_lt_of_le (w8_lt h i) (Nat.le_trans (Nat.pow_le_pow_right (by decide) hi) (by decide))
def words : Nat → List Int → List Int
  | 0, _ => []
  | q + 1, l => (w8 l 8 : Int) :: words q (l.drop 8)
theorem words_len : ∀ (q : Nat) (l : List Int), (words q l).length = q
  | 0, _ => rfl
  | q + 1, l => by simp [words, words_len q]
theorem words_ok : ∀ {q : Nat} {l : List Int}, okB l → ∀ x ∈ words q l, 0 ≤ x ∧ x < 18446744073709551616
  | 0, _, _ => fun x hx => by simp [words] at hx
  | q + 1, l, h => fun x hx => by
    simp only [words, List.mem_cons] at hx
    rcases hx with rfl | hx
    · have := w8_lt64 h (Nat.le_refl 8)
      omega
    · exact words_ok (okB_drop h 8) x hx
/-- A number at the front of bytes: its sign, its limbs, and how many bytes. -/
def numS (b : List Int) : Option ((Bool × List Int) × Nat) :=
  match groupsS 8193 b with
  | none => none
  | some (n, k) =>
    if b.length < k + n.toNat / 2 * 8 then none
    else if rightB (n.toNat % 2 == 1) (words (n.toNat / 2) ((b.drop k).take (n.toNat / 2 * 8))) = true then some ((n.toNat % 2 == 1, words (n.toNat / 2) ((b.drop k).take (n.toNat / 2 * 8))), k + n.toNat / 2 * 8) else none
theorem shl8 (n : Nat) (hn : n < 72057594037927936) : IntKind.u64.wrap ((n : Int) * 2 ^ 8) = ((n * 256 : Nat) : Int) := by
  rw [IntKind.wrap_u64]
  omega
theorem or8 (n c : Nat) (hn : n < 72057594037927936) (hc : c < 256) : bits .or .u64 ((n * 256 : Nat) : Int) (c : Int) = ((n * 256 + c : Nat) : Int) := by
  have h := u64_or_nat (n * 256) c (by omega) (by omega)
  have e : n * 256 ||| c = n * 256 + c := by
    have := Nat.two_pow_add_eq_or_of_lt (i := 8) (show c < 2 ^ 8 by omega) n
    rw [Nat.mul_comm, ← this, Nat.mul_comm]
  rw [h, e]
theorem and1 (n : Nat) (hn : n < 4611686018427387904) : bits .and .i64 (n : Int) 1 = ((n % 2 : Nat) : Int) := by
  have hx : n &&& 1 < 2 ^ 62 := Nat.lt_of_le_of_lt Nat.and_le_left (by omega)
  have e : n &&& 1 = n % 2 := Nat.and_one_is_mod n
  show IntKind.i64.wrap ((BitVec.ofInt 64 (n : Int) &&& BitVec.ofInt 64 ((1 : Nat) : Int)).toNat : Int) = _
  rw [BitVec.toNat_and, ofInt_u64 n (by omega), ofInt_u64 1 (by omega), IntKind.wrap_i64, e]
  omega
end Go.Proofs.Ytoheamfnddfgkaa.St
