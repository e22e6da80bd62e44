/- Walks of package shuffle. -/
import Derived.Test.YtdmbkjghoflflaaDoorRows
import Derived.Test.YtdmbkjghoflflaaDoorShM
import Derived.WalkKit
import Derived.WalkLawsBesides
import Derived.Outline
import Derived.Lib.Hide
namespace Go.Proofs.YtdmbkjghoflflaaDoor.Sh
open Go.RowKit

/-- The table's cells. -/
def Nib (w : World) : Prop := ∀ j, j < 16 → w.cell? ⟨1, j, none⟩ = some (.int .u8 (nib j))

set_option maxHeartbeats 400000 in
theorem turned_c (o p : Nat) (ho : o ≤ 14) (hp : p < 16384) (w : World) (hN : Nib w) :
    Calls Tryd.prog 18 #[.int .i64 o, .int .i64 p] w fun e w' => e = .returned (.int .i64 (tk 4 p / 2 ^ (16 - o) : Nat)) ∧ w = w' := by
  have HN := Lib.hid hN
  clear hN
  go_enter Tryd.func18, Tryd.ntmps18
  go_wp2
  go_loop [1, 5, 6] (fun pl out i => ∃ k : Nat, k ≤ 4 ∧ i = .int .i64 k ∧ pl = .int .i64 (pk k p : Nat) ∧ out = .int .i64 (tk k p : Nat)) (fun _ _ i => 4 - (intOf i).toNat)
  case atStart => exact ⟨0, by omega, rfl, by simp [pk], rfl⟩
  case round =>
    obtain ⟨k, hk, rfl, rfl, rfl⟩ := hrel
    by_cases hlt : k < 4
    · have hq : pk k p < 16384 := by unfold pk; exact Nat.lt_of_le_of_lt (Nat.div_le_self _ _) hp
      have ht : tk k p < 4096 := Nat.lt_of_lt_of_le (tk_lt k p) (by
        have : (16 : Nat) ^ k ≤ 16 ^ 3 := Nat.pow_le_pow_right (by decide) (by omega)
        exact this)
      have hc := HN.out (pk k p % 16) (by omega)
      have hb := and15 (pk k p) (by omega)
      have ho' := or_nib (tk k p) (nib (pk k p % 16)) (by omega) (nib_lt _)
      have hn := nib_lt (pk k p % 16)
      have e1 : Hid (tk (k + 1) p = tk k p * 16 + nib (pk k p % 16)) := Lib.hid rfl
      have e2 := Lib.hid (pk_succ k p)
      go_wp2
      go_round
      case rel => exact ⟨k + 1, by omega, by go_num, by rw [e2.out]; go_num, by rw [e1.out]; go_num⟩
      case measure => simp [intOf]; omega
    · obtain rfl : k = 4 := by omega
      have ht : tk 4 p < 65536 := tk_lt 4 p
      go_wp2
      go_ret
      exact ⟨rfl, rfl⟩


/-- What `Turned` answers. -/
def okT (o p : Int) : Prop := 0 ≤ o ∧ o ≤ 14 ∧ 0 ≤ p ∧ p < 2 ^ o.toNat

set_option maxHeartbeats 400000 in
set_option maxRecDepth 100000 in
theorem turned_yes (o p : Nat) (ho : o ≤ 14) (hp : p < 2 ^ o) (w : World) (hN : Nib w) :
    Calls Tryd.prog 5 #[.int .i64 o, .int .i64 p] w fun e w' => e = .returned (.tuple #[.int .i64 (rk o p : Nat), .int .i64 0]) ∧ w = w' := by
  have hm : p < 16384 := Nat.lt_of_lt_of_le hp (Nat.pow_le_pow_right (by decide) ho)
  have c := turned_c o p ho hm w hN
  rw [agree_all o p ho hp] at c
  have C := Lib.hid c
  clear c hN
  have hi : (p : Int) < 2 ^ o := by exact_mod_cast hp
  have hpow : (2 : Int) ^ o ≤ 16384 := by
    have : 2 ^ o ≤ 2 ^ 14 := Nat.pow_le_pow_right (by decide) ho
    exact_mod_cast this
  go_enter Tryd.func5, Tryd.ntmps5
  go_wp2_with fail
  refine C.out.mono ?_; rintro e w' ⟨rfl, rfl⟩
  go_wp2
  go_ret2
  exact ⟨rfl, rfl⟩

theorem wrap_pow (o : Nat) (h : (2 : Int) ^ o ≤ 16384) : wrap64 ((2 : Int) ^ o) = 2 ^ o := by
  have h0 : (0 : Int) < 2 ^ o := Int.pow_pos (by decide)
  unfold wrap64
  generalize (2 : Int) ^ o = q at *
  omega
/-- What lies outside. -/
def Bad (o p : Int) : Prop := o < 0 ∨ 14 < o ∨ p < 0 ∨ (0 ≤ o ∧ o ≤ 14 ∧ (2 : Int) ^ o.toNat ≤ p)

set_option maxHeartbeats 400000 in
set_option maxRecDepth 100000 in
theorem turned_no (o p : Int) (h : Bad o p) (w : World) :
    Calls Tryd.prog 5 #[.int .i64 o, .int .i64 p] w fun e w' => e = .returned (.tuple #[.int .i64 0, .int .i64 2]) ∧ w = w' := by
  by_cases h1 : o < 0
  · clear h
    go_enter Tryd.func5, Tryd.ntmps5
    go_wp2
    go_ret2
    exact ⟨rfl, rfl⟩
  by_cases h2 : 14 < o
  · clear h
    go_enter Tryd.func5, Tryd.ntmps5
    go_wp2
    go_ret2
    exact ⟨rfl, rfl⟩
  by_cases h3 : p < 0
  · clear h
    go_enter Tryd.func5, Tryd.ntmps5
    go_wp2
    go_ret2
    exact ⟨rfl, rfl⟩
  obtain ⟨_, _, h4⟩ : 0 ≤ o ∧ o ≤ 14 ∧ (2 : Int) ^ o.toNat ≤ p := by rcases h with h | h | h | h <;> first | exact h | omega
  obtain ⟨o, rfl⟩ := Int.eq_ofNat_of_zero_le (show 0 ≤ o by omega)
  rw [Int.toNat_natCast] at h4
  have hpow : (2 : Int) ^ o ≤ 16384 := by
    have : 2 ^ o ≤ 2 ^ 14 := Nat.pow_le_pow_right (by decide) (by omega)
    exact_mod_cast this
  obtain ⟨q, hq⟩ : ∃ q : Int, (2 : Int) ^ o = q := ⟨_, rfl⟩
  have hw := wrap_pow o hpow
  rw [hq] at h4 hpow hw
  go_enter Tryd.func5, Tryd.ntmps5
  go_wp2
  go_ret2
  exact ⟨rfl, rfl⟩

set_option maxHeartbeats 400000 in
set_option maxRecDepth 100000 in
theorem rturned_no (o p : Int) (h : Bad o p) (w : World) :
    Calls Tryd.prog 6 #[.int .i64 o, .int .i64 p] w fun e w' => e = .returned (.tuple #[.int .i64 0, .int .i64 2]) ∧ w = w' := by
  by_cases h1 : o < 0
  · clear h
    go_enter Tryd.func6, Tryd.ntmps6
    go_wp2
    go_ret2
    exact ⟨rfl, rfl⟩
  by_cases h2 : 14 < o
  · clear h
    go_enter Tryd.func6, Tryd.ntmps6
    go_wp2
    go_ret2
    exact ⟨rfl, rfl⟩
  by_cases h3 : p < 0
  · clear h
    go_enter Tryd.func6, Tryd.ntmps6
    go_wp2
    go_ret2
    exact ⟨rfl, rfl⟩
  obtain ⟨_, _, h4⟩ : 0 ≤ o ∧ o ≤ 14 ∧ (2 : Int) ^ o.toNat ≤ p := by rcases h with h | h | h | h <;> first | exact h | omega
  obtain ⟨o, rfl⟩ := Int.eq_ofNat_of_zero_le (show 0 ≤ o by omega)
  rw [Int.toNat_natCast] at h4
  have hpow : (2 : Int) ^ o ≤ 16384 := by
    have : 2 ^ o ≤ 2 ^ 14 := Nat.pow_le_pow_right (by decide) (by omega)
    exact_mod_cast this
  have hw := wrap_pow o hpow
  go_enter Tryd.func6, Tryd.ntmps6
  go_wp2
  go_ret2
  exact ⟨rfl, rfl⟩

set_option maxHeartbeats 400000 in
set_option maxRecDepth 100000 in
theorem rturned_yes (o p : Nat) (ho : o ≤ 14) (hp : p < 2 ^ o) (w : World) :
    Calls Tryd.prog 6 #[.int .i64 o, .int .i64 p] w fun e w' => e = .returned (.tuple #[.int .i64 (rk o p : Nat), .int .i64 0]) ∧ w = w' := by
  have hm : p < 16384 := Nat.lt_of_lt_of_le hp (Nat.pow_le_pow_right (by decide) ho)
  have hi : (p : Int) < 2 ^ o := by exact_mod_cast hp
  have hpow : (2 : Int) ^ o ≤ 16384 := by
    have : 2 ^ o ≤ 2 ^ 14 := Nat.pow_le_pow_right (by decide) ho
    exact_mod_cast this
  have hw := wrap_pow o hpow
  go_enter Tryd.func6, Tryd.ntmps6
  go_wp2
  clear hi hpow hw
  go_loop [1, 6, 7] (fun pl out i => ∃ k : Nat, k ≤ o ∧ i = .int .i64 k ∧ pl = .int .i64 (qk k p : Nat) ∧ out = .int .i64 (rk k p : Nat)) (fun _ _ i => o - (intOf i).toNat)
  case atStart => exact ⟨0, by omega, rfl, by simp [qk], rfl⟩
  case round =>
    obtain ⟨k, hk, rfl, rfl, rfl⟩ := hrel
    by_cases hlt : k < o
    · have hq : qk k p < 16384 := by unfold qk; exact Nat.lt_of_le_of_lt (Nat.div_le_self _ _) hm
      have ht : rk k p < 16384 := Nat.lt_of_lt_of_le (rk_lt k p) (by
        have : (2 : Nat) ^ k ≤ 2 ^ 14 := Nat.pow_le_pow_right (by decide) (by omega)
        exact this)
      have e1 : Hid (rk (k + 1) p = 2 * rk k p + qk k p % 2) := Lib.hid rfl
      have e2 := Lib.hid (qk_succ k p)
      go_wp2
      go_round
      case rel => exact ⟨k + 1, by omega, by go_num, by rw [e2.out]; go_num, by rw [e1.out]; go_num⟩
      case measure => simp [intOf]; omega
    · obtain rfl : k = o := by omega
      go_wp2
      go_ret2
      exact ⟨rfl, rfl⟩

end Go.Proofs.YtdmbkjghoflflaaDoor.Sh
