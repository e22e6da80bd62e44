/- store: StoreNumbers: the numbers, plain. -/
import Derived.Test.YtoheamfnddfgkaaStU
import Derived.Test.YtoheamfnddfgkaaStVr
import Derived.Test.YtoheamfnddfgkaaStCr
import Derived.Test.YtoheamfnddfgkaaStCo
namespace Go.Proofs.Ytoheamfnddfgkaa.St
open Go.RowKit Go.Proofs.YtoheamfnddfgkaaW.PrintWords Go.Proofs.Ytoheamfnddfgkaa.PB
set_option linter.unusedVariables false
set_option linter.unusedSimpArgs false

/-- As many limbs as may be (K + 1), the highest bit alone. -/
def fullL (K : Nat) : List Int := List.replicate K 0 ++ [9223372036854775808]
theorem fullL_len (K : Nat) : (fullL K).length = K + 1 := by unfold fullL; simp
theorem fullL_ok (K : Nat) : okL64 (fullL K) := fun x hx => by
  unfold fullL at hx
  rw [List.mem_append] at hx
  rcases hx with hx | hx
  · rw [List.eq_of_mem_replicate hx]; omega
  · rw [List.mem_singleton.1 hx]; omega
theorem fullL_right (s : Bool) (K : Nat) (h : K < 4096) : rightB s (fullL K) = true := by
  unfold rightB
  rw [fullL_len, if_neg (by omega)]
  have : (fullL K).getD (K + 1 - 1) 0 = 9223372036854775808 := by
    unfold fullL
    rw [List.getD_eq_getElem?_getD, List.getElem?_append_right (by simp)]
    simp
  rw [this]
  simp
  omega
theorem put_full (K : Nat) (h : K = 4095) : putS true (fullL K) = (numberS true (fullL K), 0) := by
  unfold putS
  rw [if_pos (fullL_right true K (by omega))]
theorem grp_full : grpS 8193 = [129, 64] := by decide
theorem number_full (K : Nat) (h : K = 4095) : numberS true (fullL K) = 129 :: 64 :: limbsS (fullL K) := by
  unfold numberS
  rw [fullL_len, show 2 * (K + 1) + true.toNat = 8193 by rw [h]; rfl, grp_full]
  rfl
theorem number_full_len (K : Nat) (h : K = 4095) : (numberS true (fullL K)).length = 32770 := by
  rw [number_full K h]
  simp only [List.length_cons, limbsS_len, fullL_len]
  omega
theorem get_full (K : Nat) (h : K = 4095) (m : List Int) : getS (numberS true (fullL K) ++ m) = (true, fullL K, 32770, 0) := by
  rw [numS_get (num_back true (fullL K) m (fullL_ok K) (fullL_right true K (by omega))), number_full_len K h]
  rfl
theorem get_short (K : Nat) (h : K = 4095) : getS ((numberS true (fullL K)).take 32769) = (false, [], 0, 400) := by
  refine numS_get0 ?_
  rw [number_full K h]
  have e : (129 :: 64 :: limbsS (fullL K)).take 32769 = 129 :: 64 :: (limbsS (fullL K)).take 32767 := rfl
  rw [e]
  have hg : ∀ l : List Int, groupsS 8193 (129 :: 64 :: l) = some (8193, 2) := fun l => by
    unfold groupsS
    simp [gr]
  unfold numS
  rw [hg]
  have hl : (129 :: 64 :: (limbsS (fullL K)).take 32767).length = 32769 := by
    simp only [List.length_cons, List.length_take, limbsS_len, fullL_len]
    omega
  simp only [hl]
  rw [if_pos (by decide)]
theorem put_long (N : Nat) (h : N = 4097) : putS false (List.replicate N 0) = ([], 2) := by
  unfold putS
  have : rightB false (List.replicate N (0 : Int)) = false := by
    unfold rightB
    rw [List.length_replicate, if_neg (by omega)]
    simp
    omega
  rw [this, if_neg (by decide)]
/-- No certificate at all, and some. -/
def zc (n : Nat) : S61 := ⟨z24, z24, List.replicate n 0, List.replicate n 0⟩
def pc : S61 := ⟨z24, z24, [], [1]⟩
theorem certs65 : certsT (List.replicate 65 z61) = ([], 3) := by
  unfold certsT
  rw [if_pos (by rw [List.length_replicate]; omega)]
theorem certs64 : (certsT (List.replicate 64 z61)).2 = 0 ∧ (certsT (List.replicate 64 z61)).1.length = 193 := by decide +kernel
theorem long65 : certsT [zc 65] = ([], 2) := by decide +kernel
theorem long64 : (certsT [zc 64]).2 = 0 := by decide +kernel
theorem many65 : certsT (List.replicate 3 z61 ++ pc :: List.replicate 61 z61) = ([], 3) := by
  unfold certsT
  rw [if_pos (by simp)]
theorem many4 : certsT (List.replicate 3 z61 ++ [pc]) = ([], 2) := by decide +kernel
theorem okL_nil : okL64 [] ∧ ([] : List Int).length ≤ 9223372036854775807 := ⟨fun x hx => (nomatch hx), by decide⟩
theorem okI_nil : okI64 [] ∧ ([] : List Int).length ≤ 9223372036854775807 := ⟨fun x hx => (nomatch hx), by decide⟩
theorem okI_one (a : Int) (h1 : -9223372036854775808 ≤ a) (h2 : a ≤ 9223372036854775807) : okI64 [a] ∧ [a].length ≤ 9223372036854775807 := ⟨fun x hx => (by rw [List.mem_singleton.1 hx]; exact ⟨h1, h2⟩), by simp⟩
theorem okI_rep (n : Nat) (h : n ≤ 9223372036854775807) : okI64 (List.replicate n 0) ∧ (List.replicate n (0 : Int)).length ≤ 9223372036854775807 := ⟨fun x hx => (by rw [List.eq_of_mem_replicate hx]; omega), by rw [List.length_replicate]; exact h⟩
theorem okCert_z61 : okCert z61 := ⟨okL_nil, okL_nil, okI_nil, okI_nil⟩
theorem okCert_zc (n : Nat) (h : n ≤ 9223372036854775807) : okCert (zc n) := ⟨okL_nil, okL_nil, okI_rep n h, okI_rep n h⟩
theorem okCert_pair (a b : Int) (h1 : -9223372036854775808 ≤ a) (h2 : a ≤ 9223372036854775807) (h3 : -9223372036854775808 ≤ b) (h4 : b ≤ 9223372036854775807) : okCert ⟨z24, z24, [a], [b]⟩ := ⟨okL_nil, okL_nil, okI_one a h1 h2, okI_one b h3 h4⟩
theorem okCert_pc : okCert pc := ⟨okL_nil, okL_nil, okI_nil, okI_one 1 (by omega) (by omega)⟩
end Go.Proofs.Ytoheamfnddfgkaa.St
