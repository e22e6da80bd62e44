/- Plain: numbers in groups of seven bits, words of eight bytes, as a reader reads them. | store: the reader's groups. | store: the reader's take. | store: what a reader's number comes to (plain), and Right. | store: the reader's number. | store: face's deferred closure. | store: Get's closure. | store: face over Get's closure. | store: Get. | store: what a reader's certificate and certificates come to (plain). | store: what is known while a certificate's factors and powers are read; a call in a drawn region that gives up. | store: the reader's certificate. -/
import Derived.Test.YtoheamfnddfgkaaWAll
import Derived.WalkKit
import Derived.WalkLawsBesides
import Derived.Deep.QuietTactic
import Derived.BigQuiet
import Derived.Laws.BitsAllLaws
import Derived.LoopTactic
import Derived.Lib.Hide
import Derived.Deep.RegionWith
import Derived.Outline
import Derived.Test.YtoheamfnddfgkaaProg
import Derived.Test.YtoheamfnddfgkaaPAx1
import Derived.Tactics2
import Derived.Defers
import Derived.Recover
set_option linter.unusedVariables false
namespace Go.Proofs.Ytoheamfnddfgkaa.St

def okB (l : List Int) : Prop := ∀ x ∈ l, 0 ≤ x ∧ x < 256
theorem okB_drop {l : List Int} (h : okB l) (n : Nat) : okB (l.drop n) := fun x hx => h x (List.mem_of_mem_drop hx)
theorem okB_take {l : List Int} (h : okB l) (n : Nat) : okB (l.take n) := fun x hx => h x (List.mem_of_mem_take hx)
/-- Groups: r may come yet, i have come, of worth n; the number and how many groups. -/
def gr (most : Int) : Nat → Nat → Int → List Int → Option (Int × Nat)
 | 0, _, _, _ => none
 | _ + 1, _, _, [] => none
 | r + 1, i, n, c :: l =>
  if 128 ≤ c then gr most r (i + 1) (n + c % 128 * 2 ^ (7 * i)) l
  else if most < n + c % 128 * 2 ^ (7 * i) ∨ (c = 0 ∧ 0 < i) then none else some (n + c % 128 * 2 ^ (7 * i), i + 1)
def groupsS (most : Int) (l : List Int) : Option (Int × Nat) := gr most 5 0 0 l
theorem gr_len {most : Int} : ∀ {r i : Nat} {n : Int} {l : List Int} {v : Int} {k : Nat}, gr most r i n l = some (v, k) → i < k ∧ k ≤ i + l.length ∧ k ≤ i + r
 | 0, _, _, _, _, _, h => by simp [gr] at h
 | _ + 1, _, _, [], _, _, h => by simp [gr] at h
 | r + 1, i, n, c :: l, v, k, h => by
  simp only [gr] at h
  split at h
  ·have := gr_len h
   simp only [List.length_cons]
   omega
  ·split at h
   ·cases h
   ·simp only [Option.some.injEq, Prod.mk.injEq] at h
    simp only [List.length_cons]
    omega
theorem gr_val {most : Int} : ∀ {r i : Nat} {n : Int} {l : List Int} {v : Int} {k : Nat}, 0 ≤ n → okB l → gr most r i n l = some (v, k) → 0 ≤ v ∧ v ≤ most
 | 0, _, _, _, _, _, _, _, h => by simp [gr] at h
 | _ + 1, _, _, [], _, _, _, _, h => by simp [gr] at h
 | r + 1, i, n, c :: l, v, k, hn, ho, h => by
  have hp : (0 : Int) ≤ c % 128 * 2 ^ (7 * i) := Int.mul_nonneg (by omega) (Int.le_of_lt (by exact_mod_cast Nat.two_pow_pos (7 * i)))
  simp only [gr] at h
  split at h
  ·exact gr_val (by omega) (fun x hx => ho x (by simp [hx])) h
  ·split at h
   ·cases h
   ·rename_i h2
    simp only [Option.some.injEq, Prod.mk.injEq] at h
    omega
theorem gr_cons (most : Int) (r i n y m : Nat) (l : List Int) (hm : n + y % 128 * 2 ^ (7 * i) = m) :
  gr most (r + 1) i (n : Int) ((y : Int) :: l) = if 128 ≤ y then gr most r (i + 1) (m : Int) l else if most < (m : Int) ∨ (y = 0 ∧ 0 < i) then none else some ((m : Int), i + 1) := by
 have hval : (n : Int) + (y : Int) % 128 * 2 ^ (7 * i) = (m : Int) := by rw [← hm]; simp
 simp only [gr, hval]
 by_cases h1 : 128 ≤ y
 ·rw [if_pos h1, if_pos (show (128 : Int) ≤ (y : Int) by omega)]
 ·rw [if_neg h1, if_neg (show ¬ (128 : Int) ≤ (y : Int) by omega)]
  by_cases h2 : most < (m : Int) ∨ (y = 0 ∧ 0 < i)
  ·rw [if_pos h2, if_pos (show most < (m : Int) ∨ ((y : Int) = 0 ∧ 0 < i) by omega)]
  ·rw [if_neg h2, if_neg (show ¬ (most < (m : Int) ∨ ((y : Int) = 0 ∧ 0 < i)) by omega)]
theorem m_bound {n q s m : Nat} (hn : n < 2 ^ s) (hq : q < 128) (hm : n + q * 2 ^ s = m) : m < 2 ^ (s + 7) := by
 rw [Nat.pow_add]
 have h2 : q * 2 ^ s + 2 ^ s ≤ 128 * 2 ^ s := by
  rw [← Nat.succ_mul]
  exact Nat.mul_le_mul_right _ hq
 have h3 : 2 ^ s * 2 ^ 7 = 128 * 2 ^ s := by rw [Nat.mul_comm]
 rw [h3, ← hm]
 generalize q * 2 ^ s = P at *
 generalize 2 ^ s = R at *
 omega
theorem m_small {m s : Nat} (h : m < 2 ^ (s + 7)) (hs : s ≤ 28) : m < 34359738368 :=
 Nat.lt_of_lt_of_le h (Nat.le_trans (Nat.pow_le_pow_right (by decide) (show s + 7 ≤ 35 by omega)) (by decide))
end Go.Proofs.Ytoheamfnddfgkaa.St
namespace Go.Proofs.Ytoheamfnddfgkaa.St
open Go.RowKit Go.Proofs.YtoheamfnddfgkaaW.PrintWords Go.Proofs.YtoheamfnddfgkaaW.PrintLast Go.Proofs.YtoheamfnddfgkaaW.PrintMore
set_option linter.unusedVariables false
set_option linter.unusedSimpArgs false

abbrev u8 : Kd Int := Kd.int .u8
/-- A reader in block g, over bytes b, at a place. -/
structure RS (w0 : World) (g : Nat) (A : Option Addr) (c : Nat) (b : List Int) (x : Nat) (w : World) : Prop where
 blk : w.heap[g]? = some (.cells #[.slice A b.length c, .int .i64 (x : Int)] 70 (0, 0))
 rds : ∀ W, KeepBut w W g none → u8.C W A b.length b
 hb : Below w0.heap.size w0 w
 hg : w0.heap.size ≤ g
theorem RS.keep {w0 w w' : World} {g : Nat} {A : Option Addr} {c : Nat} {b : List Int} {x y : Nat} (h : RS w0 g A c b x w) (hk : KeepBut w w' g none) (hb : Below w0.heap.size w0 w') (hy : w'.heap[g]? = some (.cells #[.slice A b.length c, .int .i64 (y : Int)] 70 (0, 0))) : RS w0 g A c b y w' :=
 ⟨hy, fun W hW => h.rds W (hk.trans hW (.inl rfl)), hb, h.hg⟩
theorem RS.drewN {w0 w : World} {g : Nat} {A : Option Addr} {c : Nat} {b : List Int} {x : Nat} (h : RS w0 g A c b x w) (n : Nat) : RS w0 g A c b x (w.drewN n) :=
 h.keep (keep_drewN (KeepBut.refl _ _ _) n) (pw_below_drewN h.hb n) h.blk
theorem RS.set {w0 w : World} {g : Nat} {A : Option Addr} {c : Nat} {b : List Int} {x : Nat} (h : RS w0 g A c b x w) (y : Nat) : RS w0 g A c b y (w.setCell ⟨g, 1, none⟩ (.int .i64 (y : Int))) :=
 h.keep ((KeepBut.refl _ _ _).set_ _ _) (h.hb.setCell h.hg _) (blk_set h.blk 1 (.int .i64 (y : Int)))
theorem RS.cells {w0 w : World} {g : Nat} {A : Option Addr} {c : Nat} {b : List Int} {x : Nat} (h : RS w0 g A c b x w) :
  w.cell? ⟨g, 0, none⟩ = some (.slice A b.length c) ∧ w.cell? ⟨g, 1, none⟩ = some (.int .i64 (x : Int)) ∧ w.frozen? ⟨g, 0, none⟩ = false ∧ w.frozen? ⟨g, 1, none⟩ = false := by
 refine ⟨?_, ?_, ?_, ?_⟩ <;> simp [World.cell?, World.frozen?, h.blk]
theorem RS.byte {w0 w : World} {g : Nat} {A : Option Addr} {c : Nat} {b : List Int} {x : Nat} (h : RS w0 g A c b x w) (j : Nat) (hj : j < b.length) : ∃ ad, A = some ad ∧ w.cell? (ad.add j) = some (.int .u8 (b.getD j 0)) := by
 obtain ⟨ad, e, hc⟩ := Kd.at_int (h.rds w (KeepBut.refl _ _ _)) (j : Int) (by omega) (by omega)
 exact ⟨ad, e, by simpa [rd] using hc⟩
theorem and7 (c : Nat) (hc : c < 256) : bits .and .u8 (c : Int) 127 = ((c % 128 : Nat) : Int) := by
 have h := u8_and_nat c 127 hc (by decide)
 have e : c &&& 127 = c % 128 := by
  have := Nat.and_two_pow_sub_one_eq_mod c 7
  simpa using this
 rw [e] at h
 exact h
theorem shl7 (c s : Nat) (hc : c < 128) (hi : s ≤ 28) : wrap64 ((c : Int) * 2 ^ s) = ((c * 2 ^ s : Nat) : Int) := by
 have hlt : c * 2 ^ s < 2 ^ 42 := by
  have h1 : 2 ^ s ≤ 2 ^ 28 := Nat.pow_le_pow_right (by decide) hi
  have h2 : c * 2 ^ s ≤ 127 * 2 ^ 28 := Nat.mul_le_mul (by omega) h1
  omega
 rw [show (c : Int) * 2 ^ s = ((c * 2 ^ s : Nat) : Int) by simp]
 unfold wrap64
 omega
theorem i64_or_nat (a b : Nat) (ha : a < 4611686018427387904) (hb : b < 4611686018427387904) : bits .or .i64 (a : Int) (b : Int) = ((a ||| b : Nat) : Int) := by
 have hx : a ||| b < 2 ^ 62 := Nat.or_lt_two_pow (by omega) (by omega)
 show IntKind.i64.wrap ((BitVec.ofInt 64 (a : Int) ||| BitVec.ofInt 64 (b : Int)).toNat : Int) = _
 rw [BitVec.toNat_or, ofInt_u64 a (by omega), ofInt_u64 b (by omega), IntKind.wrap_i64]
 omega
theorem or7 (n c s : Nat) (hn : n < 2 ^ s) (hc : c < 128) (hs : s ≤ 28) : bits .or .i64 (n : Int) ((c * 2 ^ s : Nat) : Int) = ((n + c * 2 ^ s : Nat) : Int) := by
 have h2 : c * 2 ^ s ≤ 127 * 2 ^ 28 := Nat.mul_le_mul (by omega) (Nat.pow_le_pow_right (by decide) hs)
 have h1 : n < 2 ^ 28 := Nat.lt_of_lt_of_le hn (Nat.pow_le_pow_right (by decide) hs)
 have h := i64_or_nat n (c * 2 ^ s) (by omega) (by omega)
 have e : n ||| c * 2 ^ s = n + c * 2 ^ s := by
  rw [Nat.or_comm, Nat.mul_comm, ← Nat.two_pow_add_eq_or_of_lt hn, Nat.add_comm]
 rw [h, e]
/-- What comes of a reader's part. -/
def Gives (w0 : World) (g : Nat) (A : Option Addr) (c : Nat) (b : List Int) (x : Nat) (w : World) (r : Option (Int × Nat)) (e : Ending) (w' : World) : Prop :=
 match r with
 | some (v, k) => e = .returned (.int .i64 v) ∧ Aside0 (RS w0 g A c b (x + k) w') ∧ Aside0 (KeepBut w w' g none)
 | none => e = .panicked [{ v := .iface 79 (.int .i64 (x : Int)), recovered := false }] ∧ (∃ y, RS w0 g A c b y w') ∧ Aside0 (KeepBut w w' g none)
theorem gives_none {w0 : World} {g : Nat} {A : Option Addr} {c : Nat} {b : List Int} {x y : Nat} {w w' : World} (h : RS w0 g A c b y w') (hk : KeepBut w w' g none) : Gives w0 g A c b x w none (.panicked [{ v := .iface 79 (.int .i64 (x : Int)), recovered := false }]) w' := ⟨rfl, ⟨y, h⟩, ⟨hk⟩⟩
theorem gives_some {w0 : World} {g : Nat} {A : Option Addr} {c : Nat} {b : List Int} {x k : Nat} {v : Int} {w w' : World} (h : RS w0 g A c b (x + k) w') (hk : KeepBut w w' g none) : Gives w0 g A c b x w (some (v, k)) (.returned (.int .i64 v)) w' := ⟨rfl, ⟨h⟩, ⟨hk⟩⟩
set_option maxRecDepth 100000 in
set_option maxHeartbeats 4000000 in
theorem groups_c (w0 : World) (g : Nat) (A : Option Addr) (c : Nat) (b : List Int) (x : Nat) (w : World) (most : Int) (hr : RS w0 g A c b x w) (hx : x ≤ b.length) (ho : okB b) (hn : b.length ≤ 4611686018427387904) (hc : b.length ≤ c) (hm : most ≤ 4611686018427387904) :
  Calls Try.prog 48 #[.pointer (some ⟨g, 0, none⟩), .int .i64 most] w (Gives w0 g A c b x w (groupsS most (b.drop x))) := by
 have HR := Aside0.mk hr
 have HO := Aside0.mk ho
 have hu := Try.underlying70
 obtain ⟨c0, c1, f0, f1⟩ := hr.cells
 clear hr ho
 obtain ⟨G, hG⟩ : ∃ G, groupsS most (b.drop x) = G := ⟨_, rfl⟩
 have HG := Aside0.mk hG
 rw [hG]
 clear hG
 go_enter Try.func48, Try.ntmps48
 go_wp2
 go_loopw [6, 7] (fun v6 v7 wr => ∃ (i n s : Nat), i ≤ 5 ∧ Aside0 (s = 7 * i) ∧ v7 = .int .i64 (s : Int) ∧ v6 = .int .i64 (n : Int) ∧ Aside0 (n < 2 ^ s) ∧ x + i ≤ b.length ∧ Aside0 (gr most (5 - i) i (n : Int) (b.drop (x + i)) = G) ∧ Aside0 (RS w0 g A c b (x + i) wr) ∧ Aside0 (KeepBut w wr g none)) (fun _ v7 _ => 35 - (intOf v7).toNat)
 case atStart => exact ⟨0, 0, 0, by omega, ⟨rfl⟩, rfl, rfl, ⟨by decide⟩, by omega, ⟨by simpa [groupsS] using HG.out⟩, ⟨HR.out⟩, ⟨KeepBut.refl _ _ _⟩⟩
 case round =>
  obtain ⟨i, n, s, hi, hs, rfl, rfl, hn7, hxi, hG, hR, hK⟩ := hrel
  obtain ⟨d0, d1, e0, e1⟩ := hR.out.cells
  by_cases hi5 : i = 5
  ·have hs35 : s = 35 := by rw [hs.out, hi5]
   have hnone : G = none := by rw [← hG.out, hi5]; rfl
   subst hs35
   subst hnone
   go_wp2
   exact ⟨rfl, gives_none hR.out hK.out⟩
  ·have hs28 : s ≤ 28 := by have := hs.out; omega
   by_cases he : x + i = b.length
   ·have hnone : G = none := by
     rw [← hG.out, List.drop_of_length_le (by omega)]
     obtain ⟨r, hr⟩ : ∃ r, 5 - i = r + 1 := ⟨4 - i, by omega⟩
     rw [hr]; rfl
    subst hnone
    have he1 : decide ((x : Int) + (i : Int) = (b.length : Int)) = true := decide_eq_true (by omega)
    have he2 : ((x + i : Nat) : Int) = (b.length : Int) := by omega
    go_wp2
    go_quiet (fail)
    go_wp2
    exact ⟨rfl, gives_none (hR.out.drewN _) (keep_drewN hK.out _)⟩
   ·have hlt : x + i < b.length := by omega
    obtain ⟨ad, hA, hcell⟩ := hR.out.byte (x + i) hlt
    subst hA
    have hby := HO.out _ (List.getElem_mem hlt)
    have hgd : b.getD (x + i) 0 = b[x + i] := by simp [List.getD_eq_getElem?_getD, List.getElem?_eq_getElem hlt]
    obtain ⟨y, hy, hy1⟩ : ∃ y : Nat, b[x + i] = (y : Int) ∧ y < 256 := ⟨(b[x + i]).toNat, by omega, by omega⟩
    rw [hgd, hy] at hcell
    have hG2 : Aside0 (gr most (5 - i) i (n : Int) ((y : Int) :: b.drop (x + i + 1)) = G) := ⟨by rw [← hy, ← List.drop_eq_getElem_cons hlt]; exact hG.out⟩
    clear hby hgd hy
    have he1 : (((x + i : Nat) : Int) == (b.length : Int)) = false := by simp; omega
    have hi1 : (((x + i : Nat) : Int)) < (b.length : Int) := by omega
    have hi0 : (0 : Int) ≤ ((x + i : Nat) : Int) := by omega
    obtain ⟨p, hp⟩ : ∃ p, x + i = p := ⟨_, rfl⟩
    rw [hp] at he1 hi1 hi0 hcell d1 hlt
    have HP := Aside0.mk hp
    obtain ⟨q, hq⟩ : ∃ q, y % 128 = q := ⟨_, rfl⟩
    have hq1 : q < 128 := by omega
    have hA := and7 y hy1
    have hS := shl7 q s hq1 hs28
    have hO := or7 n q s hn7.out hq1 hs28
    obtain ⟨m, hm2⟩ : ∃ m, n + q * 2 ^ s = m := ⟨_, rfl⟩
    obtain ⟨tt, htt⟩ : ∃ t, q * 2 ^ s = t := ⟨_, rfl⟩
    rw [hq] at hA
    rw [htt] at hS hO hm2
    rw [hm2] at hO
    have hmb : m < 2 ^ (s + 7) := m_bound hn7.out hq1 (by rw [htt]; exact hm2)
    have HG3 : Aside0 ((if 128 ≤ y then gr most (4 - i) (i + 1) (m : Int) (b.drop (x + i + 1)) else if most < (m : Int) ∨ (y = 0 ∧ 0 < i) then none else some ((m : Int), i + 1)) = G) := ⟨by
     rw [← hG2.out, show 5 - i = (4 - i) + 1 by omega]
     exact (gr_cons most (4 - i) i n y m _ (by rw [hq, ← hs.out, htt, hm2])).symm⟩
    have hmm : m < 34359738368 := m_small hmb hs28
    have HMB := Aside0.mk hmb
    clear hG2 hmb hm2 htt hq
    have hRS : ∀ k, RS w0 g (some ad) c b (x + (i + 1)) (((wr.drewN k).setCell ⟨g, 1, none⟩ (.int .i64 ((p : Int) + 1)))) := fun k => by
     have h := (hR.out.drewN k).set (p + 1)
     rw [show x + (i + 1) = p + 1 by have := HP.out; omega]
     exact h
    have HRS := Aside0.mk hRS
    clear hRS
    by_cases h128 : 128 ≤ y
    ·rw [if_pos h128] at HG3
     go_wp2
     go_quiet (fail)
     go_wp2
     go_quiet (fail)
     go_wp2
     exact ⟨⟨i + 1, m, s + 7, by omega, ⟨by have := hs.out; omega⟩, by go_num, rfl, HMB, by have := HP.out; omega, ⟨by rw [show 5 - (i + 1) = 4 - i by omega, show x + (i + 1) = x + i + 1 by omega]; exact HG3.out⟩, ⟨HRS.out _⟩, ⟨(keep_drewN hK.out _).set_ _ _⟩⟩, by simp [intOf]; omega⟩
    ·rw [if_neg h128] at HG3
     by_cases hbad : most < (m : Int) ∨ (y = 0 ∧ 0 < i)
     ·rw [if_pos hbad] at HG3
      obtain ⟨rfl⟩ := HG3
      by_cases hb1 : most < (m : Int)
      ·clear hbad
       go_wp2
       go_quiet (fail)
       go_wp2
       go_quiet (fail)
       go_wp2
       exact ⟨rfl, gives_none ((hR.out.drewN _).set (p + 1)) ((keep_drewN hK.out _).set_ _ _)⟩
      ·have hz : ((y : Int) == 0) = true := by simp; omega
       have hs0 : 0 < s := by have := hs.out; omega
       clear hbad
       go_wp2
       go_quiet (fail)
       go_wp2
       go_quiet (fail)
       go_wp2
       exact ⟨rfl, gives_none ((hR.out.drewN _).set (p + 1)) ((keep_drewN hK.out _).set_ _ _)⟩
     ·rw [if_neg hbad] at HG3
      obtain ⟨rfl⟩ := HG3
      have hb1 : ¬ most < (m : Int) := fun h => hbad (.inl h)
      by_cases hy0 : y = 0
      ·have hz : ((y : Int) == 0) = true := by simp; omega
       have hs0 : ¬ 0 < s := by have := hs.out; intro h; exact hbad (.inr ⟨hy0, by omega⟩)
       clear hbad hy0
       go_wp2
       go_quiet (fail)
       go_wp2
       go_quiet (fail)
       go_wp2
       go_ret
       exact gives_some (HRS.out _) ((keep_drewN hK.out _).set_ _ _)
      ·have hz : ((y : Int) == 0) = false := by simp; omega
       clear hbad hy0
       go_wp2
       go_quiet (fail)
       go_wp2
       go_quiet (fail)
       go_wp2
       go_ret
       exact gives_some (HRS.out _) ((keep_drewN hK.out _).set_ _ _)
end Go.Proofs.Ytoheamfnddfgkaa.St
namespace Go.Proofs.Ytoheamfnddfgkaa.St
open Go.RowKit Go.Proofs.YtoheamfnddfgkaaW.PrintWords Go.Proofs.YtoheamfnddfgkaaW.PrintLast Go.Proofs.YtoheamfnddfgkaaW.PrintMore
set_option linter.unusedVariables false
set_option linter.unusedSimpArgs false

/-- What comes of taking so many bytes. -/
def Takes (w0 : World) (g : Nat) (A : Option Addr) (c : Nat) (b : List Int) (x N : Nat) (from_ : Int) (w : World) (e : Ending) (w' : World) : Prop :=
 if b.length < x + N then e = .panicked [{ v := .iface 79 (.int .i64 from_), recovered := false }] ∧ (∃ y, RS w0 g A c b y w') ∧ Aside0 (KeepBut w w' g none)
 else ∃ A', e = .returned (.slice A' N N) ∧ Aside0 (∀ W, KeepBut w' W g none → u8.C W A' N ((b.drop x).take N)) ∧ Aside0 (RS w0 g A c b (x + N) w') ∧ Aside0 (KeepBut w w' g none)
set_option maxRecDepth 100000 in
set_option maxHeartbeats 2000000 in
theorem take_c (w0 : World) (g : Nat) (A : Option Addr) (c : Nat) (b : List Int) (x N : Nat) (w : World) (from_ : Int) (hr : RS w0 g A c b x w) (hx : x ≤ b.length) (hn : b.length ≤ 4611686018427387904) (hc : b.length ≤ c) (hN : N ≤ 4611686018427387904) :
  Calls Try.prog 69 #[.pointer (some ⟨g, 0, none⟩), .int .i64 (N : Int), .int .i64 from_] w (Takes w0 g A c b x N from_ w) := by
 have HR := Aside0.mk hr
 have hu := Try.underlying70
 have hus := Try.underlying25
 obtain ⟨c0, c1, f0, f1⟩ := hr.cells
 clear hr
 by_cases hlt : b.length < x + N
 ·have h1 : decide ((b.length : Int) - (x : Int) < (N : Int)) = true := decide_eq_true (by omega)
  have h2 : (b.length : Int) - (x : Int) < (N : Int) := by omega
  have HP : Aside0 (∀ k, Takes w0 g A c b x N from_ w (.panicked [{ v := .iface 79 (.int .i64 from_), recovered := false }]) (w.drewN k)) := ⟨fun k => by unfold Takes; rw [if_pos hlt]; exact ⟨rfl, ⟨_, HR.out.drewN k⟩, ⟨keep_drewN (KeepBut.refl _ _ _) k⟩⟩⟩
  go_enter Try.func69, Try.ntmps69
  go_wp2
  go_quiet (fail)
  go_wp2
  exact ⟨rfl, HP.out _⟩
 ·have h1 : decide ((b.length : Int) - (x : Int) < (N : Int)) = false := decide_eq_false (by omega)
  have h2 : ¬ (b.length : Int) - (x : Int) < (N : Int) := by omega
  have h3 : x + N ≤ b.length := by omega
  have h4 : (x : Int) + (N : Int) ≤ (c : Int) := by omega
  have hdr : ∀ N', N' ≤ b.length - x → ((b.drop x).take N').length = N' := fun N' h => by rw [List.length_take, List.length_drop]; omega
  have HP : Aside0 (∀ A' k, (∀ W, KeepBut w W g none → u8.C W A' N ((b.drop x).take N)) → Takes w0 g A c b x N from_ w (.returned (.slice A' N N)) ((w.drewN k).setCell ⟨g, 1, none⟩ (.int .i64 ((x : Int) + (N : Int))))) := ⟨fun A' k hC => by
   unfold Takes
   rw [if_neg hlt]
   have hk : KeepBut w ((w.drewN k).setCell ⟨g, 1, none⟩ (.int .i64 ((x : Int) + (N : Int)))) g none := (keep_drewN (KeepBut.refl _ _ _) k).set_ _ _
   exact ⟨A', rfl, ⟨fun W hW => hC W (hk.trans hW (.inl rfl))⟩, ⟨(HR.out.drewN k).set (x + N)⟩, ⟨hk⟩⟩⟩
  by_cases hN0 : N = 0
  ·have HC : Aside0 (∀ W, KeepBut w W g none → u8.C W A N ((b.drop x).take N)) := ⟨fun W hW => by
    subst hN0
    have h := Kd.C_take (m := 0) (HR.out.rds W hW) (Nat.zero_le _)
    simpa using h⟩
   clear hdr
   subst hN0
   go_enter Try.func69, Try.ntmps69
   go_wp2
   go_quiet (fail)
   go_wp2
   go_quiet (fail)
   go_wp2
   go_ret
   exact HP.out _ _ HC.out
  ·have hN1 : 0 < N := by omega
   have HC : Aside0 (∀ W, KeepBut w W g none → u8.C W (A.map (fun z => z.add x)) N ((b.drop x).take N)) := ⟨fun W hW => by
    have h := Kd.C_drop (c := x + N) (m := x) (Kd.C_take (m := x + N) (HR.out.rds W hW) h3) (by rw [List.length_take]; omega) (by rw [List.length_take]; omega)
    rw [if_neg (by omega), List.drop_take, show x + N - x = N by omega, hdr N (by omega), show x * u8.sz = x from Nat.mul_one x] at h
    exact h⟩
   have HP2 : Aside0 (∀ k, Takes w0 g A c b x N from_ w (.returned (.slice (A.map (fun z => z.add x)) (x + N - x) (x + N - x))) ((w.drewN k).setCell ⟨g, 1, none⟩ (.int .i64 ((x : Int) + (N : Int))))) := ⟨fun k => by
    rw [show x + N - x = N by omega]
    exact HP.out _ k HC.out⟩
   clear hdr hN0
   go_enter Try.func69, Try.ntmps69
   go_wp2
   go_quiet (fail)
   go_wp2
   go_quiet (fail)
   go_wp2
   go_ret
   exact HP2.out _
end Go.Proofs.Ytoheamfnddfgkaa.St
namespace Go.Proofs.Ytoheamfnddfgkaa.St
open Go.RowKit Go.Proofs.YtoheamfnddfgkaaW.PrintWords Go.Proofs.YtoheamfnddfgkaaW.PrintLast Go.Proofs.YtoheamfnddfgkaaW.PrintMore
set_option linter.unusedVariables false
set_option linter.unusedSimpArgs false

/-- Is it a right whole number? -/
def rightB (s : Bool) (l : List Int) : Bool := if l.length = 0 then !s else (decide (l.length ≤ 4096) && (l.getD (l.length - 1) 0 != 0))
theorem right_f (s : Bool) (l : List Int) (hm : l.length ≤ 9223372036854775807) : PA.limb_Right.f s l = some (rightB s l) := by
 unfold PA.limb_Right.f rightB
 have hw : wrap64 ((l.length : Int) - 1) = (l.length : Int) - 1 := by unfold wrap64; omega
 rw [hw]
 by_cases h0 : l.length = 0
 ·rw [if_pos (by omega), if_pos h0, if_neg (by omega : ¬ (l.length : Int) > 0)]
  cases s <;> simp
 ·rw [if_neg (by omega), if_neg h0, if_pos (by omega)]
  by_cases h1 : l.length ≤ 4096
  ·rw [if_pos (by omega), if_pos (by omega), if_pos (by omega)]
   have e : rd l ((l.length : Int) - 1) = l.getD (l.length - 1) 0 := by
    unfold rd
    congr 1
    omega
   rw [e]
   simp [h1]
  ·rw [if_neg (by omega)]
   simp [h1]
theorem right_c (s : Bool) (A : Option Addr) (c : Nat) (l : List Int) (w : World) (hr : Kd.C (Kd.int .u64) w A l.length l) (hc : l.length ≤ c) :
  Calls Try.prog 35 #[.agg #[.bool s, .slice A l.length c]] w fun e w' => e = .returned (.bool (rightB s l)) ∧ Below w.heap.size w w' :=
 PA.limb_Right.calls s A c l _ w hr hc (right_f s l hr.2.1)
/-- A word of bytes, little endian: the i last of eight. -/
def w8 (l : List Int) : Nat → Nat
 | 0 => 0
 | i + 1 => w8 l i * 256 + (l.getD (7 - i) 0).toNat
theorem byte_lt {l : List Int} (h : okB l) (i : Nat) : 0 ≤ l.getD i 0 ∧ l.getD i 0 < 256 := by
 rw [List.getD_eq_getElem?_getD]
 by_cases hi : i < l.length
 ·rw [List.getElem?_eq_getElem hi]
  exact h _ (List.getElem_mem hi)
 ·rw [List.getElem?_eq_none (by omega)]
  simp
theorem w8_lt {l : List Int} (h : okB l) : ∀ i, w8 l i < 256 ^ i
 | 0 => by simp [w8]
 | i + 1 => by
  have := w8_lt h i
  have := byte_lt h (7 - i)
  simp only [w8, Nat.pow_succ]
  omega
theorem w8_lt56 {l : List Int} (h : okB l) {i : Nat} (hi : i ≤ 7) : w8 l i < 72057594037927936 :=
 Nat.lt_of_lt_of_le (w8_lt h i) (Nat.le_trans (Nat.pow_le_pow_right (by decide) hi) (by decide))
def words : Nat → List Int → List Int
 | 0, _ => []
 | q + 1, l => (w8 l 8 : Int) :: words q (l.drop 8)
theorem words_len : ∀ (q : Nat) (l : List Int), (words q l).length = q
 | 0, _ => rfl
 | q + 1, l => by simp [words, words_len q]
/-- A number at the front of bytes: its sign, its limbs, and how many bytes. -/
def numS (b : List Int) : Option ((Bool × List Int) × Nat) :=
 match groupsS 8193 b with
 | none => none
 | some (n, k) =>
  if b.length < k + n.toNat / 2 * 8 then none
  else if rightB (n.toNat % 2 == 1) (words (n.toNat / 2) ((b.drop k).take (n.toNat / 2 * 8))) = true then some ((n.toNat % 2 == 1, words (n.toNat / 2) ((b.drop k).take (n.toNat / 2 * 8))), k + n.toNat / 2 * 8) else none
theorem shl8 (n : Nat) (hn : n < 72057594037927936) : IntKind.u64.wrap ((n : Int) * 2 ^ 8) = ((n * 256 : Nat) : Int) := by
 rw [IntKind.wrap_u64]
 omega
theorem or8 (n c : Nat) (hn : n < 72057594037927936) (hc : c < 256) : bits .or .u64 ((n * 256 : Nat) : Int) (c : Int) = ((n * 256 + c : Nat) : Int) := by
 have h := u64_or_nat (n * 256) c (by omega) (by omega)
 have e : n * 256 ||| c = n * 256 + c := by
  have := Nat.two_pow_add_eq_or_of_lt (i := 8) (show c < 2 ^ 8 by omega) n
  rw [Nat.mul_comm, ← this, Nat.mul_comm]
 rw [h, e]
theorem and1 (n : Nat) (hn : n < 4611686018427387904) : bits .and .i64 (n : Int) 1 = ((n % 2 : Nat) : Int) := by
 have hx : n &&& 1 < 2 ^ 62 := Nat.lt_of_le_of_lt Nat.and_le_left (by omega)
 have e : n &&& 1 = n % 2 := Nat.and_one_is_mod n
 show IntKind.i64.wrap ((BitVec.ofInt 64 (n : Int) &&& BitVec.ofInt 64 ((1 : Nat) : Int)).toNat : Int) = _
 rw [BitVec.toNat_and, ofInt_u64 n (by omega), ofInt_u64 1 (by omega), IntKind.wrap_i64, e]
 omega
end Go.Proofs.Ytoheamfnddfgkaa.St
namespace Go.Proofs.Ytoheamfnddfgkaa.St
open Go.RowKit Go.Proofs.YtoheamfnddfgkaaW.PrintWords Go.Proofs.YtoheamfnddfgkaaW.PrintLast Go.Proofs.YtoheamfnddfgkaaW.PrintMore
set_option linter.unusedVariables false
set_option linter.unusedSimpArgs false

theorem RS.below {w0 w w1 : World} {g : Nat} {A : Option Addr} {c : Nat} {b : List Int} {x : Nat} (h : RS w0 g A c b x w) (hb : Below w.heap.size w w1) : RS w0 g A c b x w1 :=
 h.keep (KeepBut.of_below hb g none) (below_step h.hb hb) ((hb.block g (blk_lt h.blk)).trans h.blk)
theorem infoU : (Try.prog.info? 58).map (fun i => (i.zero, i.size, i.bytes)) = some (some (.int .u64 0), 1, 8) := by kernel_rfl
theorem keepRow {w W w1 : World} {g : Nat} {row : Option Nat} (h : KeepBut w W g none) (hg : W.grownBy w1 row) (hr : ∀ k, row = some k → w.heap.size ≤ k) : KeepBut w w1 g none :=
 h.trans (KeepBut.of_grown hg g) (by
  cases row with
  | none => exact .inl rfl
  | some k => exact .inr ⟨k, rfl, hr k rfl⟩)
/-- What comes of a reader's number. -/
def GivesN (w0 : World) (g : Nat) (A : Option Addr) (c : Nat) (b : List Int) (x : Nat) (w : World) (r : Option ((Bool × List Int) × Nat)) (e : Ending) (w' : World) : Prop :=
 match r with
 | some ((s, l), k) => ∃ v, e = .returned (.agg #[.bool s, v]) ∧ Aside0 (Kd.R (Kd.int .u64) 58 w' w0.heap.size (fun k => w.heap.size ≤ k) v l) ∧ Aside0 (RS w0 g A c b (x + k) w') ∧ Aside0 (KeepBut w w' g none)
 | none => e = .panicked [{ v := .iface 79 (.int .i64 (x : Int)), recovered := false }] ∧ (∃ y, RS w0 g A c b y w') ∧ Aside0 (KeepBut w w' g none)
theorem givesN_none {w0 : World} {g : Nat} {A : Option Addr} {c : Nat} {b : List Int} {x y : Nat} {w w' : World} (h : RS w0 g A c b y w') (hk : KeepBut w w' g none) : GivesN w0 g A c b x w none (.panicked [{ v := .iface 79 (.int .i64 (x : Int)), recovered := false }]) w' := ⟨rfl, ⟨y, h⟩, ⟨hk⟩⟩
set_option maxRecDepth 100000 in
set_option maxHeartbeats 4000000 in
theorem number_c (w0 : World) (g : Nat) (A : Option Addr) (c : Nat) (b : List Int) (x : Nat) (w : World) (hr : RS w0 g A c b x w) (hx : x ≤ b.length) (ho : okB b) (hn : b.length ≤ 4611686018427387904) (hc : b.length ≤ c) :
  Calls Try.prog 44 #[.pointer (some ⟨g, 0, none⟩)] w (GivesN w0 g A c b x w (numS (b.drop x))) := by
 have HR := Aside0.mk hr
 have HO := Aside0.mk ho
 have hu := Try.underlying70
 have hu24 := Try.underlying24
 clear hr ho
 obtain ⟨Z, hZ⟩ : ∃ Z, numS (b.drop x) = Z := ⟨_, rfl⟩
 have HZ := Aside0.mk hZ
 rw [hZ]
 clear hZ
 obtain ⟨c0, c1, f0, f1⟩ := HR.out.cells
 go_enter Try.func44, Try.ntmps44
 go_wp2_with (first | ((with_reducible refine gate_dst (N := 2) rfl ?_); refine box_event ?hg (N := 2) ?hd (cs := #[.bool false, .slice none 0 0]) (t := 24) ?hr ?_; (case hd => rfl); (case hg => rfl); (case hr => first | (go_simp; done) | (go_simp; rfl)); intro gb hgb w1 hbox hb; have HR1 := Aside0.mk (HR.out.below hb); have HK1 := Aside0.mk (KeepBut.of_below hb g none); have HX1 := Aside0.mk hbox; have HGB := Aside0.mk hgb; clear hb hbox hgb; obtain ⟨c0, c1, f0, f1⟩ := HR1.out.cells))
 refine (groups_c w0 g A c b x _ 8193 HR1.out hx HO.out hn hc (by decide)).mono ?_
 intro e w2 h2
 obtain ⟨G, hG⟩ : ∃ G, groupsS 8193 (b.drop x) = G := ⟨_, rfl⟩
 have HG := Aside0.mk hG
 rw [hG] at h2
 clear hG
 cases G with
 | none =>
  obtain ⟨rfl, ⟨y, hy⟩, hk⟩ := h2
  have hz : Z = none := by rw [← HZ.out]; unfold numS; rw [HG.out]
  subst hz
  exact ⟨rfl, givesN_none hy (HK1.out.trans hk.out (.inl rfl))⟩
 | some p =>
  obtain ⟨v, k⟩ := p
  obtain ⟨rfl, HR2, hk2⟩ := h2
  have HK2 := Aside0.mk (HK1.out.trans hk2.out (.inl rfl))
  have HGG : Aside0 (gb ≠ g) := ⟨by have := blk_lt HR.out.blk; have := HGB.out; omega⟩
  have HX2 := Aside0.mk (hk2.out.blk HX1.out HGG.out (by simp))
  clear hk2
  have hv := gr_val (l := b.drop x) (by decide) (okB_drop HO.out x) HG.out
  have hk := (gr_len HG.out).2.1
  rw [List.length_drop] at hk
  obtain ⟨n, rfl⟩ : ∃ n : Nat, v = (n : Int) := ⟨v.toNat, by omega⟩
  have hn1 : n ≤ 8193 := by omega
  obtain ⟨q, hq⟩ : ∃ q, n / 2 = q := ⟨_, rfl⟩
  have hq1 : wrap64 (Int.tdiv (n : Int) 2) = (q : Int) := by rw [← hq, Int.tdiv_eq_ediv_of_nonneg (by omega)]; unfold wrap64; omega
  have hq2 : (n : Int) / 2 = (q : Int) := by omega
  have hq3 : Int.tdiv (n : Int) 2 = (q : Int) := by rw [Int.tdiv_eq_ediv_of_nonneg (by omega)]; exact hq2
  have hA1 := and1 n (by omega)
  obtain ⟨N, hN⟩ : ∃ N, q * 8 = N := ⟨_, rfl⟩
  have hN1 : (q : Int) * 8 = (N : Int) := by omega
  have hN2 : N ≤ 32768 := by omega
  have hxk : x + k ≤ b.length := by omega
  have HQ := Aside0.mk hq
  have HN := Aside0.mk hN
  clear hq hk hv hN
  go_wp2_with fail
  refine (take_c w0 g A c b (x + k) N w2 (x : Int) HR2.out hxk hn hc (by omega)).mono ?_
  intro e w3 h3
  unfold Takes at h3
  by_cases hlt : b.length < x + k + N
  ·rw [if_pos hlt] at h3
   obtain ⟨rfl, ⟨y, hy⟩, hk⟩ := h3
   have hz : Z = none := by
    rw [← HZ.out]
    unfold numS
    rw [HG.out]
    simp only [Int.toNat_natCast, HQ.out, HN.out]
    rw [if_pos (by rw [List.length_drop]; omega)]
   subst hz
   exact ⟨rfl, givesN_none hy (HK2.out.trans hk.out (.inl rfl))⟩
  ·rw [if_neg hlt] at h3
   obtain ⟨A', rfl, HL, HR3, HK3⟩ := h3
   obtain ⟨s, hs⟩ : ∃ s, (n % 2 == 1) = s := ⟨_, rfl⟩
   have hs1 : ((n : Int) % 2 == 1) = s := by rw [← hs, show (n : Int) % 2 = ((n % 2 : Nat) : Int) by omega]; rcases Nat.mod_two_eq_zero_or_one n with h | h <;> simp [h]
   obtain ⟨L, hL⟩ : ∃ L, words q ((b.drop (x + k)).take N) = L := ⟨_, rfl⟩
   have HZ2 : Aside0 ((if rightB s L = true then some ((s, L), k + N) else none) = Z) := ⟨by
    rw [← HZ.out]
    unfold numS
    rw [HG.out]
    simp only [Int.toNat_natCast, HQ.out, HN.out]
    rw [if_neg (show ¬ ((b.drop x).length < k + N) by rw [List.length_drop]; omega), hs, List.drop_drop, hL]⟩
   have HLL := Aside0.mk hL
   have HNL : Aside0 (((b.drop (x + k)).take N).length = N) := ⟨by rw [List.length_take, List.length_drop]; omega⟩
   have HOL : Aside0 (okB ((b.drop (x + k)).take N)) := ⟨okB_take (okB_drop HO.out _) _⟩
   clear hL hs hlt
   go_wp2_with (first | ((with_reducible refine gate_dst (N := 6) rfl ?_); refine box_event ?hg (N := 6) ?hd (cs := #[.bool false, .slice none 0 0]) (t := 24) ?hr ?_; (case hd => rfl); (case hg => rfl); (case hr => first | (go_simp; done) | (go_simp; rfl)); intro gx hgx w4 hbox hb; have HR4 := Aside0.mk (HR3.out.below hb); have HK4 := Aside0.mk (KeepBut.of_below hb g none); have HB4 := Aside0.mk (below_step HR3.out.hb hb); have HX4 := Aside0.mk hbox; have HGX := Aside0.mk hgx; clear hb hbox hgx; have cx0 := (blk_cell HX4.out 0).trans rfl; have cx1 := (blk_cell HX4.out 1).trans rfl; have fx0 := blk_frozen HX4.out 0; have fx1 := blk_frozen HX4.out 1))
   have HG3 : Aside0 (w3.heap.size ≤ gx) := ⟨by rw [HGX.out]; exact Nat.le_refl _⟩
   have HG0 : Aside0 (w0.heap.size ≤ gx) := ⟨Nat.le_trans HR3.out.hb.size HG3.out⟩
   have HNG : Aside0 (gx ≠ g) := ⟨by have := blk_lt HR3.out.blk; have := HG3.out; omega⟩
   go_loopw [5] (fun v5 wr => ∃ (m M : Nat) (ly : List Int) (Ay : Option Addr) (xs : List Int) (u : Value), v5 = .slice Ay M M ∧ Aside0 (M = 8 * m) ∧ M ≤ 32768 ∧ Aside0 (ly.length = M) ∧ Aside0 (okB ly) ∧ Aside0 (∀ W, KeepBut w3 W g none → u8.C W Ay ly.length ly) ∧ Aside0 (xs ++ words m ly = L) ∧ Aside0 (Kd.R (Kd.int .u64) 58 wr w0.heap.size (fun k => w3.heap.size ≤ k) u xs) ∧ Aside0 (wr.heap[gx]? = some (.cells #[.bool s, u] 24 (0, 0))) ∧ Aside0 (wr.heap[g]? = some (.cells #[.slice A b.length c, .int .i64 ((x + k + N : Nat) : Int)] 70 (0, 0))) ∧ Aside0 (Below w0.heap.size w0 wr) ∧ Aside0 (KeepBut w3 wr g none)) (fun v5 _ => match v5 with | .slice _ n _ => n | _ => 0)
   case atStart => exact ⟨q, N, _, A', [], .slice none 0 0, rfl, ⟨by have := HN.out; omega⟩, hN2, HNL, HOL, ⟨by rw [HNL.out]; exact HL.out⟩, ⟨HLL.out⟩, ⟨Kd.R_nil _ _ _ _ _⟩, ⟨blk_put (cs := #[.bool s, .slice none 0 0]) (blk_put (cs := #[.bool false, .slice none 0 0]) HX4.out 0 _ rfl) 1 _ rfl⟩, ⟨blk_far (blk_far HR4.out.blk HNG.out.symm _) HNG.out.symm _⟩, ⟨(HB4.out.setCell HG0.out _).setCell HG0.out _⟩, ⟨keep_far (keep_far HK4.out HG3.out _) HG3.out _⟩⟩
   case round =>
    obtain ⟨m, M, ly, Ay, xs, u, rfl, HM, hM, HLY, HOY, HCY, HXS, HRX, HBX, HBG, HBW, HKW⟩ := hrel
    clear HX4 HK4 HB4 HR4
    by_cases hm0 : M = 0
    ·have hxl : xs = L := by
      have h0 : m = 0 := by have := HM.out; omega
      have h := HXS.out
      rw [h0] at h
      simpa [words] using h
     subst hxl
     subst hm0
     obtain ⟨Au, cu, eu⟩ := Kd.R_slice HRX.out
     subst eu
     have cx0 := (blk_cell HBX.out 0).trans rfl
     have cx1 := (blk_cell HBX.out 1).trans rfl
     go_wp2_with fail
     refine (right_c s Au cu xs _ (Kd.R_reads' HRX.out).2.2 (Kd.R_reads' HRX.out).2.1).mono ?_
     rintro e w7 ⟨rfl, hb7⟩
     have HK7 := Aside0.mk (HKW.out.trans (KeepBut.of_below hb7 g none) (.inl rfl))
     have HK27 := Aside0.mk (HK3.out.trans HK7.out (.inl rfl))
     have HKw7 := Aside0.mk (HK2.out.trans HK27.out (.inl rfl))
     have HR7 := Aside0.mk (HR3.out.keep HK7.out (below_step HBW.out hb7) ((hb7.block g (blk_lt HBG.out)).trans HBG.out))
     have HX7 := Aside0.mk ((hb7.block gx (blk_lt HBX.out)).trans HBX.out)
     have HY7 := Aside0.mk (HK27.out.blk HX2.out HGG.out (by simp))
     have HRX7 := Aside0.mk (Kd.R_below HRX.out hb7)
     clear hb7 cx0 cx1
     have cx0 := (blk_cell HX7.out 0).trans rfl
     have cx1 := (blk_cell HX7.out 1).trans rfl
     have cb0 := (blk_cell HY7.out 0).trans rfl
     have cb1 := (blk_cell HY7.out 1).trans rfl
     have fb0 := blk_frozen HY7.out 0
     have fb1 := blk_frozen HY7.out 1
     by_cases hR : rightB s xs = true
     ·have hz := HZ2.out
      rw [if_pos hR] at hz
      subst hz
      have HGB3 : Aside0 (∀ k, w3.heap.size ≤ k → k ≠ gb) := ⟨fun k hk => by have := blk_lt HX2.out; have := HK3.out.1; omega⟩
      have HGBw : Aside0 (w.heap.size ≤ gb) := ⟨by rw [HGB.out]; exact Nat.le_refl _⟩
      have HGB0 : Aside0 (w0.heap.size ≤ gb) := ⟨Nat.le_trans HR.out.hb.size HGBw.out⟩
      have HW3 : Aside0 (w.heap.size ≤ w3.heap.size) := ⟨Nat.le_trans HK2.out.1 HK3.out.1⟩
      go_wp2_with fail
      have hK9 : KeepBut w ((w7.setCell ⟨gb, 0, none⟩ (.bool s)).setCell ⟨gb, 1, none⟩ (.slice Au xs.length cu)) g none := keep_far (keep_far HKw7.out HGBw.out _) HGBw.out _
      have hY9 := blk_put (cs := #[.bool s, .slice none 0 0]) (blk_put (cs := #[.bool false, .slice none 0 0]) HY7.out 0 (.bool s) rfl) 1 (.slice Au xs.length cu) rfl
      have hB9 : Below w0.heap.size w0 ((w7.setCell ⟨gb, 0, none⟩ (.bool s)).setCell ⟨gb, 1, none⟩ (.slice Au xs.length cu)) := (HR7.out.hb.setCell HGB0.out _).setCell HGB0.out _
      have hG9 := blk_far (blk_far HR7.out.blk (p := ⟨gb, 0, none⟩) HGG.out.symm (.bool s)) (p := ⟨gb, 1, none⟩) HGG.out.symm (.slice Au xs.length cu)
      refine bodyPost_ret (results_cell_row rfl _ _ gb 24 #[.bool s, .slice Au xs.length cu] (0, 0) _ rfl hY9 Try.underlying24 rfl (by kernel_rfl)) rfl ?_
      exact ⟨_, rfl, ⟨Kd.R_mono (Kd.R_far (p := ⟨gb, 1, none⟩) (Kd.R_far (p := ⟨gb, 0, none⟩) HRX7.out HGB3.out _) HGB3.out _) (fun k hk => Nat.le_trans HW3.out hk)⟩, ⟨by rw [← Nat.add_assoc]; exact HR.out.keep hK9 hB9 hG9⟩, ⟨hK9⟩⟩
     ·have hz := HZ2.out
      rw [if_neg hR] at hz
      subst hz
      have hR2 : rightB s xs = false := by simpa using hR
      clear hR
      go_wp2_with fail
      exact ⟨rfl, givesN_none (HR7.out.drewN 0) HKw7.out⟩
    ·obtain ⟨P, hP⟩ : ∃ P, M = P + 8 := ⟨M - 8, by have := HM.out; omega⟩
     have g1 : decide (0 < (M : Int)) = true := decide_eq_true (by omega)
     have g2 : 0 < M := by omega
     go_wp2
     go_loopw [7, 8] (fun v7 v8 wr => ∃ (i j : Nat), i + j = 8 ∧ v7 = .int .u64 ((w8 ly i : Nat) : Int) ∧ v8 = .int .i64 ((j : Int) - 1) ∧ Aside0 (Kd.R (Kd.int .u64) 58 wr w0.heap.size (fun k => w3.heap.size ≤ k) u xs) ∧ Aside0 (wr.heap[gx]? = some (.cells #[.bool s, u] 24 (0, 0))) ∧ Aside0 (wr.heap[g]? = some (.cells #[.slice A b.length c, .int .i64 ((x + k + N : Nat) : Int)] 70 (0, 0))) ∧ Aside0 (Below w0.heap.size w0 wr) ∧ Aside0 (KeepBut w3 wr g none)) (fun _ v8 _ => (intOf v8 + 1).toNat)
     case atStart => exact ⟨0, 8, rfl, rfl, rfl, HRX, HBX, HBG, HBW, HKW⟩
     case round =>
      clear HRX HBX HBG HBW HKW
      obtain ⟨i, j, hij, rfl, rfl, HRX, HBX, HBG, HBW, HKW⟩ := hrel
      by_cases hj : j = 0
      ·subst hj
       have hi8 : i = 8 := by omega
       subst hi8
       obtain ⟨z, hz⟩ : ∃ z, w8 ly 8 = z := ⟨_, rfl⟩
       have hm1 : Aside0 (m = m - 1 + 1) := ⟨by have := HM.out; omega⟩
       have HXS2 : Aside0 ((xs ++ [(z : Int)]) ++ words (m - 1) (ly.drop 8) = L) := ⟨by rw [← HXS.out, hm1.out, ← hz]; simp [words]⟩
       have HLX : Aside0 ((xs.length + 1) * 8 ≤ 140737488355328) := ⟨by have h1 := congrArg List.length HXS.out; have h2 := congrArg List.length HLL.out; rw [words_len] at h2; rw [List.length_append, words_len] at h1; have := HN.out; omega⟩
       have HD : Aside0 ((ly.drop 8).length = P) := ⟨by rw [List.length_drop, HLY.out]; omega⟩
       have cx0 := (blk_cell HBX.out 0).trans rfl
       have cx1 := (blk_cell HBX.out 1).trans rfl
       rw [hz]
       by_cases hP0 : P = 0
       ·subst hP0
        obtain rfl : M = 8 := by omega
        clear hP hij
        have HCD : Aside0 (∀ W, KeepBut w3 W g none → (Kd.int .u8).C W Ay (ly.drop 8).length (ly.drop 8)) := ⟨fun W hW => by
         have h := Kd.C_drop (c := 8) (m := 8) (HCY.out W hW) (by rw [HLY.out]; exact Nat.le_refl _) (by rw [HLY.out]; exact Nat.le_refl _)
         rwa [if_pos rfl] at h⟩
        go_wp2_with (first | ((with_reducible refine gate_builtin (b := .append) (xs := #[.tmp 43, .tmp 45]) rfl ?_); at_builtin; refine Kd.R_append (Kd.int .u64) (w0 := w0) w0.heap.size rfl (.tmp 43) (.tmp 45) 22 58 (.int .u64 0) 8 rfl Try.underlying22 infoU rfl (by decide) (by omega) u xs (z : Int) [.int .u64 (z : Int)] (fun k => w3.heap.size ≤ k) (fun _ => False) rfl rfl ?aP (fun _ hk => hk.elim) ?aF ?aO ?aB ?aS ?aL ?_; (case aP => exact rfl); (case aB => exact HBW.out); (case aF => exact (fun k hk => Nat.le_trans HKW.out.1 hk)); (case aO => exact HRX.out); (case aS => exact HBW.out.size); (case aL => exact HLX.out); intro u2 w6 ho hb hg hat; obtain ⟨A2, c2, e2⟩ := Kd.R_slice ho; obtain ⟨ln, hln⟩ : ∃ t, (xs ++ [(z : Int)]).length = t := ⟨_, rfl⟩; rw [hln] at e2; clear hln; subst e2; have HR6 := Aside0.mk ho; have HB6 := Aside0.mk hb; have HK6 := Aside0.mk (keepRow HKW.out hg HRX.out.1); have HX6 := Aside0.mk (blk_grown (g := gx) HBX.out hg (Kd.R_ne HRX.out HBX.out (by decide))); have HG6 := Aside0.mk (blk_grown (g := g) HBG.out hg (Kd.R_ne HRX.out HBG.out (by decide))); clear ho hb hg hat; have fx0 := blk_frozen HX6.out 0; have fx1 := blk_frozen HX6.out 1; have cx0 := (blk_cell HX6.out 0).trans rfl; have cx1 := (blk_cell HX6.out 1).trans rfl))
        exact ⟨⟨m - 1, 0, ly.drop 8, Ay, xs ++ [(z : Int)], _, rfl, ⟨by have := HM.out; omega⟩, by omega, ⟨by rw [List.length_drop, HLY.out]⟩, ⟨okB_drop HOY.out 8⟩, ⟨HCD.out⟩, HXS2, ⟨Kd.R_mono (Kd.R_far (p := ⟨gx, 1, none⟩) (Kd.R_types HR6.out HX6.out (by decide)) (fun _ hk => hk.2) _) (fun _ hk => hk.1)⟩, ⟨blk_put (cs := #[.bool s, u]) HX6.out 1 _ rfl⟩, ⟨blk_far HG6.out HNG.out.symm _⟩, ⟨HB6.out.setCell HG0.out _⟩, ⟨keep_far HK6.out HG3.out _⟩⟩, by simp <;> omega⟩
       ·have h8 : 8 ≤ M := by omega
        have h9 : ¬ M = 8 := by omega
        have h10 : ¬ M - 8 = 0 := by omega
        have HCD : Aside0 (∀ W, KeepBut w3 W g none → (Kd.int .u8).C W (Ay.map (fun z => z.add 8)) (ly.drop 8).length (ly.drop 8)) := ⟨fun W hW => by
         have h := Kd.C_drop (c := M) (m := 8) (HCY.out W hW) (by rw [HLY.out]; exact h8) (by rw [HLY.out]; exact Nat.le_refl _)
         rwa [if_neg h9] at h⟩
        clear hP hij
        go_wp2_with (first | ((with_reducible refine gate_builtin (b := .append) (xs := #[.tmp 43, .tmp 45]) rfl ?_); at_builtin; refine Kd.R_append (Kd.int .u64) (w0 := w0) w0.heap.size rfl (.tmp 43) (.tmp 45) 22 58 (.int .u64 0) 8 rfl Try.underlying22 infoU rfl (by decide) (by omega) u xs (z : Int) [.int .u64 (z : Int)] (fun k => w3.heap.size ≤ k) (fun _ => False) rfl rfl ?aP (fun _ hk => hk.elim) ?aF ?aO ?aB ?aS ?aL ?_; (case aP => exact rfl); (case aB => exact HBW.out); (case aF => exact (fun k hk => Nat.le_trans HKW.out.1 hk)); (case aO => exact HRX.out); (case aS => exact HBW.out.size); (case aL => exact HLX.out); intro u2 w6 ho hb hg hat; obtain ⟨A2, c2, e2⟩ := Kd.R_slice ho; obtain ⟨ln, hln⟩ : ∃ t, (xs ++ [(z : Int)]).length = t := ⟨_, rfl⟩; rw [hln] at e2; clear hln; subst e2; have HR6 := Aside0.mk ho; have HB6 := Aside0.mk hb; have HK6 := Aside0.mk (keepRow HKW.out hg HRX.out.1); have HX6 := Aside0.mk (blk_grown (g := gx) HBX.out hg (Kd.R_ne HRX.out HBX.out (by decide))); have HG6 := Aside0.mk (blk_grown (g := g) HBG.out hg (Kd.R_ne HRX.out HBG.out (by decide))); clear ho hb hg hat; have fx0 := blk_frozen HX6.out 0; have fx1 := blk_frozen HX6.out 1; have cx0 := (blk_cell HX6.out 0).trans rfl; have cx1 := (blk_cell HX6.out 1).trans rfl))
        exact ⟨⟨m - 1, M - 8, ly.drop 8, _, xs ++ [(z : Int)], _, rfl, ⟨by have := HM.out; omega⟩, by omega, ⟨by rw [List.length_drop, HLY.out]⟩, ⟨okB_drop HOY.out 8⟩, ⟨HCD.out⟩, HXS2, ⟨Kd.R_mono (Kd.R_far (p := ⟨gx, 1, none⟩) (Kd.R_types HR6.out HX6.out (by decide)) (fun _ hk => hk.2) _) (fun _ hk => hk.1)⟩, ⟨blk_put (cs := #[.bool s, u]) HX6.out 1 _ rfl⟩, ⟨blk_far HG6.out HNG.out.symm _⟩, ⟨HB6.out.setCell HG0.out _⟩, ⟨keep_far HK6.out HG3.out _⟩⟩, by simp <;> omega⟩
      ·obtain ⟨j1, rfl⟩ : ∃ j1, j = j1 + 1 := ⟨j - 1, by omega⟩
       obtain ⟨ad, hA, hcell⟩ := Kd.at_int (HCY.out _ HKW.out) (j1 : Int) (by omega) (by have := HLY.out; omega)
       subst hA
       have hi7 : 7 - i = j1 := by omega
       have hb := byte_lt HOY.out j1
       obtain ⟨y, hy, hy1⟩ : ∃ y : Nat, ly.getD j1 0 = (y : Int) ∧ y < 256 := ⟨(ly.getD j1 0).toNat, by omega, by omega⟩
       have hcell2 : wr.cell? (ad.add j1) = some (Value.int .u8 (y : Int)) := by rw [← hy]; simpa [rd] using hcell
       have hw := w8_lt56 HOY.out (i := i) (by omega)
       obtain ⟨z, hz⟩ : ∃ z, w8 ly i = z := ⟨_, rfl⟩
       have HW : Aside0 (w8 ly (i + 1) = z * 256 + y) := ⟨by show w8 ly i * 256 + (ly.getD (7 - i) 0).toNat = _; rw [hi7, hy, hz]; rfl⟩
       rw [hz] at hw
       rw [hz]
       have hS := shl8 z hw
       have hO : bits .or .u64 ((z : Int) * 256) (y : Int) = ((z * 256 + y : Nat) : Int) := by simpa using or8 z y hw hy1
       have hk1 : ((j1 + 1 : Nat) : Int) - 1 = (j1 : Int) := by omega
       have hk2 : (j1 : Int) < (M : Int) := by omega
       rw [hk1]
       clear hb hcell hy
       go_wp2
       exact ⟨⟨i + 1, j1, by omega, by rw [HW.out]; simp, rfl, HRX, HBX, HBG, HBW, HKW⟩, by simp [intOf]⟩
end Go.Proofs.Ytoheamfnddfgkaa.St
namespace Go.Proofs.Ytoheamfnddfgkaa.St
open Go.RowKit Go.Proofs.YtoheamfnddfgkaaW.PrintWords Go.Proofs.YtoheamfnddfgkaaW.PrintLast Go.Proofs.YtoheamfnddfgkaaW.PrintMore
set_option linter.unusedVariables false
set_option linter.unusedSimpArgs false

theorem zero79 : (Try.prog.info? 79).map (·.zero) = some (some (.int .i64 0)) := by kernel_rfl
theorem ta_wrong (x : Int) (w : World) : (Instr.typeAssert (.iface 79 (.int .i64 x)) 20 79 true).run Try.prog w = .ok (.tuple #[.int .i64 x, .bool true]) w := by
 obtain ⟨i, hi, hz⟩ := Option.map_eq_some_iff.1 zero79
 simp [Instr.typeAssert, run_underlying Try.underlying79, typeInfo, hi, zeroValue, hz, go_sem, Result.andThen]
theorem ta_nil (w : World) : (Instr.typeAssert Value.nilIface 20 79 true).run Try.prog w = .ok (.tuple #[.int .i64 0, .bool false]) w := by
 obtain ⟨i, hi, hz⟩ := Option.map_eq_some_iff.1 zero79
 simp [Instr.typeAssert, run_underlying Try.underlying79, typeInfo, hi, zeroValue, hz, go_sem, Result.andThen]
set_option maxHeartbeats 2000000 in
set_option maxRecDepth 100000 in
theorem catch_panicking (g1 g2 : Nat) (hne : g2 ≠ g1) (x : Int) (v1 v2 : Value) (older : List PanicEntry) (w : World) (h1 : w.heap[g1]? = some (.cells #[v1] 3 (0, 0))) (h2 : w.heap[g2]? = some (.cells #[v2] 26 (0, 0))) :
  CallsD Try.prog 68 #[.pointer (some ⟨g1, 0, none⟩), .pointer (some ⟨g2, 0, none⟩)] (.panicking ({ v := .iface 79 (.int .i64 x), recovered := false } :: older)) w fun e u' w' =>
   e = .returned (.tuple #[]) ∧ u' = .panicking ({ v := .iface 79 (.int .i64 x), recovered := true } :: older) ∧ w' = (w.setCell ⟨g1, 0, none⟩ (.int .i64 x)).setCell ⟨g2, 0, none⟩ (.int .i64 400) := by
 have c1 := (blk_cell h1 0).trans rfl
 have c2 := (blk_cell h2 0).trans rfl
 have f1 := blk_frozen h1 0
 have f2 := blk_frozen h2 0
 refine callsD_of_wpS Try.func68 rfl fun c₀ cs hu => ?_
 apply wpS_seq
 apply wpS_region
 simp [wpOpsS, go_sem, recoverD, hu, ta_wrong, Array.replicate, Try.ntmps68, Exit.thenS]
 apply wpS_of_wp
 go_wp2
 simp [bodyPostS, results, Try.results68]
theorem catch_idle (p q : Option Addr) (w : World) :
  CallsD Try.prog 68 #[.pointer p, .pointer q] .returning w fun e u' w' => e = .returned (.tuple #[]) ∧ u' = .returning ∧ w' = w := by
 refine callsD_of_wpS Try.func68 rfl fun c₀ cs hu => ?_
 apply wpS_seq
 apply wpS_region
 simp [wpOpsS, go_sem, recoverD, hu, ta_nil, Array.replicate, Try.ntmps68, Exit.thenS]
 apply wpS_of_wp
 go_wp2
 cases c₀
 simp_all [bodyPostS, results, Try.results68]
end Go.Proofs.Ytoheamfnddfgkaa.St
namespace Go.Proofs.Ytoheamfnddfgkaa.St
open Go.RowKit Go.Proofs.YtoheamfnddfgkaaW.PrintWords Go.Proofs.YtoheamfnddfgkaaW.PrintLast Go.Proofs.YtoheamfnddfgkaaW.PrintMore
set_option linter.unusedVariables false
set_option linter.unusedSimpArgs false

theorem keepTo {w w' : World} {g : Nat} (h : KeepBut w w' g none) (r : Option Nat) : KeepBut w w' g r := ⟨h.1, fun i hi hg _ => h.2 i hi hg (by simp)⟩
theorem keepSet {w w' : World} {g gx : Nat} (h : KeepBut w w' g (some gx)) (i : Nat) (u : Value) : KeepBut w (w'.setCell ⟨gx, i, none⟩ u) g (some gx) :=
 ⟨by simpa [World.setCell] using h.1, fun j hj hg hr => (Below.heap_setCell w' ⟨gx, i, none⟩ u j (fun e => hr (by rw [e]))).trans (h.2 j hj hg hr)⟩
/-- What comes of Get's closure. -/
def GetsN (w0 : World) (g gx : Nat) (A : Option Addr) (c : Nat) (b : List Int) (x : Nat) (w : World) (r : Option ((Bool × List Int) × Nat)) (e : Ending) (w' : World) : Prop :=
 Aside0 (Below w0.heap.size w0 w') ∧ Aside0 (KeepBut w w' g (some gx)) ∧
 match r with
 | some ((s, l), k) => e = .returned (.tuple #[]) ∧ ∃ v, Aside0 (Kd.R (Kd.int .u64) 58 w' w0.heap.size (fun k => w.heap.size ≤ k) v l) ∧ Aside0 (w'.heap[gx]? = some (.cells #[.bool s, v] 24 (0, 0))) ∧ Aside0 (w'.heap[g]? = some (.cells #[.slice A b.length c, .int .i64 ((x + k : Nat) : Int)] 70 (0, 0)))
 | none => e = .panicked [{ v := .iface 79 (.int .i64 (x : Int)), recovered := false }]
set_option maxRecDepth 100000 in
set_option maxHeartbeats 2000000 in
theorem get1_c (w0 : World) (g gr gx : Nat) (A : Option Addr) (c : Nat) (b : List Int) (x : Nat) (w : World) (hr : RS w0 g A c b x w) (hx : x ≤ b.length) (ho : okB b) (hn : b.length ≤ 4611686018427387904) (hc : b.length ≤ c)
  (hgr : w.heap[gr]? = some (.cells #[.pointer (some ⟨g, 0, none⟩)] 68 (0, 0))) (hgx : w.heap[gx]? = some (.cells #[.bool false, .slice none 0 0] 24 (0, 0))) (h0 : w0.heap.size ≤ gx) :
  Calls Try.prog 43 #[.pointer (some ⟨gr, 0, none⟩), .pointer (some ⟨gx, 0, none⟩)] w (GetsN w0 g gx A c b x w (numS (b.drop x))) := by
 have hu := Try.underlying70
 have hu24 := Try.underlying24
 have HR := Aside0.mk hr
 have cr0 := (blk_cell hgr 0).trans rfl
 have hne : gx ≠ g := by rintro rfl; rw [hr.blk] at hgx; simp at hgx
 have HX := Aside0.mk hgx
 clear hr hgx hgr
 obtain ⟨Z, hZ⟩ : ∃ Z, numS (b.drop x) = Z := ⟨_, rfl⟩
 have HN := Aside0.mk (number_c w0 g A c b x w HR.out hx ho hn hc)
 rw [hZ] at HN ⊢
 clear hZ
 go_enter Try.func43, Try.ntmps43
 go_wp2_with fail
 refine HN.out.mono ?_
 intro e w2 h2
 cases Z with
 | none =>
  obtain ⟨rfl, ⟨y, hy⟩, hk⟩ := h2
  exact ⟨rfl, ⟨hy.hb⟩, ⟨keepTo hk.out _⟩, rfl⟩
 | some p =>
  obtain ⟨⟨s, l⟩, k⟩ := p
  obtain ⟨v, rfl, HV, HR2, HK2⟩ := h2
  obtain ⟨Av, cv, ev⟩ := Kd.R_slice HV.out
  obtain ⟨ln, hln⟩ : ∃ t, l.length = t := ⟨_, rfl⟩
  rw [hln] at ev
  clear hln
  subst ev
  have HX2 := Aside0.mk (HK2.out.blk HX.out hne (by simp))
  have cx0 := (blk_cell HX2.out 0).trans rfl
  have cx1 := (blk_cell HX2.out 1).trans rfl
  have fx0 := blk_frozen HX2.out 0
  have fx1 := blk_frozen HX2.out 1
  have HG := Aside0.mk HR2.out.blk
  have HB := Aside0.mk HR2.out.hb
  have HF : Aside0 (∀ k, w.heap.size ≤ k → k ≠ gx) := ⟨fun k hk => by have := blk_lt HX.out; omega⟩
  go_wp2_with fail
  have hfin : GetsN w0 g gx A c b x w (some ((s, l), k)) (.returned (.tuple #[])) ((w2.setCell ⟨gx, 0, none⟩ (.bool s)).setCell ⟨gx, 1, none⟩ (.slice Av ln cv)) :=
   ⟨⟨(HB.out.setCell h0 _).setCell h0 _⟩, ⟨keepSet (keepSet (keepTo HK2.out _) _ _) _ _⟩, rfl, _, ⟨Kd.R_far (p := ⟨gx, 1, none⟩) (Kd.R_far (p := ⟨gx, 0, none⟩) HV.out HF.out _) HF.out _⟩, ⟨blk_put (cs := #[.bool s, .slice none 0 0]) (blk_put (cs := #[.bool false, .slice none 0 0]) HX2.out 0 _ rfl) 1 _ rfl⟩, ⟨blk_far (blk_far HG.out hne.symm _) hne.symm _⟩⟩
  first | (exact bodyPost_ret (results_none rfl _ _ _) rfl hfin) | (go_end0; exact hfin)
end Go.Proofs.Ytoheamfnddfgkaa.St
namespace Go.Proofs.Ytoheamfnddfgkaa.St
open Go.RowKit Go.Proofs.YtoheamfnddfgkaaW.PrintWords Go.Proofs.YtoheamfnddfgkaaW.PrintLast Go.Proofs.YtoheamfnddfgkaaW.PrintMore
set_option linter.unusedVariables false
set_option linter.unusedSimpArgs false

/-- What comes of face over Get's closure. -/
def FaceN (w0 : World) (g gx : Nat) (A : Option Addr) (c : Nat) (b : List Int) (x : Nat) (w : World) (r : Option ((Bool × List Int) × Nat)) (e : Ending) (w' : World) : Prop :=
 Aside0 (Below w0.heap.size w0 w') ∧ Aside0 (KeepBut w w' g (some gx)) ∧
 match r with
 | some ((s, l), k) => e = .returned (.tuple #[.int .i64 0, .int .i64 0]) ∧ ∃ v, Aside0 (Kd.R (Kd.int .u64) 58 w' w0.heap.size (fun k => w.heap.size ≤ k) v l) ∧ Aside0 (w'.heap[gx]? = some (.cells #[.bool s, v] 24 (0, 0))) ∧ Aside0 (w'.heap[g]? = some (.cells #[.slice A b.length c, .int .i64 ((x + k : Nat) : Int)] 70 (0, 0)))
 | none => e = .returned (.tuple #[.int .i64 (x : Int), .int .i64 400])
set_option maxRecDepth 100000 in
set_option maxHeartbeats 2000000 in
theorem face1_c (w0 : World) (g gr gx : Nat) (A : Option Addr) (c : Nat) (b : List Int) (x : Nat) (w : World) (hr : RS w0 g A c b x w) (hx : x ≤ b.length) (ho : okB b) (hn : b.length ≤ 4611686018427387904) (hc : b.length ≤ c)
  (hgr : w.heap[gr]? = some (.cells #[.pointer (some ⟨g, 0, none⟩)] 68 (0, 0))) (hgx : w.heap[gx]? = some (.cells #[.bool false, .slice none 0 0] 24 (0, 0))) (h0 : w0.heap.size ≤ gx) :
  Calls Try.prog 42 #[.func (.func 43) #[] #[.pointer (some ⟨gr, 0, none⟩), .pointer (some ⟨gx, 0, none⟩)]] w (FaceN w0 g gx A c b x w (numS (b.drop x))) := by
 have hmf : ∀ (fn : Fn) (first cap : Array Value) (w : World), (Instr.makeFunc fn first cap).run Try.prog w = .ok (.func fn first cap) w := fun _ _ _ _ => rfl
 have HR := Aside0.mk hr
 have HX := Aside0.mk hgx
 have HGR := Aside0.mk hgr
 clear hr hgx hgr
 obtain ⟨Z, hZ⟩ : ∃ Z, numS (b.drop x) = Z := ⟨_, rfl⟩
 have HZ := Aside0.mk hZ
 rw [hZ]
 clear hZ
 go_enter_defers Try.func42, Try.ntmps42
 go_wp2_with (first | ((with_reducible refine gate_dst (N := 2) rfl ?_); refine box_event ?hg (N := 2) ?hd (cs := #[.int .i64 0]) (t := 3) ?hr ?_; (case hd => rfl); (case hg => rfl); (case hr => first | (go_simp; done) | (go_simp; rfl)); intro ga hga w1 hbox hb; have HR1 := Aside0.mk (HR.out.below hb); have HX1 := Aside0.mk ((hb.block gx (blk_lt HX.out)).trans HX.out); have HGR1 := Aside0.mk ((hb.block gr (blk_lt HGR.out)).trans HGR.out); have HA1 := Aside0.mk hbox; have HGA := Aside0.mk hga; have HB1 := Aside0.mk hb; clear hb hbox hga) | ((with_reducible refine gate_dst (N := 3) rfl ?_); refine box_event ?hg (N := 3) ?hd (cs := #[.int .i64 0]) (t := 26) ?hr ?_; (case hd => rfl); (case hg => rfl); (case hr => first | (go_simp; done) | (go_simp; rfl)); intro ge hge w2 hbox hb; have HR2 := Aside0.mk (HR1.out.below hb); have HX2 := Aside0.mk ((hb.block gx (blk_lt HX1.out)).trans HX1.out); have HGR2 := Aside0.mk ((hb.block gr (blk_lt HGR1.out)).trans HGR1.out); have HA2 := Aside0.mk ((hb.block ga (blk_lt HA1.out)).trans HA1.out); have HE2 := Aside0.mk hbox; have HGE := Aside0.mk hge; have HB2 := Aside0.mk (below_step HB1.out hb); have HLT := Aside0.mk (blk_lt HA1.out); clear hb hbox hge))
 refine (get1_c w0 g gr gx A c b x w2 HR2.out hx ho hn hc HGR2.out HX2.out h0).mono ?_
 intro e w3 h3
 rw [HZ.out] at h3
 obtain ⟨HB3, HK3, h3⟩ := h3
 have hga : ga ≠ g := by have := blk_lt HR.out.blk; have := HGA.out; omega
 have hgax : ga ≠ gx := by have := blk_lt HX.out; have := HGA.out; omega
 have hle : w.heap.size ≤ ge := by have h1 := HLT.out; have h2 := HGA.out; have h3 : ge = w1.heap.size := HGE.out; omega
 have hge : ge ≠ g := by have := blk_lt HR.out.blk; omega
 have hgex : ge ≠ gx := by have := blk_lt HX.out; omega
 have hae : ge ≠ ga := by have h1 := HLT.out; have h3 : ge = w1.heap.size := HGE.out; omega
 have HA3 := Aside0.mk (HK3.out.blk HA2.out hga (by simpa using hgax))
 have HE3 := Aside0.mk (HK3.out.blk HE2.out hge (by simpa using hgex))
 have HKW := Aside0.mk ((KeepBut.of_below HB2.out g (some gx)).trans HK3.out (.inl rfl))
 have hwa : w.heap.size ≤ ga := by have := HGA.out; omega
 have hw0 : w0.heap.size ≤ w.heap.size := HR.out.hb.size
 have ca0 := (blk_cell HA3.out 0).trans rfl
 have ce0 := (blk_cell HE3.out 0).trans rfl
 have fa0 := blk_frozen HA3.out 0
 have fe0 := blk_frozen HE3.out 0
 have HFin : Aside0 (∀ (u v : Int), (Below w0.heap.size w0 ((w3.setCell ⟨ga, 0, none⟩ (.int .i64 u)).setCell ⟨ge, 0, none⟩ (.int .i64 v))) ∧ (KeepBut w ((w3.setCell ⟨ga, 0, none⟩ (.int .i64 u)).setCell ⟨ge, 0, none⟩ (.int .i64 v)) g (some gx)) ∧ ((w3.setCell ⟨ga, 0, none⟩ (.int .i64 u)).setCell ⟨ge, 0, none⟩ (.int .i64 v)).heap[ga]? = some (.cells #[.int .i64 u] 3 (0, 0)) ∧ ((w3.setCell ⟨ga, 0, none⟩ (.int .i64 u)).setCell ⟨ge, 0, none⟩ (.int .i64 v)).heap[ge]? = some (.cells #[.int .i64 v] 26 (0, 0))) := ⟨fun u v =>
  ⟨(HB3.out.setCell (Nat.le_trans hw0 hwa) _).setCell (Nat.le_trans hw0 hle) _, keep_far (keep_far HKW.out hwa _) hle _, blk_far (blk_put (cs := #[.int .i64 0]) HA3.out 0 _ rfl) hae.symm _, blk_put (cs := #[.int .i64 0]) (blk_far HE3.out hae _) 0 _ rfl⟩⟩
 cases Z with
 | none =>
  obtain rfl := h3
  obtain ⟨fb, fk, fa, fe⟩ := HFin.out x 400
  have FA := (blk_cell fa 0).trans rfl
  have FE := (blk_cell fe 0).trans rfl
  refine leaves_cons (f := 68) (args := #[.pointer (some ⟨ga, 0, none⟩), .pointer (some ⟨ge, 0, none⟩)]) (by simp) (by simp [go_sem]) ?_
  refine (catch_panicking ga ge hae x _ _ [] w3 HA3.out HE3.out).mono ?_
  rintro e u' w'' ⟨rfl, rfl, rfl⟩
  simp [Leaves, settle, results, Try.results42, go_sem, FA, FE]
  exact ⟨⟨fb⟩, ⟨fk⟩, rfl⟩
 | some p =>
  obtain ⟨⟨s, l⟩, k⟩ := p
  obtain ⟨rfl, v, HV, HX3, HG3⟩ := h3
  obtain ⟨fb, fk, fa, fe⟩ := HFin.out 0 0
  have FA := (blk_cell fa 0).trans rfl
  have FE := (blk_cell fe 0).trans rfl
  go_wp2
  refine leaves_cons (f := 68) (args := #[.pointer (some ⟨ga, 0, none⟩), .pointer (some ⟨ge, 0, none⟩)]) (by simp) (by simp [go_sem]) ?_
  refine (catch_idle _ _ _).mono ?_
  rintro e u' w'' ⟨rfl, rfl, rfl⟩
  simp [Leaves, settle, results, Try.results42, go_sem, FA, FE]
  exact ⟨⟨fb⟩, ⟨fk⟩, rfl, v, ⟨Kd.R_mono (Kd.R_far (p := ⟨ge, 0, none⟩) (Kd.R_far (p := ⟨ga, 0, none⟩) HV.out (fun k hk => by have h1 := blk_lt HA2.out; show k ≠ ga; omega) _) (fun k hk => by have h1 := blk_lt HE2.out; show k ≠ ge; omega) _) (fun k hk => Nat.le_trans HB2.out.size hk)⟩, ⟨blk_far (blk_far HX3.out hgax.symm _) hgex.symm _⟩, ⟨blk_far (blk_far HG3.out hga.symm _) hge.symm _⟩⟩
end Go.Proofs.Ytoheamfnddfgkaa.St
namespace Go.Proofs.Ytoheamfnddfgkaa.St
open Go.RowKit Go.Proofs.YtoheamfnddfgkaaW.PrintWords Go.Proofs.YtoheamfnddfgkaaW.PrintLast Go.Proofs.YtoheamfnddfgkaaW.PrintMore
set_option linter.unusedVariables false
set_option linter.unusedSimpArgs false

def getS (l : List Int) : Bool × List Int × Int × Int :=
 match numS l with
 | some ((s, m), k) => (s, m, (k : Int), 0)
 | none => (false, [], 0, 400)
set_option maxRecDepth 100000 in
set_option maxHeartbeats 4000000 in
theorem get_c (A : Option Addr) (c : Nat) (b : List Int) (w : World) (hr : Kd.C (Kd.int .u8) w A b.length b) (hc : b.length ≤ c) (ho : okB b) (hn : b.length ≤ 4611686018427387904) :
  Calls Try.prog 12 #[.slice A b.length c] w fun e w' => ∃ v, e = .returned (.tuple #[.agg #[.bool (getS b).1, v], .int .i64 (getS b).2.2.1, .int .i64 (getS b).2.2.2]) ∧ Kd.R (Kd.int .u64) 58 w' w.heap.size (fun _ => True) v (getS b).2.1 ∧ Below w.heap.size w w' := by
 have hu := Try.underlying70
 have hu24 := Try.underlying24
 have hmf : ∀ (fn : Fn) (first cap : Array Value) (w : World), (Instr.makeFunc fn first cap).run Try.prog w = .ok (.func fn first cap) w := fun _ _ _ _ => rfl
 have HC := Aside0.mk hr
 clear hr
 go_enter Try.func12, Try.ntmps12
 go_wp2_with (first | ((with_reducible refine gate_dst (N := 2) rfl ?_); refine box_event ?hg (N := 2) ?hd (cs := #[.bool false, .slice none 0 0]) (t := 24) ?hr ?_; (case hd => rfl); (case hg => rfl); (case hr => first | (go_simp; done) | (go_simp; rfl)); intro gb hgb w1 hbox hb; have HX1 := Aside0.mk hbox; have HG1 := Aside0.mk hgb; have HB1 := Aside0.mk hb; have HL1 := Aside0.mk (blk_lt hbox); clear hb hbox hgb) | ((with_reducible refine gate_dst (N := 5) rfl ?_); refine box_event ?hg (N := 5) ?hd (cs := #[.bool false, .slice none 0 0]) (t := 24) ?hr ?_; (case hd => rfl); (case hg => rfl); (case hr => first | (go_simp; done) | (go_simp; rfl)); intro gx hgx w2 hbox hb; have HX2 := Aside0.mk ((hb.block gb (blk_lt HX1.out)).trans HX1.out); have HY2 := Aside0.mk hbox; have HG2 := Aside0.mk hgx; have HB2 := Aside0.mk (below_step HB1.out hb); have HL2 := Aside0.mk (blk_lt hbox); clear hb hbox hgx) | ((with_reducible refine gate_dst (N := 11) rfl ?_); refine box_event ?hg (N := 11) ?hd (cs := #[.slice A b.length c, .int .i64 0]) (t := 70) ?hr ?_; (case hd => rfl); (case hg => rfl); (case hr => first | (go_simp; done) | (go_simp; rfl)); intro g hg w3 hbox hb; have HX3 := Aside0.mk ((hb.block gb (blk_lt HX2.out)).trans HX2.out); have HY3 := Aside0.mk ((hb.block gx (blk_lt HY2.out)).trans HY2.out); have HR3 := Aside0.mk hbox; have HG3 := Aside0.mk hg; have HB3 := Aside0.mk (below_step HB2.out hb); have HL3 := Aside0.mk (blk_lt hbox); clear hb hbox hg) | ((with_reducible refine gate_dst (N := 6) rfl ?_); refine box_event ?hg (N := 6) ?hd (cs := #[.pointer none]) (t := 68) ?hr ?_; (case hd => rfl); (case hg => rfl); (case hr => first | (go_simp; done) | (go_simp; rfl)); intro gr hgr w4 hbox hb; have HX4 := Aside0.mk ((hb.block gb (blk_lt HX3.out)).trans HX3.out); have HY4 := Aside0.mk ((hb.block gx (blk_lt HY3.out)).trans HY3.out); have HR4 := Aside0.mk ((hb.block g (blk_lt HR3.out)).trans HR3.out); have HP4 := Aside0.mk hbox; have HG4 := Aside0.mk hgr; have HB4 := Aside0.mk (below_step HB3.out hb); clear hb hbox hgr; have cr0 := (blk_cell HP4.out 0).trans rfl; have fr0 := blk_frozen HP4.out 0))
 have k1 : gb = w.heap.size := HG1.out
 have k2 : gx = w1.heap.size := HG2.out
 have k3 : g = w2.heap.size := HG3.out
 have k4 : gr = w3.heap.size := HG4.out
 have hlt1 := HL1.out
 have hlt2 := HL2.out
 have hlt3 := HL3.out
 have hgrg : gr ≠ g := by omega
 have hgrx : gr ≠ gx := by omega
 have hgrb : gr ≠ gb := by omega
 have hgx : gx ≠ g := by omega
 have hgb : gb ≠ g := by omega
 have hgbx : gb ≠ gx := by omega
 have h0r : w.heap.size ≤ gr := by omega
 have h0x : w.heap.size ≤ gx := by omega
 have h0g : w.heap.size ≤ g := by omega
 have h0b : w.heap.size ≤ gb := by omega
 clear k1 k2 k3 k4 hlt1 hlt2 hlt3
 obtain ⟨W5, hW5⟩ : ∃ W5, w4.setCell ⟨gr, 0, none⟩ (.pointer (some ⟨g, 0, none⟩)) = W5 := ⟨_, rfl⟩
 have HB5 : Aside0 (Below w.heap.size w W5) := ⟨hW5 ▸ HB4.out.setCell h0r _⟩
 have HX5 : Aside0 (W5.heap[gb]? = some (.cells #[.bool false, .slice none 0 0] 24 (0, 0))) := ⟨hW5 ▸ blk_far HX4.out hgrb.symm _⟩
 have HY5 : Aside0 (W5.heap[gx]? = some (.cells #[.bool false, .slice none 0 0] 24 (0, 0))) := ⟨hW5 ▸ blk_far HY4.out hgrx.symm _⟩
 have HR5 : Aside0 (W5.heap[g]? = some (.cells #[.slice A b.length c, .int .i64 0] 70 (0, 0))) := ⟨hW5 ▸ blk_far HR4.out hgrg.symm _⟩
 have HP5 : Aside0 (W5.heap[gr]? = some (.cells #[.pointer (some ⟨g, 0, none⟩)] 68 (0, 0))) := ⟨hW5 ▸ blk_put (cs := #[.pointer none]) HP4.out 0 _ rfl⟩
 have HRS : Aside0 (RS w g A c b 0 W5) := ⟨⟨HR5.out, Kd.C_foot_came (Kd.heap_int _) HC.out HB5.out h0g, HB5.out, h0g⟩⟩
 rw [hW5]
 clear hW5 HX4 HY4 HR4 HP4 HB4 HX3 HY3 HR3 HB3 HX2 HY2 HB2 HX1 HB1
 refine (face1_c w g gr gx A c b 0 W5 HRS.out (Nat.zero_le _) ho hn hc HP5.out HY5.out h0x).mono ?_
 intro e w6 h6
 rw [List.drop_zero] at h6
 obtain ⟨Z, hZ⟩ : ∃ Z, numS b = Z := ⟨_, rfl⟩
 have HZ := Aside0.mk hZ
 rw [hZ] at h6
 clear hZ
 obtain ⟨HB6, HK6, h6⟩ := h6
 have HX6 := Aside0.mk (HK6.out.blk HX5.out hgb (by simpa using hgbx))
 have HP6 := Aside0.mk (HK6.out.blk HP5.out hgrg (by simpa using hgrx))
 have cb0 := (blk_cell HX6.out 0).trans rfl
 have cb1 := (blk_cell HX6.out 1).trans rfl
 have fb0 := blk_frozen HX6.out 0
 have fb1 := blk_frozen HX6.out 1
 have cp0 := (blk_cell HP6.out 0).trans rfl
 cases Z with
 | none =>
  have hs : getS b = (false, [], 0, 400) := by unfold getS; rw [HZ.out]
  obtain rfl := h6
  go_wp2
  refine bodyPost_ret (results_ctt rfl _ _ gb 24 #[.bool false, .slice none 0 0] (0, 0) _ rfl (blk_put (cs := #[.bool false, .slice none 0 0]) (blk_put (cs := #[.bool false, .slice none 0 0]) HX6.out 0 _ rfl) 1 _ rfl) Try.underlying24 rfl (by kernel_rfl)) rfl ?_
  rw [hs]
  exact ⟨_, rfl, Kd.R_nil _ _ _ _ _, (HB6.out.setCell h0b _).setCell h0b _⟩
 | some p =>
  obtain ⟨⟨s, l⟩, k⟩ := p
  have hs : getS b = (s, l, (k : Int), 0) := by unfold getS; rw [HZ.out]
  obtain ⟨rfl, v, HV, HY6, HR6⟩ := h6
  obtain ⟨Av, cv, ev⟩ := Kd.R_slice HV.out
  obtain ⟨ln, hln⟩ : ∃ t, l.length = t := ⟨_, rfl⟩
  rw [hln] at ev
  clear hln
  subst ev
  have cx0 := (blk_cell HY6.out 0).trans rfl
  have cx1 := (blk_cell HY6.out 1).trans rfl
  have cg1 : w6.cell? ⟨g, 1, none⟩ = some (.int .i64 (k : Int)) := by have h := (blk_cell HR6.out 1).trans rfl; simpa using h
  have HF : Aside0 (∀ k, W5.heap.size ≤ k → k ≠ gb) := ⟨fun k hk => by have := blk_lt HX5.out; omega⟩
  go_wp2
  go_region
  go_wp2
  have hB : Below w.heap.size w ((w6.setCell ⟨gb, 0, none⟩ (.bool s)).setCell ⟨gb, 1, none⟩ (.slice Av ln cv)) := (HB6.out.setCell h0b _).setCell h0b _
  have hV : Kd.R (Kd.int .u64) 58 ((w6.setCell ⟨gb, 0, none⟩ (.bool s)).setCell ⟨gb, 1, none⟩ (.slice Av ln cv)) w.heap.size (fun _ => True) (.slice Av ln cv) l := Kd.R_mono (Kd.R_far (p := ⟨gb, 1, none⟩) (Kd.R_far (p := ⟨gb, 0, none⟩) HV.out HF.out _) HF.out _) (fun _ _ => trivial)
  refine bodyPost_ret (results_ctt rfl _ _ gb 24 #[.bool s, .slice Av ln cv] (0, 0) _ rfl (blk_drew (blk_put (cs := #[.bool s, .slice none 0 0]) (blk_put (cs := #[.bool false, .slice none 0 0]) HX6.out 0 _ rfl) 1 _ rfl)) Try.underlying24 rfl (by kernel_rfl)) rfl ?_
  rw [hs]
  exact ⟨_, rfl, Kd.R_drew hV, below_drew1 hB⟩
end Go.Proofs.Ytoheamfnddfgkaa.St
namespace Go.Proofs.Ytoheamfnddfgkaa.St
set_option linter.unusedVariables false

/-- Factors and powers: so many pairs; or where it fails. -/
def pairsS : Nat → List Int → Except Nat ((List Int × List Int) × Nat)
 | 0, _ => .ok (([], []), 0)
 | m + 1, b =>
  match groupsS 2147483647 b with
  | none => .error 0
  | some (f, k1) =>
   match groupsS 2147483647 (b.drop k1) with
   | none => .error k1
   | some (p, k2) =>
    match pairsS m (b.drop (k1 + k2)) with
    | .error e => .error (k1 + k2 + e)
    | .ok ((fs, ps), k3) => .ok ((f :: fs, p :: ps), k1 + k2 + k3)
/-- A certificate: its number, its base, its factors, its powers; and how many bytes. -/
def certS (b : List Int) : Except Nat (((Bool × List Int) × (Bool × List Int) × List Int × List Int) × Nat) :=
 match numS b with
 | none => .error 0
 | some (n, k1) =>
  match numS (b.drop k1) with
  | none => .error k1
  | some (m, k2) =>
   match groupsS 64 (b.drop (k1 + k2)) with
   | none => .error (k1 + k2)
   | some (q, k3) =>
    match pairsS q.toNat (b.drop (k1 + k2 + k3)) with
    | .error e => .error (k1 + k2 + k3 + e)
    | .ok ((fs, ps), k4) => .ok ((n, m, fs, ps), k1 + k2 + k3 + k4)
def certsS : Nat → List Int → Except Nat (List ((Bool × List Int) × (Bool × List Int) × List Int × List Int) × Nat)
 | 0, _ => .ok ([], 0)
 | m + 1, b =>
  match certS b with
  | .error e => .error e
  | .ok (c, k) =>
   match certsS m (b.drop k) with
   | .error e => .error (k + e)
   | .ok (cs, k2) => .ok (c :: cs, k + k2)
/-- The certificates that bytes are, or where they can't be read. -/
def readS (b : List Int) : Except Nat (List ((Bool × List Int) × (Bool × List Int) × List Int × List Int)) :=
 match groupsS 64 b with
 | none => .error 0
 | some (q, k) =>
  match certsS q.toNat (b.drop k) with
  | .error e => .error (k + e)
  | .ok (cs, k2) => if k + k2 < b.length then .error (k + k2) else .ok cs
theorem numS_len {b : List Int} {r : Bool × List Int} {k : Nat} (h : numS b = some (r, k)) : 0 < k ∧ k ≤ b.length := by
 unfold numS at h
 cases hg : groupsS 8193 b with
 | none => rw [hg] at h; cases h
 | some p =>
  obtain ⟨n, k0⟩ := p
  rw [hg] at h
  have hl := gr_len hg
  simp only at h
  split at h
  ·cases h
  ·split at h
   ·injection h with h
    injection h with h1 h2
    omega
   ·cases h
end Go.Proofs.Ytoheamfnddfgkaa.St
namespace Go.Proofs.Ytoheamfnddfgkaa.St
open Go.RowKit Go.Proofs.YtoheamfnddfgkaaW.PrintWords Go.Proofs.YtoheamfnddfgkaaW.PrintLast Go.Proofs.YtoheamfnddfgkaaW.PrintMore
set_option linter.unusedVariables false
set_option linter.unusedSimpArgs false

abbrev i64 : Kd Int := Kd.int .i64
theorem infoI : (Try.prog.info? 3).map (fun i => (i.zero, i.size, i.bytes)) = some (some (.int .i64 0), 1, 8) := by kernel_rfl
/-- A certificate in block gx that is being filled: its two rows apart. -/
structure CL (w0 w3 : World) (g : Nat) (A : Option Addr) (c : Nat) (b : List Int) (gx m : Nat) (n1 n2 : Bool) (v1 v2 : Value) (y : Nat) (fs ps : List Int) (u1 u2 : Value) (w : World) : Prop where
 rs : RS w0 g A c b y w
 kp : KeepBut w3 w g none
 bx : w.heap[gx]? = some (.cells #[.bool n1, v1, .bool n2, v2, u1, u2] 61 (0, 0))
 r1 : Kd.R i64 3 w w0.heap.size (fun j => m ≤ j ∧ some j ≠ u2.ownBlock) u1 fs
 r2 : Kd.R i64 3 w w0.heap.size (fun j => m ≤ j ∧ some j ≠ u1.ownBlock) u2 ps
/-- What stays as it is: the reader's bytes, and which blocks are new. -/
structure CB (w0 w3 : World) (g : Nat) (A : Option Addr) (c : Nat) (b : List Int) (gx m : Nat) : Prop where
 r0 : ∃ x, RS w0 g A c b x w3
 hx : w3.heap.size ≤ gx
 hm : gx < m
section
variable {w0 w3 w w' w8 : World} {g : Nat} {A : Option Addr} {c : Nat} {b : List Int} {gx m : Nat} {n1 n2 : Bool} {v1 v2 : Value} {y y' : Nat} {fs ps : List Int} {u1 u2 u : Value}
theorem CB.hg (h : CB w0 w3 g A c b gx m) : g < gx := by
 obtain ⟨⟨x, h0⟩, h1, h2⟩ := h
 have := blk_lt h0.blk
 omega
theorem CB.h0 (h : CB w0 w3 g A c b gx m) : w0.heap.size ≤ gx := by
 obtain ⟨⟨x, h0⟩, h1, h2⟩ := h
 exact Nat.le_trans h0.hb.size h1
theorem CL.drew (h : CL w0 w3 g A c b gx m n1 n2 v1 v2 y fs ps u1 u2 w) : CL w0 w3 g A c b gx m n1 n2 v1 v2 y fs ps u1 u2 w.drew :=
 ⟨h.rs.drewN 1, keep_drew h.kp, h.bx, Kd.R_drew h.r1, Kd.R_drew h.r2⟩
theorem CL.call (hB : CB w0 w3 g A c b gx m) (h : CL w0 w3 g A c b gx m n1 n2 v1 v2 y fs ps u1 u2 w) (hk : KeepBut w w' g none) (hr : RS w0 g A c b y' w') : CL w0 w3 g A c b gx m n1 n2 v1 v2 y' fs ps u1 u2 w' := by
 have := hB.hg
 have := hB.hm
 exact ⟨hr, h.kp.trans hk (.inl rfl), hk.blk h.bx (by omega) (by simp), Kd.R_keep h.r1 hk (fun j hj => by have := hj.1; omega), Kd.R_keep h.r2 hk (fun j hj => by have := hj.1; omega)⟩
theorem CL.other (h : CL w0 w3 g A c b gx m n1 n2 v1 v2 y fs ps u1 u2 w) {row : Option Nat} (hg : w.grownBy w8 row) (hrow : row = u1.ownBlock) (hat : u.ownBlock = u1.ownBlock ∨ ∃ k, u.ownBlock = some k ∧ w.heap.size ≤ k) : Kd.R i64 3 w8 w0.heap.size (fun j => m ≤ j ∧ some j ≠ u.ownBlock) u2 ps := by
 refine Kd.R_mono (Kd.R_grown (Kd.R_bound h.r2) hg (fun k hk => by rw [hrow]; exact hk.1.2)) (fun k hk => ⟨hk.1.1, fun e => ?_⟩)
 rcases hat with h1 | ⟨q, h1, h2⟩
 ·exact hk.1.2 (e.trans h1)
 ·rw [h1] at e
  have := Option.some.inj e
  have := hk.2.2.1
  omega
theorem CL.other2 (h : CL w0 w3 g A c b gx m n1 n2 v1 v2 y fs ps u1 u2 w) {row : Option Nat} (hg : w.grownBy w8 row) (hrow : row = u2.ownBlock) (hat : u.ownBlock = u2.ownBlock ∨ ∃ k, u.ownBlock = some k ∧ w.heap.size ≤ k) : Kd.R i64 3 w8 w0.heap.size (fun j => m ≤ j ∧ some j ≠ u.ownBlock) u1 fs := by
 refine Kd.R_mono (Kd.R_grown (Kd.R_bound h.r1) hg (fun k hk => by rw [hrow]; exact hk.1.2)) (fun k hk => ⟨hk.1.1, fun e => ?_⟩)
 rcases hat with h1 | ⟨q, h1, h2⟩
 ·exact hk.1.2 (e.trans h1)
 ·rw [h1] at e
  have := Option.some.inj e
  have := hk.2.2.1
  omega
theorem CL.app1 (hB : CB w0 w3 g A c b gx m) (h : CL w0 w3 g A c b gx m n1 n2 v1 v2 y fs ps u1 u2 w) {fs' : List Int} (hR : Kd.R i64 3 w8 w0.heap.size (fun j => m ≤ j ∧ some j ≠ u2.ownBlock) u fs') (hb : Below w0.heap.size w0 w8) (hg : w.grownBy w8 u1.ownBlock) (hat : u.ownBlock = u1.ownBlock ∨ ∃ k, u.ownBlock = some k ∧ w.heap.size ≤ k) :
  CL w0 w3 g A c b gx m n1 n2 v1 v2 y fs' ps u u2 (w8.setCell ⟨gx, 4, none⟩ u) := by
 have i0 := hB.h0
 have i1 := hB.hg
 have i2 := hB.hm
 have i3 := hB.hx
 obtain ⟨x, r0⟩ := hB.r0
 have kp : KeepBut w3 (w8.setCell ⟨gx, 4, none⟩ u) g none := keep_far (keepRow h.kp hg (fun k hk => by have := (h.r1.1 k hk).1; omega)) i3 _
 refine ⟨r0.keep kp (hb.setCell i0 _) (blk_far (blk_grown h.rs.blk hg (Kd.R_ne h.r1 h.rs.blk (by decide))) (by show g ≠ gx; omega) _), kp, blk_put (blk_grown h.bx hg (Kd.R_ne h.r1 h.bx (by decide))) 4 u rfl, Kd.R_far hR (fun j hj => by show j ≠ gx; have := hj.1; omega) _, ?_⟩
 exact Kd.R_far (h.other hg rfl hat) (fun j hj => by show j ≠ gx; have := hj.1; omega) _
theorem CL.app2 (hB : CB w0 w3 g A c b gx m) (h : CL w0 w3 g A c b gx m n1 n2 v1 v2 y fs ps u1 u2 w) {ps' : List Int} (hR : Kd.R i64 3 w8 w0.heap.size (fun j => m ≤ j ∧ some j ≠ u1.ownBlock) u ps') (hb : Below w0.heap.size w0 w8) (hg : w.grownBy w8 u2.ownBlock) (hat : u.ownBlock = u2.ownBlock ∨ ∃ k, u.ownBlock = some k ∧ w.heap.size ≤ k) :
  CL w0 w3 g A c b gx m n1 n2 v1 v2 y fs ps' u1 u (w8.setCell ⟨gx, 5, none⟩ u) := by
 have i0 := hB.h0
 have i1 := hB.hg
 have i2 := hB.hm
 have i3 := hB.hx
 obtain ⟨x, r0⟩ := hB.r0
 have kp : KeepBut w3 (w8.setCell ⟨gx, 5, none⟩ u) g none := keep_far (keepRow h.kp hg (fun k hk => by have := (h.r2.1 k hk).1; omega)) i3 _
 refine ⟨r0.keep kp (hb.setCell i0 _) (blk_far (blk_grown h.rs.blk hg (Kd.R_ne h.r2 h.rs.blk (by decide))) (by show g ≠ gx; omega) _), kp, blk_put (blk_grown h.bx hg (Kd.R_ne h.r2 h.bx (by decide))) 5 u rfl, ?_, Kd.R_far hR (fun j hj => by show j ≠ gx; have := hj.1; omega) _⟩
 exact Kd.R_far (h.other2 hg rfl hat) (fun j hj => by show j ≠ gx; have := hj.1; omega) _
theorem CL.fresh1 (h : CL w0 w3 g A c b gx m n1 n2 v1 v2 y fs ps u1 u2 w) (hB : CB w0 w3 g A c b gx m) (hm : m ≤ w.heap.size) : ∀ k, w.heap.size ≤ k → m ≤ k ∧ some k ≠ u2.ownBlock := fun k hk => ⟨by omega, Kd.fresh_ok h.r2 k hk⟩
theorem CL.fresh2 (h : CL w0 w3 g A c b gx m n1 n2 v1 v2 y fs ps u1 u2 w) (hB : CB w0 w3 g A c b gx m) (hm : m ≤ w.heap.size) : ∀ k, w.heap.size ≤ k → m ≤ k ∧ some k ≠ u1.ownBlock := fun k hk => ⟨by omega, Kd.fresh_ok h.r1 k hk⟩
end
section
variable {P : Program} {ops : Array Oper} {Q : Exit → Act → World → Prop}
/-- A call that gives up. -/
theorem callp_ {oi : Oper} {N : Option Tmp} {a : Act} {w : World} {K : Act → World → Prop} {f : FuncId} {fn : Func} {aa : Array Operand} {ts : Array TypeId} (hf : P.funcs[f]? = some fn) (hname : (fn.name == "runtime.NumGoroutine") = false) (hb : fn.body.isSome = true) (args : Array Value)
  (hw : Region.wanted oi (yielded ops a.tmps) = true) (hop : oi.op = .call { callee := .value (.func f), args := aa, argTypes := ts }) (hargs : aa.map a.eval = args)
  (h : Calls P f args w fun e w' => ∃ ch, e = .panicked ch ∧ Q (.panic ch) a w') : if Region.wanted oi (yielded ops a.tmps) = true then Oper.wp P oi a w K Q else K (a.put N undef) w := by
 have he := enters_ hf hname hb args w
 have hrun : (execOp a.eval oi).run P w = .ok (.enter f args) w := by
  unfold execOp
  simp [hop, resolve, Deferred.ofValue, invoke, Act.eval, hargs, he]
 rw [if_pos hw]
 unfold Oper.wp
 rw [hrun, Oper.upon_enter]
 refine h.mono fun e w'' hh => ?_
 obtain ⟨ch, rfl, hk⟩ := hh
 exact hk
end
abbrev CertT := (Bool × List Int) × (Bool × List Int) × List Int × List Int
/-- What comes of a reader's certificate. -/
def GivesC (w0 : World) (g : Nat) (A : Option Addr) (c : Nat) (b : List Int) (x : Nat) (w : World) (r : Except Nat (CertT × Nat)) (e : Ending) (w' : World) : Prop :=
 match r with
 | .ok ((n, m, fs, ps), k) => ∃ v1 v2 u1 u2, e = .returned (.agg #[.bool n.1, v1, .bool m.1, v2, u1, u2]) ∧
   Aside0 (Kd.R (Kd.int .u64) 58 w' w0.heap.size (fun j => w.heap.size ≤ j ∧ some j ≠ v2.ownBlock) v1 n.2) ∧ Aside0 (Kd.R (Kd.int .u64) 58 w' w0.heap.size (fun j => w.heap.size ≤ j ∧ some j ≠ v1.ownBlock) v2 m.2) ∧
   Aside0 (Kd.R i64 3 w' w0.heap.size (fun j => w.heap.size ≤ j ∧ some j ≠ u2.ownBlock) u1 fs) ∧ Aside0 (Kd.R i64 3 w' w0.heap.size (fun j => w.heap.size ≤ j ∧ some j ≠ u1.ownBlock) u2 ps) ∧
   Aside0 (RS w0 g A c b (x + k) w') ∧ Aside0 (KeepBut w w' g none)
 | .error p => e = .panicked [{ v := .iface 79 (.int .i64 ((x + p : Nat) : Int)), recovered := false }] ∧ (∃ y, RS w0 g A c b y w') ∧ Aside0 (KeepBut w w' g none)
theorem givesC_error {w0 : World} {g : Nat} {A : Option Addr} {c : Nat} {b : List Int} {x y p q : Nat} {w w' : World} (h : RS w0 g A c b y w') (hk : KeepBut w w' g none) (hq : x + p = q) : GivesC w0 g A c b x w (.error p) (.panicked [{ v := .iface 79 (.int .i64 ((q : Nat) : Int)), recovered := false }]) w' := by
 subst hq
 exact ⟨rfl, ⟨y, h⟩, ⟨hk⟩⟩
end Go.Proofs.Ytoheamfnddfgkaa.St
namespace Go.Proofs.Ytoheamfnddfgkaa.St
open Go.RowKit Go.Proofs.YtoheamfnddfgkaaW.PrintWords Go.Proofs.YtoheamfnddfgkaaW.PrintLast Go.Proofs.YtoheamfnddfgkaaW.PrintMore
set_option linter.unusedVariables false
set_option linter.unusedSimpArgs false

section
variable {w0 w w1 : World} {gb g : Nat} {s0 s1 s2 s3 s4 s5 : Value}
abbrev six (w : World) (gb : Nat) (s0 s1 s2 s3 s4 s5 : Value) : World := (((((w.setCell ⟨gb, 0, none⟩ s0).setCell ⟨gb, 1, none⟩ s1).setCell ⟨gb, 2, none⟩ s2).setCell ⟨gb, 3, none⟩ s3).setCell ⟨gb, 4, none⟩ s4).setCell ⟨gb, 5, none⟩ s5
theorem keep_six (h : KeepBut w w1 g none) (hg : w.heap.size ≤ gb) : KeepBut w (six w1 gb s0 s1 s2 s3 s4 s5) g none :=
 keep_far (p := ⟨gb, 5, none⟩) (keep_far (p := ⟨gb, 4, none⟩) (keep_far (p := ⟨gb, 3, none⟩) (keep_far (p := ⟨gb, 2, none⟩) (keep_far (p := ⟨gb, 1, none⟩) (keep_far (p := ⟨gb, 0, none⟩) h hg _) hg _) hg _) hg _) hg _) hg _
theorem blk_six {t : TypeId} {a0 a1 a2 a3 a4 a5 : Value} (s0 s1 s2 s3 s4 s5 : Value) (h : w.heap[gb]? = some (.cells #[a0, a1, a2, a3, a4, a5] t (0, 0))) : (six w gb s0 s1 s2 s3 s4 s5).heap[gb]? = some (.cells #[s0, s1, s2, s3, s4, s5] t (0, 0)) :=
 blk_put (blk_put (blk_put (blk_put (blk_put (blk_put h 0 s0 (by rfl)) 1 s1 (by rfl)) 2 s2 (by rfl)) 3 s3 (by rfl)) 4 s4 (by rfl)) 5 s5 (by rfl)
theorem below_six (h : Below w0.heap.size w0 w) (hg : w0.heap.size ≤ gb) : Below w0.heap.size w0 (six w gb s0 s1 s2 s3 s4 s5) := (((((h.setCell hg _).setCell hg _).setCell hg _).setCell hg _).setCell hg _).setCell hg _
theorem far_six {t : TypeId} {cs : Array Value} (h : w.heap[g]? = some (.cells cs t (0, 0))) (hg : g ≠ gb) : (six w gb s0 s1 s2 s3 s4 s5).heap[g]? = some (.cells cs t (0, 0)) :=
 blk_far (p := ⟨gb, 5, none⟩) (blk_far (p := ⟨gb, 4, none⟩) (blk_far (p := ⟨gb, 3, none⟩) (blk_far (p := ⟨gb, 2, none⟩) (blk_far (p := ⟨gb, 1, none⟩) (blk_far (p := ⟨gb, 0, none⟩) h hg _) hg _) hg _) hg _) hg _) hg _
theorem R_six {α : Type} {d : Kd α} {e base : Nat} {ok : Nat → Prop} {v : Value} {xs : List α} (h : d.R e w base ok v xs) (hg : ∀ k, ok k → k ≠ gb) : d.R e (six w gb s0 s1 s2 s3 s4 s5) base ok v xs :=
 Kd.R_far (p := ⟨gb, 5, none⟩) (Kd.R_far (p := ⟨gb, 4, none⟩) (Kd.R_far (p := ⟨gb, 3, none⟩) (Kd.R_far (p := ⟨gb, 2, none⟩) (Kd.R_far (p := ⟨gb, 1, none⟩) (Kd.R_far (p := ⟨gb, 0, none⟩) h hg _) hg _) hg _) hg _) hg _) hg _
end

def addP (d : Nat) (fs ps : List Int) : Except Nat ((List Int × List Int) × Nat) → Except Nat ((List Int × List Int) × Nat)
 | .error e => .error (d + e)
 | .ok ((f, p), k) => .ok ((fs ++ f, ps ++ p), d + k)
theorem pairs_zero (b : List Int) (d : Nat) (fs ps : List Int) : addP d fs ps (pairsS 0 b) = .ok ((fs, ps), d) := by simp [pairsS, addP]
theorem pairs_start (r : Except Nat ((List Int × List Int) × Nat)) : addP 0 [] [] r = r := by
 rcases r with e | ⟨⟨f, p⟩, k⟩ <;> simp [addP]
theorem pairs_err1 {b : List Int} (h : groupsS 2147483647 b = none) (m d : Nat) (fs ps : List Int) : addP d fs ps (pairsS (m + 1) b) = .error d := by
 simp [pairsS, h, addP]
theorem pairs_err2 {b : List Int} {f : Int} {k : Nat} (h : groupsS 2147483647 b = some (f, k)) (h2 : groupsS 2147483647 (b.drop k) = none) (m d : Nat) (fs ps : List Int) : addP d fs ps (pairsS (m + 1) b) = .error (d + k) := by
 simp [pairsS, h, h2, addP]
theorem pairs_ok {b : List Int} {f p : Int} {k k2 : Nat} (h : groupsS 2147483647 b = some (f, k)) (h2 : groupsS 2147483647 (b.drop k) = some (p, k2)) (m d : Nat) (fs ps : List Int) :
  addP d fs ps (pairsS (m + 1) b) = addP (d + k + k2) (fs ++ [f]) (ps ++ [p]) (pairsS m (b.drop (k + k2))) := by
 simp only [pairsS, h, h2]
 rcases pairsS m (b.drop (k + k2)) with e | ⟨⟨f', p'⟩, k'⟩ <;> simp [addP] <;> omega
theorem cert_e1 {b : List Int} (h : numS b = none) : certS b = .error 0 := by simp [certS, h]
theorem cert_e2 {b : List Int} {n : Bool × List Int} {k : Nat} (h : numS b = some (n, k)) (h2 : numS (b.drop k) = none) : certS b = .error k := by simp [certS, h, h2]
theorem cert_e3 {b : List Int} {n m : Bool × List Int} {k k2 : Nat} (h : numS b = some (n, k)) (h2 : numS (b.drop k) = some (m, k2)) (h3 : groupsS 64 (b.drop (k + k2)) = none) : certS b = .error (k + k2) := by simp [certS, h, h2, h3]
theorem cert_e4 {b : List Int} {n m : Bool × List Int} {k k2 k3 e : Nat} {q : Int} (h : numS b = some (n, k)) (h2 : numS (b.drop k) = some (m, k2)) (h3 : groupsS 64 (b.drop (k + k2)) = some (q, k3)) (h4 : pairsS q.toNat (b.drop (k + k2 + k3)) = .error e) : certS b = .error (k + k2 + k3 + e) := by simp [certS, h, h2, h3, h4]
theorem cert_ok {b : List Int} {n m : Bool × List Int} {k k2 k3 k4 : Nat} {q : Int} {fs ps : List Int} (h : numS b = some (n, k)) (h2 : numS (b.drop k) = some (m, k2)) (h3 : groupsS 64 (b.drop (k + k2)) = some (q, k3)) (h4 : pairsS q.toNat (b.drop (k + k2 + k3)) = .ok ((fs, ps), k4)) : certS b = .ok ((n, m, fs, ps), k + k2 + k3 + k4) := by simp [certS, h, h2, h3, h4]
set_option maxRecDepth 100000 in
set_option maxHeartbeats 4000000 in
theorem cert_c (w0 : World) (g : Nat) (A : Option Addr) (c : Nat) (b : List Int) (x : Nat) (w : World) (hr : RS w0 g A c b x w) (hx : x ≤ b.length) (ho : okB b) (hn : b.length ≤ 4611686018427387904) (hc : b.length ≤ c) :
  Calls Try.prog 49 #[.pointer (some ⟨g, 0, none⟩)] w (GivesC w0 g A c b x w (certS (b.drop x))) := by
 have HR := Aside0.mk hr
 have HO := Aside0.mk ho
 have hu := Try.underlying70
 have hu61 := Try.underlying61
 clear hr ho
 obtain ⟨Z, hZ⟩ : ∃ Z, certS (b.drop x) = Z := ⟨_, rfl⟩
 have HZ := Aside0.mk hZ
 rw [hZ]
 clear hZ
 go_enter Try.func49, Try.ntmps49
 go_wp2_with (first | ((with_reducible refine gate_dst (N := 2) rfl ?_); refine box_event ?hg (N := 2) ?hd (cs := #[.bool false, .slice none 0 0, .bool false, .slice none 0 0, .slice none 0 0, .slice none 0 0]) (t := 61) ?hr ?_; (case hd => rfl); (case hg => rfl); (case hr => first | (go_simp; done) | (go_simp; rfl)); intro gb hgb w1 hbox hb; have HR1 := Aside0.mk (HR.out.below hb); have HK1 := Aside0.mk (KeepBut.of_below hb g none); have HX1 := Aside0.mk hbox; have HGB := Aside0.mk hgb; clear hb hbox hgb))
 refine (number_c w0 g A c b x w1 HR1.out hx HO.out hn hc).mono ?_
 intro e w2 h2
 cases h : numS (b.drop x) with
 | none =>
  rw [h] at h2
  obtain ⟨rfl, ⟨y, hy⟩, hk⟩ := h2
  obtain rfl := HZ.out.symm.trans (cert_e1 h)
  exact ⟨rfl, givesC_error hy (HK1.out.trans hk.out (.inl rfl)) rfl⟩
 | some p =>
  obtain ⟨⟨s, l⟩, k⟩ := p
  rw [h] at h2
  obtain ⟨v, rfl, HV, HR2, HK2⟩ := h2
  go_wp2_with fail
  refine (number_c w0 g A c b (x + k) w2 HR2.out (by have := numS_len h; rw [List.length_drop] at this; omega) HO.out hn hc).mono ?_
  intro e w3 h3
  cases h' : numS (b.drop (x + k)) with
  | none =>
   rw [h'] at h3
   obtain ⟨rfl, ⟨y, hy⟩, hk⟩ := h3
   have h'' : numS ((b.drop x).drop k) = none := by rw [List.drop_drop]; exact h'
   obtain rfl := HZ.out.symm.trans (cert_e2 h h'')
   exact ⟨rfl, givesC_error hy ((HK1.out.trans HK2.out (.inl rfl)).trans hk.out (.inl rfl)) rfl⟩
  | some p =>
   obtain ⟨⟨s2, l2⟩, k2⟩ := p
   rw [h'] at h3
   obtain ⟨v2, rfl, HV2, HR3, HK3⟩ := h3
   have HG1 := Aside0.mk (show gb < w1.heap.size from blk_lt HX1.out)
   have HGB2 := Aside0.mk (HK2.out.blk HX1.out (by have := blk_lt HR.out.blk; have := HGB.out; omega) (by simp))
   have HGB3 := Aside0.mk (HK3.out.blk HGB2.out (by have := blk_lt HR.out.blk; have := HGB.out; omega) (by simp))
   have HVa := Aside0.mk (show Kd.R (Kd.int .u64) 58 w3 w0.heap.size (fun j => w1.heap.size ≤ j ∧ some j ≠ v2.ownBlock) v l from Kd.R_keep (Kd.R_mono (Kd.R_bound HV.out) (fun j hj => ⟨hj.1, fun e => by have := HV2.out.1 j e.symm; have := hj.2.2.1; omega⟩)) HK3.out (fun j hj => by have := blk_lt HR.out.blk; have := HK1.out.1; have := hj.1; omega))
   have HVb := Aside0.mk (show Kd.R (Kd.int .u64) 58 w3 w0.heap.size (fun j => w1.heap.size ≤ j ∧ some j ≠ v.ownBlock) v2 l2 from Kd.R_mono HV2.out (fun j hj => ⟨Nat.le_trans HK2.out.1 hj, fun e => by have := Kd.R_lt HV.out j e.symm; omega⟩))
   have HW3 := Aside0.mk ((HK1.out.trans HK2.out (.inl rfl)).trans HK3.out (.inl rfl))
   obtain ⟨A1, c1, e1⟩ := Kd.R_slice HV.out
   obtain ⟨n1, hn1⟩ : ∃ t, l.length = t := ⟨_, rfl⟩
   rw [hn1] at e1
   clear hn1
   subst e1
   obtain ⟨A2, c2, e2⟩ := Kd.R_slice HV2.out
   obtain ⟨n2, hn2⟩ : ∃ t, l2.length = t := ⟨_, rfl⟩
   rw [hn2] at e2
   clear hn2
   subst e2
   go_wp2_with (first | ((with_reducible refine gate_dst (N := 3) rfl ?_); refine box_event ?hg (N := 3) ?hd (cs := #[.bool false, .slice none 0 0, .bool false, .slice none 0 0, .slice none 0 0, .slice none 0 0]) (t := 61) ?hr ?_; (case hd => rfl); (case hg => rfl); (case hr => first | (go_simp; done) | (go_simp; rfl)); intro gx hgx w4 hbox hb; have HR4 := Aside0.mk (HR3.out.below hb); have HX4 := Aside0.mk hbox; have HGX := Aside0.mk hgx; have HB4 := Aside0.mk hb; clear hb hbox hgx; have cx0 := (blk_cell HX4.out 0).trans rfl; have cx1 := (blk_cell HX4.out 1).trans rfl; have cx2 := (blk_cell HX4.out 2).trans rfl; have cx3 := (blk_cell HX4.out 3).trans rfl; have cx4 := (blk_cell HX4.out 4).trans rfl; have cx5 := (blk_cell HX4.out 5).trans rfl; have fx0 := blk_frozen HX4.out 0; have fx1 := blk_frozen HX4.out 1; have fx2 := blk_frozen HX4.out 2; have fx3 := blk_frozen HX4.out 3; have fx4 := blk_frozen HX4.out 4; have fx5 := blk_frozen HX4.out 5))
   have k1 : gx = w3.heap.size := HGX.out
   have h3x : w3.heap.size ≤ gx := by omega
   have h0x : w0.heap.size ≤ gx := Nat.le_trans HR3.out.hb.size h3x
   have hgx : gx ≠ g := by have := blk_lt HR3.out.blk; omega
   clear k1
   obtain ⟨W5, hW5⟩ : ∃ W5, ((((((w4.setCell ⟨gx, 0, none⟩ (.bool s)).setCell ⟨gx, 1, none⟩ (.slice A1 n1 c1)).setCell ⟨gx, 2, none⟩ (.bool s2)).setCell ⟨gx, 3, none⟩ (.slice A2 n2 c2)).setCell ⟨gx, 4, none⟩ (.slice none 0 0)).setCell ⟨gx, 5, none⟩ (.slice none 0 0)) = W5 := ⟨_, rfl⟩
   have HK5 : Aside0 (KeepBut w3 W5 g none) := ⟨hW5 ▸ (keep_far (keep_far (keep_far (keep_far (keep_far (keep_far (KeepBut.of_below HB4.out g none) h3x _) h3x _) h3x _) h3x _) h3x _) h3x _)⟩
   have HB5 : Aside0 (Below w0.heap.size w0 W5) := ⟨hW5 ▸ ((((((HR4.out.hb.setCell h0x _).setCell h0x _).setCell h0x _).setCell h0x _).setCell h0x _).setCell h0x _)⟩
   have HG5 : Aside0 (W5.heap[g]? = some (.cells #[.slice A b.length c, .int .i64 ((x + k + k2 : Nat) : Int)] 70 (0, 0))) := ⟨hW5 ▸ (blk_far (blk_far (blk_far (blk_far (blk_far (blk_far HR4.out.blk hgx.symm _) hgx.symm _) hgx.symm _) hgx.symm _) hgx.symm _) hgx.symm _)⟩
   have HX5 : Aside0 (W5.heap[gx]? = some (.cells #[.bool s, .slice A1 n1 c1, .bool s2, .slice A2 n2 c2, .slice none 0 0, .slice none 0 0] 61 (0, 0))) := ⟨hW5 ▸ (blk_put (cs := #[.bool s, .slice A1 n1 c1, .bool s2, .slice A2 n2 c2, .slice none 0 0, .slice none 0 0]) (blk_put (cs := #[.bool s, .slice A1 n1 c1, .bool s2, .slice A2 n2 c2, .slice none 0 0, .slice none 0 0]) (blk_put (cs := #[.bool s, .slice A1 n1 c1, .bool s2, .slice none 0 0, .slice none 0 0, .slice none 0 0]) (blk_put (cs := #[.bool s, .slice A1 n1 c1, .bool false, .slice none 0 0, .slice none 0 0, .slice none 0 0]) (blk_put (cs := #[.bool s, .slice none 0 0, .bool false, .slice none 0 0, .slice none 0 0, .slice none 0 0]) (blk_put (cs := #[.bool false, .slice none 0 0, .bool false, .slice none 0 0, .slice none 0 0, .slice none 0 0]) HX4.out 0 _ rfl) 1 _ rfl) 2 _ rfl) 3 _ rfl) 4 _ rfl) 5 _ rfl)⟩
   have HR5 := Aside0.mk (HR3.out.keep HK5.out HB5.out HG5.out)
   rw [hW5]
   clear hW5 HX4 HR4 HB4 cx0 cx1 cx2 cx3 cx4 cx5 fx0 fx1 fx2 fx3 fx4 fx5
   have hl1 := numS_len h
   have hl2 := numS_len h'
   rw [List.length_drop] at hl1 hl2
   have hx3 : x + k + k2 ≤ b.length := by omega
   refine (groups_c w0 g A c b (x + k + k2) W5 64 HR5.out hx3 HO.out hn hc (by decide)).mono ?_
   intro e w6 h6
   cases h'' : groupsS 64 (b.drop (x + k + k2)) with
   | none =>
    rw [h''] at h6
    obtain ⟨rfl, ⟨y, hy⟩, hk⟩ := h6
    have g2 : numS ((b.drop x).drop k) = some ((s2, l2), k2) := by rw [List.drop_drop]; exact h'
    have g3 : groupsS 64 ((b.drop x).drop (k + k2)) = none := by rw [List.drop_drop, ← Nat.add_assoc]; exact h''
    obtain rfl := HZ.out.symm.trans (cert_e3 h g2 g3)
    exact ⟨rfl, givesC_error hy ((HW3.out.trans HK5.out (.inl rfl)).trans hk.out (.inl rfl)) (by omega)⟩
   | some p =>
    obtain ⟨q, k3⟩ := p
    rw [h''] at h6
    obtain ⟨rfl, HR6, HK6⟩ := h6
    go_wp2_with fail
    have hq := gr_val (l := b.drop (x + k + k2)) (by decide) (okB_drop HO.out _) h''
    obtain ⟨Q, rfl⟩ : ∃ Q : Nat, q = (Q : Int) := ⟨q.toNat, by omega⟩
    have hQ : Q ≤ 64 := by omega
    have hl3 := (gr_len h'').2.1
    rw [List.length_drop] at hl3
    have hx4 : x + k + k2 + k3 ≤ b.length := by omega
    have HX6 := Aside0.mk (HK6.out.blk HX5.out hgx (by simp))
    have g2 : numS ((b.drop x).drop k) = some ((s2, l2), k2) := by rw [List.drop_drop]; exact h'
    have g3 : groupsS 64 ((b.drop x).drop (k + k2)) = some ((Q : Int), k3) := by rw [List.drop_drop, ← Nat.add_assoc]; exact h''
    have g4 : (b.drop x).drop (k + k2 + k3) = b.drop (x + k + k2 + k3) := by rw [List.drop_drop]; congr 1; omega
    have HZe : Aside0 (∀ e, pairsS Q (b.drop (x + k + k2 + k3)) = .error e → Z = .error (k + k2 + k3 + e)) := ⟨fun e he => HZ.out.symm.trans (cert_e4 h g2 g3 (by rw [g4]; simpa using he))⟩
    have HZo : Aside0 (∀ fs ps k4, pairsS Q (b.drop (x + k + k2 + k3)) = .ok ((fs, ps), k4) → Z = .ok (((s, l), (s2, l2), fs, ps), k + k2 + k3 + k4)) := ⟨fun fs ps k4 he => HZ.out.symm.trans (cert_ok h g2 g3 (by rw [g4]; simpa using he))⟩
    obtain ⟨X0, hX0⟩ : ∃ X0, x + k + k2 + k3 = X0 := ⟨_, rfl⟩
    have HX0 := Aside0.mk hX0
    rw [hX0] at HZe HZo HR6 hx4
    have HCB := Aside0.mk (CB.mk (w0 := w0) (w3 := w3) (g := g) (A := A) (c := c) (b := b) (gx := gx) (m := w6.heap.size) ⟨_, HR3.out⟩ h3x (blk_lt HX6.out))
    have HCL := Aside0.mk (CL.mk (n1 := s) (v1 := .slice A1 n1 c1) (n2 := s2) (v2 := .slice A2 n2 c2) (fs := []) (ps := []) (m := w6.heap.size) HR6.out (HK5.out.trans HK6.out (.inl rfl)) HX6.out (Kd.R_nil _ _ _ _ _) (Kd.R_nil _ _ _ _ _))
    clear hX0 g2 g3 g4 hl1 hl2 hl3 hx3 h h' h'' hgx h0x HZ HR3 HR5 HR6 HK5 HK6 HX5 HX6 HG5 HB5 HGX
    go_loopw [11] (fun v11 wr => ∃ (i y d : Nat) (fs ps : List Int) (u1 u2 : Value), v11 = .int .i64 (i : Int) ∧ i ≤ Q ∧ Aside0 (y = X0 + d) ∧ y ≤ b.length ∧ Aside0 (fs.length = i) ∧ Aside0 (ps.length = i) ∧ Aside0 (pairsS Q (b.drop X0) = addP d fs ps (pairsS (Q - i) (b.drop y))) ∧ Aside0 (CL w0 w3 g A c b gx w6.heap.size s s2 (.slice A1 n1 c1) (.slice A2 n2 c2) y fs ps u1 u2 wr) ∧ Aside0 (w6.heap.size ≤ wr.heap.size)) (fun v11 _ => Q - (intOf v11).toNat)
    case atStart => exact ⟨0, X0, 0, [], [], .slice none 0 0, .slice none 0 0, rfl, Nat.zero_le _, ⟨rfl⟩, hx4, ⟨rfl⟩, ⟨rfl⟩, ⟨(pairs_start _).symm⟩, HCL, ⟨Nat.le_refl _⟩⟩
    case round =>
     clear HCL
     obtain ⟨i, y, d, fs, ps, u1, u2, rfl, hi, HY, hy, HF, HP, HPS, HCL, HWS⟩ := hrel
     by_cases hiq : i = Q
     ·subst hiq
      have hps := HPS.out
      rw [Nat.sub_self, pairs_zero] at hps
      obtain rfl := HZo.out _ _ _ hps
      clear hps
      have HGB4 := Aside0.mk (HCL.out.kp.blk HGB3.out (by have := blk_lt HR.out.blk; have := HGB.out; omega) (by simp))
      have cx0 := (blk_cell HCL.out.bx 0).trans rfl
      have cx1 := (blk_cell HCL.out.bx 1).trans rfl
      have cx2 := (blk_cell HCL.out.bx 2).trans rfl
      have cx3 := (blk_cell HCL.out.bx 3).trans rfl
      have cx4 := (blk_cell HCL.out.bx 4).trans rfl
      have cx5 := (blk_cell HCL.out.bx 5).trans rfl
      have cg0 := (blk_cell HGB4.out 0).trans rfl
      have cg1 := (blk_cell HGB4.out 1).trans rfl
      have cg2 := (blk_cell HGB4.out 2).trans rfl
      have cg3 := (blk_cell HGB4.out 3).trans rfl
      have cg4 := (blk_cell HGB4.out 4).trans rfl
      have cg5 := (blk_cell HGB4.out 5).trans rfl
      have fg0 := blk_frozen HGB4.out 0
      have fg1 := blk_frozen HGB4.out 1
      have fg2 := blk_frozen HGB4.out 2
      have fg3 := blk_frozen HGB4.out 3
      have fg4 := blk_frozen HGB4.out 4
      have fg5 := blk_frozen HGB4.out 5
      have HC0 := HCL
      obtain ⟨B1, d1, e1⟩ := Kd.R_slice HCL.out.r1
      obtain ⟨B2, d2, e2⟩ := Kd.R_slice HCL.out.r2
      obtain ⟨m1, hm1⟩ : ∃ t, fs.length = t := ⟨_, rfl⟩
      obtain ⟨m2, hm2⟩ : ∃ t, ps.length = t := ⟨_, rfl⟩
      rw [hm1] at e1
      rw [hm2] at e2
      clear hm1 hm2
      subst e1 e2
      go_wp2
      have hgW : w.heap.size ≤ gb := by have := HGB.out; omega
      have hg1 := HG1.out
      have hg0 : w0.heap.size ≤ gb := Nat.le_trans HR.out.hb.size hgW
      have hgg : gb ≠ g := by have := blk_lt HR.out.blk; omega
      have hk13 := Nat.le_trans HK2.out.1 HK3.out.1
      have h36 : w3.heap.size ≤ w6.heap.size := by have := HCB.out.hx; have := HCB.out.hm; omega
      have hK9 := keep_six (s0 := .bool s) (s1 := .slice A1 n1 c1) (s2 := .bool s2) (s3 := .slice A2 n2 c2) (s4 := .slice B1 m1 d1) (s5 := .slice B2 m2 d2) (HW3.out.trans HC0.out.kp (.inl rfl)) hgW
      have hY9 := blk_six (.bool s) (.slice A1 n1 c1) (.bool s2) (.slice A2 n2 c2) (.slice B1 m1 d1) (.slice B2 m2 d2) HGB4.out
      refine bodyPost_ret (results_cell_row rfl _ _ gb 61 #[.bool s, .slice A1 n1 c1, .bool s2, .slice A2 n2 c2, .slice B1 m1 d1, .slice B2 m2 d2] (0, 0) _ rfl hY9 Try.underlying61 rfl (by kernel_rfl)) rfl ?_
      refine ⟨_, _, _, _, rfl, ⟨Kd.R_mono (R_six (Kd.R_keep HVa.out HC0.out.kp (fun j hj => by have := blk_lt HR.out.blk; have := hj.1; omega)) (fun j hj => by have := hj.1; omega)) (fun j hj => ⟨by have := hj.1; omega, hj.2⟩)⟩, ⟨Kd.R_mono (R_six (Kd.R_keep HVb.out HC0.out.kp (fun j hj => by have := blk_lt HR.out.blk; have := hj.1; omega)) (fun j hj => by have := hj.1; omega)) (fun j hj => ⟨by have := hj.1; omega, hj.2⟩)⟩, ⟨Kd.R_mono (R_six HC0.out.r1 (fun j hj => by have := hj.1; omega)) (fun j hj => ⟨by have := hj.1; omega, hj.2⟩)⟩, ⟨Kd.R_mono (R_six HC0.out.r2 (fun j hj => by have := hj.1; omega)) (fun j hj => ⟨by have := hj.1; omega, hj.2⟩)⟩, ⟨?_⟩, ⟨hK9⟩⟩
      have hXY : x + (k + k2 + k3 + d) = y := by have := HY.out; have := HX0.out; omega
      rw [hXY]
      exact HR.out.keep hK9 (below_six HC0.out.rs.hb hg0) (far_six HC0.out.rs.blk hgg.symm)
     ·have g1 : i < Q := by omega
      obtain ⟨M, hM⟩ : ∃ M, Q - i = M + 1 := ⟨Q - i - 1, by omega⟩
      have HM := Aside0.mk hM
      rw [hM] at HPS
      clear hM
      obtain ⟨B1, d1, e1⟩ := Kd.R_slice HCL.out.r1
      obtain ⟨B2, d2, e2⟩ := Kd.R_slice HCL.out.r2
      obtain ⟨m1, hm1⟩ : ∃ t, fs.length = t := ⟨_, rfl⟩
      obtain ⟨m2, hm2⟩ : ∃ t, ps.length = t := ⟨_, rfl⟩
      rw [hm1] at e1
      rw [hm2] at e2
      have HF2 : Aside0 (m1 = i ∧ m2 = i) := ⟨hm1.symm.trans HF.out, hm2.symm.trans HP.out⟩
      clear hm1 hm2
      subst e1 e2
      have cx4 := (blk_cell HCL.out.bx 4).trans rfl
      have cx5 := (blk_cell HCL.out.bx 5).trans rfl
      have fx4 := blk_frozen HCL.out.bx 4
      have fx5 := blk_frozen HCL.out.bx 5
      go_wp2_with fail
      refine start_ (n := 8) (S := fun w' => w'.cell? ⟨gx, 4, none⟩ = some (.slice B1 m1 d1)) (ds := [7]) #[false, false, false, false, false, false, false, false] (by kernel_rfl) rfl rfl cx4 (fun hHeld => ?_)
      have HCD := Aside0.mk HCL.out.drew
      have HWD := Aside0.mk (show w6.heap.size ≤ wr.drew.heap.size from HWS.out)
      clear HCL HWS
      (try clear cx4 fx4)
      (try clear cx5 fx5)
      generalize wr.drew = WD4 at HCD HWD hHeld ⊢
      refine pure_ (i := 0) (N := some 13) (v := ?_) (a' := ?_) #[true, false, false, false, false, false, false, false] rfl rfl (by kernel_rfl) (fun _ _ _ h => h) (Or.inl ⟨by rfl, ?_⟩) ?_ ?_
      rotate_left
      ·intro w'
       go_simp
       with_reducible rfl
      rotate_left
      ·simp only [Act.put, List.setIfInBounds_toArray, List.set_cons_zero, List.set_cons_succ, i64_w, i32_w]
       rfl
      refine pure_ (i := 2) (N := some 15) (v := ?_) (a' := ?_) #[true, false, true, false, false, false, false, false] rfl rfl (by kernel_rfl) (fun _ _ _ h => h) (Or.inl ⟨by rfl, ?_⟩) ?_ ?_
      rotate_left
      ·intro w'
       go_simp
       with_reducible rfl
      rotate_left
      ·simp only [Act.put, List.setIfInBounds_toArray, List.set_cons_zero, List.set_cons_succ, i64_w, i32_w]
       rfl
      refine take_ (i := 1) (N := some 14) (v := ?_) (a' := ?_) #[true, true, true, false, false, false, false, false] rfl rfl (by kernel_rfl) (fun _ _ _ h => h) (Or.inl ⟨by rfl, ?_⟩) hHeld ?_ ?_
      rotate_left
      ·intro w' s0
       go_simp
       with_reducible rfl
      rotate_left
      ·simp only [Act.put, List.setIfInBounds_toArray, List.set_cons_zero, List.set_cons_succ, i64_w, i32_w]
       rfl
      refine one_ (i := 3) (N := some 16) #[true, true, true, true, false, false, false, false] rfl rfl (by kernel_rfl) (by decide) (fun K hK => ?_)
      cases hq4 : groupsS 2147483647 (b.drop (y)) with
      | none =>
       refine callp_ Try.func48 (by kernel_rfl) rfl #[.pointer (some ⟨g, 0, none⟩), .int .i64 2147483647] (by rfl) rfl (by (try simp only [List.map_toArray, List.map_cons, List.map_nil]); first | done | rfl) ?_
       refine (groups_c w0 g A c b (y) WD4 2147483647 HCD.out.rs hy HO.out hn hc (by decide)).mono ?_
       intro e w7 h7
       rw [hq4] at h7
       obtain ⟨rfl, ⟨yy, hyy⟩, hk7⟩ := h7
       refine ⟨_, rfl, ?_⟩
       obtain rfl := HZe.out _ (HPS.out.trans (pairs_err1 hq4 M d fs ps))
       exact ⟨rfl, givesC_error hyy ((HW3.out.trans HCD.out.kp (.inl rfl)).trans hk7.out (.inl rfl)) (by have := HY.out; have := HX0.out; omega)⟩
      | some p4 =>
       obtain ⟨f, k4⟩ := p4
       refine goes_ Try.func48 (by kernel_rfl) rfl #[.pointer (some ⟨g, 0, none⟩), .int .i64 2147483647] (by rfl) rfl rfl (by (try simp only [List.map_toArray, List.map_cons, List.map_nil]); first | done | rfl) ?_
       refine (groups_c w0 g A c b (y) WD4 2147483647 HCD.out.rs hy HO.out hn hc (by decide)).mono ?_
       intro e wc4 h7
       rw [hq4] at h7
       obtain ⟨rfl, hr7, hk7⟩ := h7
       refine ⟨_, rfl, ?_⟩
       have HCE := Aside0.mk (CL.call HCB.out HCD.out hk7.out hr7.out)
       have HWE := Aside0.mk (show w6.heap.size ≤ wc4.heap.size from Nat.le_trans HWD.out hk7.out.1)
       clear hk7 hr7 HCD HWD
       refine hK.out _ _ ((blk_cell HCE.out.bx 4).trans rfl) (fun hHeld => ?_)
       clear hK K
       refine norm_ (a' := ?_) ?_ ?_
       rotate_left
       ·show Act.put _ (some 16) _ = _
        simp only [Act.put, List.setIfInBounds_toArray, List.set_cons_zero, List.set_cons_succ, i64_w, i32_w]
        rfl
       refine one_ (i := 4) (N := some 17) #[true, true, true, true, true, false, false, false] rfl rfl (by kernel_rfl) (by decide) (fun K hK => ?_)
       refine value_ (w1 := ?_) (v := ?_) (by rfl) rfl ?_ ?_
       rotate_left 2
       ·go_simp
        constructor
        ·rfl
        ·rfl
       refine hK.out _ _ ((blk_cell (blk_alloc HCE.out.bx _) 4).trans rfl) (fun hHeld => ?_)
       clear hK K
       refine norm_ (a' := ?_) ?_ ?_
       rotate_left
       ·show Act.put _ (some 17) _ = _
        simp only [Act.put, List.setIfInBounds_toArray, List.set_cons_zero, List.set_cons_succ, i64_w, i32_w]
        rfl
       refine one_ (i := 5) (N := some 18) #[true, true, true, true, true, true, false, false] rfl rfl (by kernel_rfl) (by decide) (fun K hK => ?_)
       refine Kd.R_append_step i64 (w0 := w0) w0.heap.size (by rfl) (.tmp 14) (.tmp 17) 59 3 (.int .i64 0) 8 rfl Try.underlying59 infoI rfl (by decide) (by omega) (.slice B1 m1 d1) fs f [.int .i64 f] _ (fun _ => False) rfl rfl rfl (fun _ hk => hk.elim) (HCE.out.fresh1 HCB.out HWE.out) HCE.out.r1 HCE.out.rs.hb HCE.out.rs.hb.size ?aL ?_
       (case aL => have := HF.out; omega)
       intro ux w8 hU hb8 hg8 hat8
       have HCF := Aside0.mk (CL.app1 HCB.out HCE.out hU hb8 hg8 hat8)
       have HWF := Aside0.mk (show w6.heap.size ≤ w8.heap.size from Nat.le_trans HWE.out hg8.size)
       have HXF := Aside0.mk (blk_grown HCE.out.bx hg8 (Kd.R_ne HCE.out.r1 HCE.out.bx (by decide)))
       obtain ⟨Bn1, dn1, en1⟩ := Kd.R_slice hU
       clear hU hb8 hg8 hat8 HCE HWE
       subst en1
       obtain ⟨mm1, hmm1⟩ : ∃ t, (fs ++ [f]).length = t := ⟨_, rfl⟩
       rw [hmm1] at HCF ⊢
       refine hK.out _ _ ((blk_cell HXF.out 4).trans rfl) (fun hHeld => ?_)
       clear hK K
       refine norm_ (a' := ?_) ?_ ?_
       rotate_left
       ·show Act.put _ (some 18) _ = _
        simp only [Act.put, List.setIfInBounds_toArray, List.set_cons_zero, List.set_cons_succ, i64_w, i32_w]
        rfl
       refine pure_ (i := 6) (N := some 19) (v := ?_) (a' := ?_) #[true, true, true, true, true, true, true, false] rfl rfl (by kernel_rfl) (fun _ _ _ h => h) (Or.inl ⟨by rfl, ?_⟩) ?_ ?_
       rotate_left
       ·intro w'
        go_simp
        with_reducible rfl
       rotate_left
       ·simp only [Act.put, List.setIfInBounds_toArray, List.set_cons_zero, List.set_cons_succ, i64_w, i32_w]
        rfl
       refine last_ (i := 7) (N := none) #[true, true, true, true, true, true, true, true] rfl rfl (by kernel_rfl) (by decide) (fun K hK => ?_)
       have fz := blk_frozen HXF.out 4
       have cz := (blk_cell HXF.out 4).trans rfl
       refine skip_ (w1 := ?_) (by rfl) rfl ?_ ?_
       rotate_left
       ·go_simp
        rfl
       refine hK.out _ _ ?_
       clear hK K fz cz HXF
       refine done_ (by kernel_rfl) ?_
       generalize hWF4 : w8.setCell _ _ = W4 at HCF ⊢
       have HWG := Aside0.mk (show w6.heap.size ≤ W4.heap.size from by rw [← hWF4]; simpa [World.setCell] using HWF.out)
       clear hWF4 HWF
       have hl4 := (gr_len hq4).2.1
       rw [List.length_drop] at hl4
       have hy2 : y + k4 ≤ b.length := by omega
       clear hHeld
       generalize hff : fs ++ [f] = fs2 at HCF hmm1
       have HFF := Aside0.mk hff
       have cx5 := (blk_cell HCF.out.bx 5).trans rfl
       have fx5 := blk_frozen HCF.out.bx 5
       have HCL := HCF
       have HWS := HWG
       clear HCF HWG
       go_wp2_with fail
       refine start_ (n := 8) (S := fun w' => w'.cell? ⟨gx, 5, none⟩ = some (.slice B2 m2 d2)) (ds := [7]) #[false, false, false, false, false, false, false, false] (by kernel_rfl) rfl rfl cx5 (fun hHeld => ?_)
       have HCD := Aside0.mk HCL.out.drew
       have HWD := Aside0.mk (show w6.heap.size ≤ W4.drew.heap.size from HWS.out)
       clear HCL HWS
       (try clear cx4 fx4)
       (try clear cx5 fx5)
       generalize W4.drew = WD5 at HCD HWD hHeld ⊢
       refine pure_ (i := 0) (N := some 20) (v := ?_) (a' := ?_) #[true, false, false, false, false, false, false, false] rfl rfl (by kernel_rfl) (fun _ _ _ h => h) (Or.inl ⟨by rfl, ?_⟩) ?_ ?_
       rotate_left
       ·intro w'
        go_simp
        with_reducible rfl
       rotate_left
       ·simp only [Act.put, List.setIfInBounds_toArray, List.set_cons_zero, List.set_cons_succ, i64_w, i32_w]
        rfl
       refine pure_ (i := 2) (N := some 22) (v := ?_) (a' := ?_) #[true, false, true, false, false, false, false, false] rfl rfl (by kernel_rfl) (fun _ _ _ h => h) (Or.inl ⟨by rfl, ?_⟩) ?_ ?_
       rotate_left
       ·intro w'
        go_simp
        with_reducible rfl
       rotate_left
       ·simp only [Act.put, List.setIfInBounds_toArray, List.set_cons_zero, List.set_cons_succ, i64_w, i32_w]
        rfl
       refine take_ (i := 1) (N := some 21) (v := ?_) (a' := ?_) #[true, true, true, false, false, false, false, false] rfl rfl (by kernel_rfl) (fun _ _ _ h => h) (Or.inl ⟨by rfl, ?_⟩) hHeld ?_ ?_
       rotate_left
       ·intro w' s0
        go_simp
        with_reducible rfl
       rotate_left
       ·simp only [Act.put, List.setIfInBounds_toArray, List.set_cons_zero, List.set_cons_succ, i64_w, i32_w]
        rfl
       refine one_ (i := 3) (N := some 23) #[true, true, true, true, false, false, false, false] rfl rfl (by kernel_rfl) (by decide) (fun K hK => ?_)
       cases hq5 : groupsS 2147483647 (b.drop (y + k4)) with
       | none =>
        refine callp_ Try.func48 (by kernel_rfl) rfl #[.pointer (some ⟨g, 0, none⟩), .int .i64 2147483647] (by rfl) rfl (by (try simp only [List.map_toArray, List.map_cons, List.map_nil]); first | done | rfl) ?_
        refine (groups_c w0 g A c b (y + k4) WD5 2147483647 HCD.out.rs hy2 HO.out hn hc (by decide)).mono ?_
        intro e w7 h7
        rw [hq5] at h7
        obtain ⟨rfl, ⟨yy, hyy⟩, hk7⟩ := h7
        refine ⟨_, rfl, ?_⟩
        have hq6 : groupsS 2147483647 ((b.drop y).drop k4) = none := by rw [List.drop_drop]; exact hq5
        obtain rfl := HZe.out _ (HPS.out.trans (pairs_err2 hq4 hq6 M d fs ps))
        exact ⟨rfl, givesC_error hyy ((HW3.out.trans HCD.out.kp (.inl rfl)).trans hk7.out (.inl rfl)) (by have := HY.out; have := HX0.out; omega)⟩
       | some p5 =>
        obtain ⟨p, k5⟩ := p5
        refine goes_ Try.func48 (by kernel_rfl) rfl #[.pointer (some ⟨g, 0, none⟩), .int .i64 2147483647] (by rfl) rfl rfl (by (try simp only [List.map_toArray, List.map_cons, List.map_nil]); first | done | rfl) ?_
        refine (groups_c w0 g A c b (y + k4) WD5 2147483647 HCD.out.rs hy2 HO.out hn hc (by decide)).mono ?_
        intro e wc5 h7
        rw [hq5] at h7
        obtain ⟨rfl, hr7, hk7⟩ := h7
        refine ⟨_, rfl, ?_⟩
        have HCE := Aside0.mk (CL.call HCB.out HCD.out hk7.out hr7.out)
        have HWE := Aside0.mk (show w6.heap.size ≤ wc5.heap.size from Nat.le_trans HWD.out hk7.out.1)
        clear hk7 hr7 HCD HWD
        refine hK.out _ _ ((blk_cell HCE.out.bx 5).trans rfl) (fun hHeld => ?_)
        clear hK K
        refine norm_ (a' := ?_) ?_ ?_
        rotate_left
        ·show Act.put _ (some 23) _ = _
         simp only [Act.put, List.setIfInBounds_toArray, List.set_cons_zero, List.set_cons_succ, i64_w, i32_w]
         rfl
        refine one_ (i := 4) (N := some 24) #[true, true, true, true, true, false, false, false] rfl rfl (by kernel_rfl) (by decide) (fun K hK => ?_)
        refine value_ (w1 := ?_) (v := ?_) (by rfl) rfl ?_ ?_
        rotate_left 2
        ·go_simp
         constructor
         ·rfl
         ·rfl
        refine hK.out _ _ ((blk_cell (blk_alloc HCE.out.bx _) 5).trans rfl) (fun hHeld => ?_)
        clear hK K
        refine norm_ (a' := ?_) ?_ ?_
        rotate_left
        ·show Act.put _ (some 24) _ = _
         simp only [Act.put, List.setIfInBounds_toArray, List.set_cons_zero, List.set_cons_succ, i64_w, i32_w]
         rfl
        refine one_ (i := 5) (N := some 25) #[true, true, true, true, true, true, false, false] rfl rfl (by kernel_rfl) (by decide) (fun K hK => ?_)
        refine Kd.R_append_step i64 (w0 := w0) w0.heap.size (by rfl) (.tmp 21) (.tmp 24) 59 3 (.int .i64 0) 8 rfl Try.underlying59 infoI rfl (by decide) (by omega) (.slice B2 m2 d2) ps p [.int .i64 p] _ (fun _ => False) rfl rfl rfl (fun _ hk => hk.elim) (HCE.out.fresh2 HCB.out HWE.out) HCE.out.r2 HCE.out.rs.hb HCE.out.rs.hb.size ?aL ?_
        (case aL => have := HP.out; omega)
        intro uy w8 hU hb8 hg8 hat8
        have HCF := Aside0.mk (CL.app2 HCB.out HCE.out hU hb8 hg8 hat8)
        have HWF := Aside0.mk (show w6.heap.size ≤ w8.heap.size from Nat.le_trans HWE.out hg8.size)
        have HXF := Aside0.mk (blk_grown HCE.out.bx hg8 (Kd.R_ne HCE.out.r2 HCE.out.bx (by decide)))
        obtain ⟨Bn2, dn2, en2⟩ := Kd.R_slice hU
        clear hU hb8 hg8 hat8 HCE HWE
        subst en2
        obtain ⟨mm2, hmm2⟩ : ∃ t, (ps ++ [p]).length = t := ⟨_, rfl⟩
        rw [hmm2] at HCF ⊢
        refine hK.out _ _ ((blk_cell HXF.out 5).trans rfl) (fun hHeld => ?_)
        clear hK K
        refine norm_ (a' := ?_) ?_ ?_
        rotate_left
        ·show Act.put _ (some 25) _ = _
         simp only [Act.put, List.setIfInBounds_toArray, List.set_cons_zero, List.set_cons_succ, i64_w, i32_w]
         rfl
        refine pure_ (i := 6) (N := some 26) (v := ?_) (a' := ?_) #[true, true, true, true, true, true, true, false] rfl rfl (by kernel_rfl) (fun _ _ _ h => h) (Or.inl ⟨by rfl, ?_⟩) ?_ ?_
        rotate_left
        ·intro w'
         go_simp
         with_reducible rfl
        rotate_left
        ·simp only [Act.put, List.setIfInBounds_toArray, List.set_cons_zero, List.set_cons_succ, i64_w, i32_w]
         rfl
        refine last_ (i := 7) (N := none) #[true, true, true, true, true, true, true, true] rfl rfl (by kernel_rfl) (by decide) (fun K hK => ?_)
        have fz := blk_frozen HXF.out 5
        have cz := (blk_cell HXF.out 5).trans rfl
        refine skip_ (w1 := ?_) (by rfl) rfl ?_ ?_
        rotate_left
        ·go_simp
         rfl
        refine hK.out _ _ ?_
        clear hK K fz cz HXF
        refine done_ (by kernel_rfl) ?_
        generalize hWF5 : w8.setCell _ _ = W5 at HCF ⊢
        have HWG := Aside0.mk (show w6.heap.size ≤ W5.heap.size from by rw [← hWF5]; simpa [World.setCell] using HWF.out)
        clear hWF5 HWF
        have hq6 : groupsS 2147483647 ((b.drop y).drop k4) = some (p, k5) := by rw [List.drop_drop]; exact hq5
        have HPS2 := Aside0.mk (HPS.out.trans (pairs_ok hq4 hq6 M d fs ps))
        rw [HFF.out, List.drop_drop] at HPS2
        have hl5 := (gr_len hq5).2.1
        rw [List.length_drop] at hl5
        obtain ⟨i1, hi1⟩ : ∃ i1, i + 1 = i1 := ⟨_, rfl⟩
        have HQM : Aside0 (Q - i1 = M) := ⟨by have := HM.out; omega⟩
        have hw1 : wrap64 ((i : Int) + 1) = (i1 : Int) := by unfold wrap64; omega
        have HI := Aside0.mk hi1
        have HY2 := Aside0.mk hy2
        have HL5 := Aside0.mk hl5
        clear hi1 hq6 hq5 hq4 hmm1 hmm2 hy2 hl5 hl4 hy
        clear hHeld
        go_wp2
        exact ⟨⟨i1, y + k4 + k5, d + k4 + k5, fs2, ps ++ [p], _, _, by simp [← HI.out], by have := HI.out; omega, ⟨by have := HY.out; omega⟩, by have := HL5.out; have := HY2.out; omega, ⟨by rw [← HFF.out, List.length_append, HF.out]; exact HI.out⟩, ⟨by rw [List.length_append, HP.out]; exact HI.out⟩, ⟨by rw [HQM.out, Nat.add_assoc y]; exact HPS2.out⟩, HCF, HWG⟩, by have := HI.out; simp [intOf]; omega⟩
end Go.Proofs.Ytoheamfnddfgkaa.St
