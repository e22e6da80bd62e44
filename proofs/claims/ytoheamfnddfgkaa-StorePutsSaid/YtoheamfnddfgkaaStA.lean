/- store: the reader's groups. -/
import Derived.Test.YtoheamfnddfgkaaStM
import Derived.Test.YtoheamfnddfgkaaWMore
import Derived.WalkKit
import Derived.WalkLawsBesides
import Derived.Deep.QuietTactic
import Derived.BigQuiet
import Derived.Laws.BitsAllLaws
import Derived.LoopTactic
import Derived.Lib.Hide
import Derived.Deep.RegionWith
import Derived.Outline
import Derived.Test.YtoheamfnddfgkaaProg
namespace Go.Proofs.Ytoheamfnddfgkaa.St
open Go.RowKit Go.Proofs.YtoheamfnddfgkaaW.PrintWords Go.Proofs.YtoheamfnddfgkaaW.PrintLast Go.Proofs.YtoheamfnddfgkaaW.PrintMore
set_option linter.unusedVariables false
set_option linter.unusedSimpArgs false

abbrev u8 : Kd Int := Kd.int .u8
/-- A reader in block g, over bytes b, at a place. -/
structure RS (w0 : World) (g : Nat) (A : Option Addr) (c : Nat) (b : List Int) (x : Nat) (w : World) : Prop where
  blk : w.heap[g]? = some (.cells #[.slice A b.length c, .int .i64 (x : Int)] 70 (0, 0))
  rds : ∀ W, KeepBut w W g none → u8.C W A b.length b
  hb : Below w0.heap.size w0 w
  hg : w0.heap.size ≤ g
theorem RS.keep {w0 w w' : World} {g : Nat} {A : Option Addr} {c : Nat} {b : List Int} {x y : Nat} (h : RS w0 g A c b x w) (hk : KeepBut w w' g none) (hb : Below w0.heap.size w0 w') (hy : w'.heap[g]? = some (.cells #[.slice A b.length c, .int .i64 (y : Int)] 70 (0, 0))) : RS w0 g A c b y w' :=
  ⟨hy, fun W hW => h.rds W (hk.trans hW (.inl rfl)), hb, h.hg⟩
theorem RS.drewN {w0 w : World} {g : Nat} {A : Option Addr} {c : Nat} {b : List Int} {x : Nat} (h : RS w0 g A c b x w) (n : Nat) : RS w0 g A c b x (w.drewN n) :=
  h.keep (keep_drewN (KeepBut.refl _ _ _) n) (pw_below_drewN h.hb n) h.blk
theorem RS.set {w0 w : World} {g : Nat} {A : Option Addr} {c : Nat} {b : List Int} {x : Nat} (h : RS w0 g A c b x w) (y : Nat) : RS w0 g A c b y (w.setCell ⟨g, 1, none⟩ (.int .i64 (y : Int))) :=
  h.keep ((KeepBut.refl _ _ _).set_ _ _) (h.hb.setCell h.hg _) (blk_set h.blk 1 (.int .i64 (y : Int)))
theorem RS.cells {w0 w : World} {g : Nat} {A : Option Addr} {c : Nat} {b : List Int} {x : Nat} (h : RS w0 g A c b x w) :
    w.cell? ⟨g, 0, none⟩ = some (.slice A b.length c) ∧ w.cell? ⟨g, 1, none⟩ = some (.int .i64 (x : Int)) ∧ w.frozen? ⟨g, 0, none⟩ = false ∧ w.frozen? ⟨g, 1, none⟩ = false := by
  refine ⟨?_, ?_, ?_, ?_⟩ <;> simp [World.cell?, World.frozen?, h.blk]
theorem RS.byte {w0 w : World} {g : Nat} {A : Option Addr} {c : Nat} {b : List Int} {x : Nat} (h : RS w0 g A c b x w) (j : Nat) (hj : j < b.length) : ∃ ad, A = some ad ∧ w.cell? (ad.add j) = some (.int .u8 (b.getD j 0)) := by
  obtain ⟨ad, e, hc⟩ := Kd.at_int (h.rds w (KeepBut.refl _ _ _)) (j : Int) (by omega) (by omega)
  exact ⟨ad, e, by simpa [rd] using hc⟩

theorem and7 (c : Nat) (hc : c < 256) : bits .and .u8 (c : Int) 127 = ((c % 128 : Nat) : Int) := by
  have h := u8_and_nat c 127 hc (by decide)
  have e : c &&& 127 = c % 128 := by
    have := Nat.and_two_pow_sub_one_eq_mod c 7
    simpa using this
  rw [e] at h
  exact h
theorem shl7 (c s : Nat) (hc : c < 128) (hi : s ≤ 28) : wrap64 ((c : Int) * 2 ^ s) = ((c * 2 ^ s : Nat) : Int) := by
  have hlt : c * 2 ^ s < 2 ^ 42 := by
    have h1 : 2 ^ s ≤ 2 ^ 28 := Nat.pow_le_pow_right (by decide) hi
    have h2 : c * 2 ^ s ≤ 127 * 2 ^ 28 := Nat.mul_le_mul (by omega) h1
    omega
  rw [show (c : Int) * 2 ^ s = ((c * 2 ^ s : Nat) : Int) by simp]
  unfold wrap64
  omega
theorem i64_or_nat (a b : Nat) (ha : a < 4611686018427387904) (hb : b < 4611686018427387904) : bits .or .i64 (a : Int) (b : Int) = ((a ||| b : Nat) : Int) := by
  have hx : a ||| b < 2 ^ 62 := Nat.or_lt_two_pow (by omega) (by omega)
  show IntKind.i64.wrap ((BitVec.ofInt 64 (a : Int) ||| BitVec.ofInt 64 (b : Int)).toNat : Int) = _
  rw [BitVec.toNat_or, ofInt_u64 a (by omega), ofInt_u64 b (by omega), IntKind.wrap_i64]
  omega
theorem or7 (n c s : Nat) (hn : n < 2 ^ s) (hc : c < 128) (hs : s ≤ 28) : bits .or .i64 (n : Int) ((c * 2 ^ s : Nat) : Int) = ((n + c * 2 ^ s : Nat) : Int) := by
  have h2 : c * 2 ^ s ≤ 127 * 2 ^ 28 := Nat.mul_le_mul (by omega) (Nat.pow_le_pow_right (by decide) hs)
  have h1 : n < 2 ^ 28 := Nat.lt_of_lt_of_le hn (Nat.pow_le_pow_right (by decide) hs)
  have h := i64_or_nat n (c * 2 ^ s) (by omega) (by omega)
  have e : n ||| c * 2 ^ s = n + c * 2 ^ s := by
    rw [Nat.or_comm, Nat.mul_comm, ← Nat.two_pow_add_eq_or_of_lt hn, Nat.add_comm]
  rw [h, e]

/-- What comes of a reader's part. -/
def Gives (w0 : World) (g : Nat) (A : Option Addr) (c : Nat) (b : List Int) (x : Nat) (w : World) (r : Option (Int × Nat)) (e : Ending) (w' : World) : Prop :=
  match r with
  | some (v, k) => e = .returned (.int .i64 v) ∧ Aside0 (RS w0 g A c b (x + k) w') ∧ Aside0 (KeepBut w w' g none)
  | none => e = .panicked [{ v := .iface 79 (.int .i64 (x : Int)), recovered := false }] ∧ (∃ y, RS w0 g A c b y w') ∧ Aside0 (KeepBut w w' g none)

theorem gives_none {w0 : World} {g : Nat} {A : Option Addr} {c : Nat} {b : List Int} {x y : Nat} {w w' : World} (h : RS w0 g A c b y w') (hk : KeepBut w w' g none) : Gives w0 g A c b x w none (.panicked [{ v := .iface 79 (.int .i64 (x : Int)), recovered := false }]) w' := ⟨rfl, ⟨y, h⟩, ⟨hk⟩⟩
theorem gives_some {w0 : World} {g : Nat} {A : Option Addr} {c : Nat} {b : List Int} {x k : Nat} {v : Int} {w w' : World} (h : RS w0 g A c b (x + k) w') (hk : KeepBut w w' g none) : Gives w0 g A c b x w (some (v, k)) (.returned (.int .i64 v)) w' := ⟨rfl, ⟨h⟩, ⟨hk⟩⟩

set_option maxRecDepth 100000 in
set_option maxHeartbeats 4000000 in
theorem groups_c (w0 : World) (g : Nat) (A : Option Addr) (c : Nat) (b : List Int) (x : Nat) (w : World) (most : Int) (hr : RS w0 g A c b x w) (hx : x ≤ b.length) (ho : okB b) (hn : b.length ≤ 4611686018427387904) (hc : b.length ≤ c) (hm : most ≤ 4611686018427387904) :
    Calls Try.prog 48 #[.pointer (some ⟨g, 0, none⟩), .int .i64 most] w (Gives w0 g A c b x w (groupsS most (b.drop x))) := by
  have HR := Aside0.mk hr
  have HO := Aside0.mk ho
  have hu := Try.underlying70
  obtain ⟨c0, c1, f0, f1⟩ := hr.cells
  clear hr ho
  obtain ⟨G, hG⟩ : ∃ G, groupsS most (b.drop x) = G := ⟨_, rfl⟩
  have HG := Aside0.mk hG
  rw [hG]
  clear hG
  go_enter Try.func48, Try.ntmps48
  go_wp2
  go_loopw [6, 7] (fun v6 v7 wr => ∃ (i n s : Nat), i ≤ 5 ∧ Aside0 (s = 7 * i) ∧ v7 = .int .i64 (s : Int) ∧ v6 = .int .i64 (n : Int) ∧ Aside0 (n < 2 ^ s) ∧ x + i ≤ b.length ∧ Aside0 (gr most (5 - i) i (n : Int) (b.drop (x + i)) = G) ∧ Aside0 (RS w0 g A c b (x + i) wr) ∧ Aside0 (KeepBut w wr g none)) (fun _ v7 _ => 35 - (intOf v7).toNat)
  case atStart => exact ⟨0, 0, 0, by omega, ⟨rfl⟩, rfl, rfl, ⟨by decide⟩, by omega, ⟨by simpa [groupsS] using HG.out⟩, ⟨HR.out⟩, ⟨KeepBut.refl _ _ _⟩⟩
  case round =>
    obtain ⟨i, n, s, hi, hs, rfl, rfl, hn7, hxi, hG, hR, hK⟩ := hrel
    obtain ⟨d0, d1, e0, e1⟩ := hR.out.cells
    by_cases hi5 : i = 5
    · have hs35 : s = 35 := by rw [hs.out, hi5]
      have hnone : G = none := by rw [← hG.out, hi5]; rfl
      subst hs35
      subst hnone
      go_wp2
      exact ⟨rfl, gives_none hR.out hK.out⟩
    · have hs28 : s ≤ 28 := by have := hs.out; omega
      by_cases he : x + i = b.length
      · have hnone : G = none := by
          rw [← hG.out, List.drop_of_length_le (by omega)]
          obtain ⟨r, hr⟩ : ∃ r, 5 - i = r + 1 := ⟨4 - i, by omega⟩
          rw [hr]; rfl
        subst hnone
        have he1 : decide ((x : Int) + (i : Int) = (b.length : Int)) = true := decide_eq_true (by omega)
        have he2 : ((x + i : Nat) : Int) = (b.length : Int) := by omega
        go_wp2
        go_quiet (fail)
        go_wp2
        exact ⟨rfl, gives_none (hR.out.drewN _) (keep_drewN hK.out _)⟩
      · have hlt : x + i < b.length := by omega
        obtain ⟨ad, hA, hcell⟩ := hR.out.byte (x + i) hlt
        subst hA
        have hby := HO.out _ (List.getElem_mem hlt)
        have hgd : b.getD (x + i) 0 = b[x + i] := by simp [List.getD_eq_getElem?_getD, List.getElem?_eq_getElem hlt]
        obtain ⟨y, hy, hy1⟩ : ∃ y : Nat, b[x + i] = (y : Int) ∧ y < 256 := ⟨(b[x + i]).toNat, by omega, by omega⟩
        rw [hgd, hy] at hcell
        have hG2 : Aside0 (gr most (5 - i) i (n : Int) ((y : Int) :: b.drop (x + i + 1)) = G) := ⟨by rw [← hy, ← List.drop_eq_getElem_cons hlt]; exact hG.out⟩
        clear hby hgd hy
        have he1 : (((x + i : Nat) : Int) == (b.length : Int)) = false := by simp; omega
        have hi1 : (((x + i : Nat) : Int)) < (b.length : Int) := by omega
        have hi0 : (0 : Int) ≤ ((x + i : Nat) : Int) := by omega
        obtain ⟨p, hp⟩ : ∃ p, x + i = p := ⟨_, rfl⟩
        rw [hp] at he1 hi1 hi0 hcell d1 hlt
        have HP := Aside0.mk hp
        obtain ⟨q, hq⟩ : ∃ q, y % 128 = q := ⟨_, rfl⟩
        have hq1 : q < 128 := by omega
        have hA := and7 y hy1
        have hS := shl7 q s hq1 hs28
        have hO := or7 n q s hn7.out hq1 hs28
        obtain ⟨m, hm2⟩ : ∃ m, n + q * 2 ^ s = m := ⟨_, rfl⟩
        obtain ⟨tt, htt⟩ : ∃ t, q * 2 ^ s = t := ⟨_, rfl⟩
        rw [hq] at hA
        rw [htt] at hS hO hm2
        rw [hm2] at hO
        have hmb : m < 2 ^ (s + 7) := m_bound hn7.out hq1 (by rw [htt]; exact hm2)
        have HG3 : Aside0 ((if 128 ≤ y then gr most (4 - i) (i + 1) (m : Int) (b.drop (x + i + 1)) else if most < (m : Int) ∨ (y = 0 ∧ 0 < i) then none else some ((m : Int), i + 1)) = G) := ⟨by
          rw [← hG2.out, show 5 - i = (4 - i) + 1 by omega]
          exact (gr_cons most (4 - i) i n y m _ (by rw [hq, ← hs.out, htt, hm2])).symm⟩
        have hmm : m < 34359738368 := m_small hmb hs28
        have HMB := Aside0.mk hmb
        clear hG2 hmb hm2 htt hq
        have hRS : ∀ k, RS w0 g (some ad) c b (x + (i + 1)) (((wr.drewN k).setCell ⟨g, 1, none⟩ (.int .i64 ((p : Int) + 1)))) := fun k => by
          have h := (hR.out.drewN k).set (p + 1)
          rw [show x + (i + 1) = p + 1 by have := HP.out; omega]
          exact h
        have HRS := Aside0.mk hRS
        clear hRS
        by_cases h128 : 128 ≤ y
        · rw [if_pos h128] at HG3
          go_wp2
          go_quiet (fail)
          go_wp2
          go_quiet (fail)
          go_wp2
          exact ⟨⟨i + 1, m, s + 7, by omega, ⟨by have := hs.out; omega⟩, by go_num, rfl, HMB, by have := HP.out; omega, ⟨by rw [show 5 - (i + 1) = 4 - i by omega, show x + (i + 1) = x + i + 1 by omega]; exact HG3.out⟩, ⟨HRS.out _⟩, ⟨(keep_drewN hK.out _).set_ _ _⟩⟩, by simp [intOf]; omega⟩
        · rw [if_neg h128] at HG3
          by_cases hbad : most < (m : Int) ∨ (y = 0 ∧ 0 < i)
          · rw [if_pos hbad] at HG3
            obtain ⟨rfl⟩ := HG3
            by_cases hb1 : most < (m : Int)
            · clear hbad
              go_wp2
              go_quiet (fail)
              go_wp2
              go_quiet (fail)
              go_wp2
              exact ⟨rfl, gives_none ((hR.out.drewN _).set (p + 1)) ((keep_drewN hK.out _).set_ _ _)⟩
            · have hz : ((y : Int) == 0) = true := by simp; omega
              have hs0 : 0 < s := by have := hs.out; omega
              clear hbad
              go_wp2
              go_quiet (fail)
              go_wp2
              go_quiet (fail)
              go_wp2
              exact ⟨rfl, gives_none ((hR.out.drewN _).set (p + 1)) ((keep_drewN hK.out _).set_ _ _)⟩
          · rw [if_neg hbad] at HG3
            obtain ⟨rfl⟩ := HG3
            have hb1 : ¬ most < (m : Int) := fun h => hbad (.inl h)
            by_cases hy0 : y = 0
            · have hz : ((y : Int) == 0) = true := by simp; omega
              have hs0 : ¬ 0 < s := by have := hs.out; intro h; exact hbad (.inr ⟨hy0, by omega⟩)
              clear hbad hy0
              go_wp2
              go_quiet (fail)
              go_wp2
              go_quiet (fail)
              go_wp2
              go_ret
              exact gives_some (HRS.out _) ((keep_drewN hK.out _).set_ _ _)
            · have hz : ((y : Int) == 0) = false := by simp; omega
              clear hbad hy0
              go_wp2
              go_quiet (fail)
              go_wp2
              go_quiet (fail)
              go_wp2
              go_ret
              exact gives_some (HRS.out _) ((keep_drewN hK.out _).set_ _ _)
end Go.Proofs.Ytoheamfnddfgkaa.St
