/- store: the reader's take. -/
import Derived.Test.YtoheamfnddfgkaaStA
namespace Go.Proofs.Ytoheamfnddfgkaa.St
open Go.RowKit Go.Proofs.YtoheamfnddfgkaaW.PrintWords Go.Proofs.YtoheamfnddfgkaaW.PrintLast Go.Proofs.YtoheamfnddfgkaaW.PrintMore
set_option linter.unusedVariables false
set_option linter.unusedSimpArgs false

/-- What comes of taking so many bytes. -/
def Takes (w0 : World) (g : Nat) (A : Option Addr) (c : Nat) (b : List Int) (x N : Nat) (from_ : Int) (w : World) (e : Ending) (w' : World) : Prop :=
  if b.length < x + N then e = .panicked [{ v := .iface 79 (.int .i64 from_), recovered := false }] ∧ (∃ y, RS w0 g A c b y w') ∧ Aside0 (KeepBut w w' g none)
  else ∃ A', e = .returned (.slice A' N N) ∧ Aside0 (∀ W, KeepBut w' W g none → u8.C W A' N ((b.drop x).take N)) ∧ Aside0 (RS w0 g A c b (x + N) w') ∧ Aside0 (KeepBut w w' g none)

set_option maxRecDepth 100000 in
set_option maxHeartbeats 2000000 in
theorem take_c (w0 : World) (g : Nat) (A : Option Addr) (c : Nat) (b : List Int) (x N : Nat) (w : World) (from_ : Int) (hr : RS w0 g A c b x w) (hx : x ≤ b.length) (hn : b.length ≤ 4611686018427387904) (hc : b.length ≤ c) (hN : N ≤ 4611686018427387904) :
    Calls Try.prog 69 #[.pointer (some ⟨g, 0, none⟩), .int .i64 (N : Int), .int .i64 from_] w (Takes w0 g A c b x N from_ w) := by
  have HR := Aside0.mk hr
  have hu := Try.underlying70
  have hus := Try.underlying25
  obtain ⟨c0, c1, f0, f1⟩ := hr.cells
  clear hr
  by_cases hlt : b.length < x + N
  · have h1 : decide ((b.length : Int) - (x : Int) < (N : Int)) = true := decide_eq_true (by omega)
    have h2 : (b.length : Int) - (x : Int) < (N : Int) := by omega
    have HP : Aside0 (∀ k, Takes w0 g A c b x N from_ w (.panicked [{ v := .iface 79 (.int .i64 from_), recovered := false }]) (w.drewN k)) := ⟨fun k => by unfold Takes; rw [if_pos hlt]; exact ⟨rfl, ⟨_, HR.out.drewN k⟩, ⟨keep_drewN (KeepBut.refl _ _ _) k⟩⟩⟩
    go_enter Try.func69, Try.ntmps69
    go_wp2
    go_quiet (fail)
    go_wp2
    exact ⟨rfl, HP.out _⟩
  · have h1 : decide ((b.length : Int) - (x : Int) < (N : Int)) = false := decide_eq_false (by omega)
    have h2 : ¬ (b.length : Int) - (x : Int) < (N : Int) := by omega
    have h3 : x + N ≤ b.length := by omega
    have h4 : (x : Int) + (N : Int) ≤ (c : Int) := by omega
    have hdr : ∀ N', N' ≤ b.length - x → ((b.drop x).take N').length = N' := fun N' h => by rw [List.length_take, List.length_drop]; omega
    have HP : Aside0 (∀ A' k, (∀ W, KeepBut w W g none → u8.C W A' N ((b.drop x).take N)) → Takes w0 g A c b x N from_ w (.returned (.slice A' N N)) ((w.drewN k).setCell ⟨g, 1, none⟩ (.int .i64 ((x : Int) + (N : Int))))) := ⟨fun A' k hC => by
      unfold Takes
      rw [if_neg hlt]
      have hk : KeepBut w ((w.drewN k).setCell ⟨g, 1, none⟩ (.int .i64 ((x : Int) + (N : Int)))) g none := (keep_drewN (KeepBut.refl _ _ _) k).set_ _ _
      exact ⟨A', rfl, ⟨fun W hW => hC W (hk.trans hW (.inl rfl))⟩, ⟨(HR.out.drewN k).set (x + N)⟩, ⟨hk⟩⟩⟩
    by_cases hN0 : N = 0
    · have HC : Aside0 (∀ W, KeepBut w W g none → u8.C W A N ((b.drop x).take N)) := ⟨fun W hW => by
        subst hN0
        have h := Kd.C_take (m := 0) (HR.out.rds W hW) (Nat.zero_le _)
        simpa using h⟩
      clear hdr
      subst hN0
      go_enter Try.func69, Try.ntmps69
      go_wp2
      go_quiet (fail)
      go_wp2
      go_quiet (fail)
      go_wp2
      go_ret
      exact HP.out _ _ HC.out
    · have hN1 : 0 < N := by omega
      have HC : Aside0 (∀ W, KeepBut w W g none → u8.C W (A.map (fun z => z.add x)) N ((b.drop x).take N)) := ⟨fun W hW => by
        have h := Kd.C_drop (c := x + N) (m := x) (Kd.C_take (m := x + N) (HR.out.rds W hW) h3) (by rw [List.length_take]; omega) (by rw [List.length_take]; omega)
        rw [if_neg (by omega), List.drop_take, show x + N - x = N by omega, hdr N (by omega), show x * u8.sz = x from Nat.mul_one x] at h
        exact h⟩
      have HP2 : Aside0 (∀ k, Takes w0 g A c b x N from_ w (.returned (.slice (A.map (fun z => z.add x)) (x + N - x) (x + N - x))) ((w.drewN k).setCell ⟨g, 1, none⟩ (.int .i64 ((x : Int) + (N : Int))))) := ⟨fun k => by
        rw [show x + N - x = N by omega]
        exact HP.out _ k HC.out⟩
      clear hdr hN0
      go_enter Try.func69, Try.ntmps69
      go_wp2
      go_quiet (fail)
      go_wp2
      go_quiet (fail)
      go_wp2
      go_ret
      exact HP2.out _
end Go.Proofs.Ytoheamfnddfgkaa.St
