/- PolyBack: the walk. -/
import Derived.Test.YtplignahjhenjaaPoAk
import Derived.Test.YtplignahjhenjaaPoBp
namespace Go.Proofs.Ytplignahjhenjaa.Lb
open Go.RowKit Go.Proofs.YtplignahjhenjaaW.PrintWords Go.Proofs.YtplignahjhenjaaW.PrintLast Go.Proofs.YtplignahjhenjaaW.PrintMore
open Go.Proofs.Ytplignahjhenjaa.Po (trm trm_of_tight tight_trm trm_len tight_iff ev)
set_option linter.unusedVariables false
set_option linter.unusedSimpArgs false

/-- A list of the call's own, all of it in blocks ahead of N. -/
def TS (w : World) (base N : Nat) (v : Value) (zs : List Int) : Prop := Kd.R PB.k25 25 w base (fun k => k < N) v (zs.map sv)
theorem TS.below {w w' : World} {base N : Nat} {v : Value} {zs : List Int} (h : TS w base N v zs) (hb : Below w.heap.size w w') : TS w' base N v zs := Kd.R_below h hb
theorem TS.pl {w : World} {base N n : Nat} {A : Option Addr} {c : Nat} {zs : List Int} (h : TS w base N (.slice A n c) zs) (hs : zs.length ≤ 1000) : n = zs.length ∧ n ≤ c ∧ PL w A zs := by
  have h2 := Kd.R_reads' h
  rw [List.length_map] at h2
  exact ⟨h2.1, h2.2.1, PL_of_C h2.2.2 (by omega)⟩
/-- The same, any blocks. -/
def TR (w : World) (base : Nat) (v : Value) (zs : List Int) : Prop := Kd.R PB.k25 25 w base (fun _ => True) v (zs.map sv)
theorem TR.below {w w' : World} {base : Nat} {v : Value} {zs : List Int} (h : TR w base v zs) (hb : Below w.heap.size w w') : TR w' base v zs := Kd.R_below h hb
theorem TR.ts {w : World} {base : Nat} {v : Value} {zs : List Int} (h : TR w base v zs) : TS w base w.heap.size v zs := Kd.R_mono (Kd.R_bound h) (fun k hk => hk.2.2.1)
theorem TR.pl {w : World} {base n : Nat} {A : Option Addr} {c : Nat} {zs : List Int} (h : TR w base (.slice A n c) zs) (hs : zs.length ≤ 1000) : n = zs.length ∧ n ≤ c ∧ PL w A zs := by
  have h2 := Kd.R_reads' h
  rw [List.length_map] at h2
  exact ⟨h2.1, h2.2.1, PL_of_C h2.2.2 (by omega)⟩
/-- tame, told so. -/
theorem tame_t (A : Option Addr) (n c : Nat) (l : List PB.S25) (hn : l.length = n) (hc : n ≤ c) (hl : ∀ c ∈ l, okc c) (hs : n ≤ 9223372036854775806) (w : World) (r : Kd.C PB.k25 w A n l) :
    Calls Try.prog 33 #[.slice A n c] w fun e w' => ∃ zs A' c', e = .returned (.slice A' zs.length c') ∧ Aside0 (Po.tight zs) ∧ zs.length ≤ 12 ∧ Aside0 (∀ z ∈ zs, lim 8 z) ∧ Aside0 (TR w' w.heap.size (.slice A' zs.length c') zs) ∧ Aside0 (Below w.heap.size w w') :=
  (tame_z A n c l hn hc hl hs w r).mono fun e w' ⟨zs, v, he, t, l12, l8, hS, hB⟩ => by
    obtain ⟨A', c', rfl⟩ := Kd.S_slice hS.out
    have hR := Kd.S_R hS.out
    rw [List.length_map] at he hR
    exact ⟨zs, A', c', he, ⟨t⟩, l12, ⟨l8⟩, ⟨hR⟩, hB⟩
theorem add_all (p q : List Int) (hp : ∀ z ∈ p, lim 4095 z) (hq : ∀ z ∈ q, lim 4095 z) (hsp : p.length ≤ 4096) (hsq : q.length ≤ 4096) (tp : Po.tight p) (tq : Po.tight q) (A1 A2 : Option Addr) (c1 c2 : Nat) (w : World) (r1 : PL w A1 p) (r2 : PL w A2 q) :
    Calls Try.prog 27 #[.slice A1 p.length c1, .slice A2 q.length c2] w (OutLE w (trm (Po.add p q)) 0) := by
  rcases Nat.lt_or_ge p.length q.length with h | h
  · exact add_pz' p q hp hq hsp hsq tp tq h A1 A2 c1 c2 w r1 r2
  · exact add_pz p q hp hq hsp hsq tp tq h A1 A2 c1 c2 w r1 r2
theorem min_r {p q : List Int} {k : Nat} (hq : ∀ z ∈ q, lim k z) (hk : k < 24) : ∀ x ∈ p, ∀ y ∈ q, min (lm x).length (lm y).length < 24 := fun x hx y hy => by
  have := lm_len (hq y hy)
  omega
theorem min_l {p q : List Int} {k : Nat} (hp : ∀ z ∈ p, lim k z) (hk : k < 24) : ∀ x ∈ p, ∀ y ∈ q, min (lm x).length (lm y).length < 24 := fun x hx y hy => by
  have := lm_len (hp x hx)
  omega
theorem lims {k j : Nat} {l : List Int} (h : ∀ z ∈ l, lim k z) (hk : k ≤ j) : ∀ z ∈ l, lim j z := fun z hz => lim_le (h z hz) hk
end Go.Proofs.Ytplignahjhenjaa.Lb
