/- poly: lists told in one word (FL); the functions over them; identities. -/
import Derived.Test.YtplignahjhenjaaPoBk
namespace Go.Proofs.Ytplignahjhenjaa.Lb
open Go.RowKit Go.Proofs.YtplignahjhenjaaW.PrintWords Go.Proofs.YtplignahjhenjaaW.PrintLast Go.Proofs.YtplignahjhenjaaW.PrintMore
open Go.Proofs.Ytplignahjhenjaa.Po (trm trm_of_tight tight_trm trm_len tight_iff ev ident_tight)
set_option linter.unusedVariables false
set_option linter.unusedSimpArgs false

/-- A right list that is read: numbers below k limbs, at most n of them. -/
structure FL (w : World) (A : Option Addr) (c : Nat) (zs : List Int) (k n : Nat) : Prop where
  cap : zs.length ≤ c
  tg : Po.tight zs
  len : zs.length ≤ n
  lm : ∀ z ∈ zs, lim k z
  pl : PL w A zs
theorem FL.below {w w' : World} {A : Option Addr} {c : Nat} {zs : List Int} {k n : Nat} (h : FL w A c zs k n) (hb : Below w.heap.size w w') : FL w' A c zs k n := ⟨h.cap, h.tg, h.len, h.lm, h.pl.below hb⟩
/-- A call that answers such a list and an error 0. -/
def OutF (w : World) (zs : List Int) (k n : Nat) (e : Ending) (w' : World) : Prop := ∃ A c, e = .returned (.tuple #[.slice A zs.length c, .int .i64 0]) ∧ Aside0 (FL w' A c zs k n) ∧ Aside0 (Below w.heap.size w w')
theorem outF {w : World} {zs : List Int} {k n : Nat} (ht : Po.tight zs) (hn : zs.length ≤ n) (hl : ∀ z ∈ zs, lim k z) {e : Ending} {w' : World} (h : OutLE w zs 0 e w') : OutF w zs k n e w' := by
  obtain ⟨A, c, he, hc, hp, hb⟩ := h
  exact ⟨A, c, he, ⟨⟨hc, ht, hn, hl, hp.out⟩⟩, hb⟩
def tm (p q : List Int) : List Int := trm (Po.mul p q)
def sf (z : Int) (p : List Int) : List Int := trm (Po.move z (p.length - 1) p)
def ad (p q : List Int) : List Int := trm (Po.add p q)
theorem times_f {w : World} {A1 A2 : Option Addr} {c1 c2 : Nat} {p q : List Int} {a b n m : Nat} (h1 : FL w A1 c1 p a n) (h2 : FL w A2 c2 q b m) (hab : a < 24 ∨ b < 24) (ha : a ≤ 1000) (hb : b ≤ 1000) (hn : n + m ≤ 4000) :
    Calls Try.prog 25 #[.slice A1 p.length c1, .slice A2 q.length c2] w (OutF w (tm p q) (a + b + 1) (n + m)) :=
  (times_pz p q (lims h1.lm ha) (lims h2.lm hb) (by
    rcases hab with h | h
    · exact min_l h1.lm h
    · exact min_r h2.lm h) (by have := h1.len; omega) (by have := h2.len; omega) (by have := h1.len; have := h2.len; omega) h1.tg h2.tg A1 A2 c1 c2 w h1.pl h2.pl).mono fun e w' h => outF (tight_trm _) (by have := mul_len p q; have := h1.len; have := h2.len; omega) (mul_lim h1.lm h2.lm (by have := h1.len; have := h2.len; omega)) h
theorem add_lim {p q : List Int} {a b : Nat} (hp : ∀ x ∈ p, lim a x) (hq : ∀ x ∈ q, lim b x) : ∀ z ∈ ad p q, lim (max a b + 1) z := mem_lim fun j => by
  unfold ad
  rw [trm_getD, Po.cf_add]
  exact lim_add (lim_le (lim_getD hp j) (by omega)) (lim_le (lim_getD hq j) (by omega))
theorem add_f {w : World} {A1 A2 : Option Addr} {c1 c2 : Nat} {p q : List Int} {a b n m : Nat} (h1 : FL w A1 c1 p a n) (h2 : FL w A2 c2 q b m) (ha : a ≤ 4000) (hb : b ≤ 4000) (hn : n ≤ 4000) (hm : m ≤ 4000) :
    Calls Try.prog 27 #[.slice A1 p.length c1, .slice A2 q.length c2] w (OutF w (ad p q) (max a b + 1) (max n m)) :=
  (add_all p q (lims h1.lm (by omega)) (lims h2.lm (by omega)) (by have := h1.len; omega) (by have := h2.len; omega) h1.tg h2.tg A1 A2 c1 c2 w h1.pl h2.pl).mono fun e w' h => outF (tight_trm _) (by
    have := trm_len (Po.add p q); rw [add_len] at this; have := h1.len; have := h2.len; omega) (add_lim h1.lm h2.lm) h
theorem sf_lim {p : List Int} {z : Int} {a b : Nat} (hz : lim b z) (hp : ∀ x ∈ p, lim a x) (hn : p.length ≤ 24) : ∀ x ∈ sf z p, lim (a + b * 24 + 10) x := mem_lim fun j => by
  unfold sf
  rw [trm_getD]
  rcases Nat.eq_zero_or_pos p.length with h | h
  · obtain rfl := List.eq_nil_of_length_eq_zero h
    exact lim_zero _
  · exact shift_lim hz hp hn (p.length - 1) 0 (by omega) (by omega) j
theorem sh_f {w : World} {A1 A2 : Option Addr} {c1 c2 : Nat} {p : List Int} {z : Int} {a b n : Nat} (h1 : FL w A1 c1 p a n) (hz : lim b z) (h2 : RV w A2 c2 z) (hn : n ≤ 24) (hb : b ≤ 23) (hab : a + b * 24 + 10 ≤ 4000) :
    Calls Try.prog 15 #[.slice A1 p.length c1, .agg #[.bool (sg z), .slice A2 (Lb.lm z).length c2]] w (OutF w (sf z p) (a + b * 24 + 10) n) :=
  (shift_pz p z (lims h1.lm (by omega)) (by have := h1.len; omega) h1.tg (lim_le hz hb) (fun i m j hi hm => lim_le (shift_lim hz h1.lm (by have := h1.len; omega) i m hi hm j) hab) A1 A2 c1 c2 w h1.pl h2).mono fun e w' h => outF (tight_trm _) (by
    have := trm_len (Po.move z (p.length - 1) p); rw [move_len] at this; have := h1.len; omega) (sf_lim hz h1.lm (by have := h1.len; omega)) h
theorem same_f {w : World} {A1 A2 : Option Addr} {c1 c2 : Nat} {p q : List Int} {a b n m : Nat} (he : q = p) (h1 : FL w A1 c1 p a n) (h2 : FL w A2 c2 q b m) (ha : a ≤ 4096) (hn : n ≤ 10000) :
    Calls Try.prog 21 #[.slice A1 p.length c1, .slice A2 q.length c2] w (OutP w (.bool true)) := by
  subst he
  exact same_z q (lims h1.lm ha) (by have := h1.len; omega) A1 A2 q.length q.length c1 c2 rfl rfl h1.cap h2.cap w h1.pl h2.pl
/-! ### identities -/
theorem tm_ev (p q : List Int) (x : Int) : ev (tm p q) x = ev p x * ev q x := by unfold tm; rw [Po.ev_trm, Po.ev_mul]
theorem ad_ev (p q : List Int) (x : Int) : ev (ad p q) x = ev p x + ev q x := by unfold ad; rw [Po.ev_trm, Po.ev_add]
theorem sf_ev (z : Int) (p : List Int) (x : Int) : ev (sf z p) x = ev p (x + z) := by unfold sf; rw [Po.ev_trm, move_ev1 z x _ p (by omega)]
theorem tm_comm (p q : List Int) : tm q p = tm p q := ident_tight (tight_trm _) (tight_trm _) fun x => by
  show ev (tm q p) x = ev (tm p q) x
  rw [tm_ev, tm_ev, Int.mul_comm]
theorem tm_assoc (p q r : List Int) : tm p (tm q r) = tm (tm p q) r := ident_tight (tight_trm _) (tight_trm _) fun x => by
  show ev (tm p (tm q r)) x = ev (tm (tm p q) r) x
  rw [tm_ev, tm_ev, tm_ev, tm_ev, Int.mul_assoc]
theorem ad_comm (p q : List Int) : ad q p = ad p q := by unfold ad; rw [add_comm_p]
theorem tm_ad (p q r : List Int) : ad (tm p q) (tm p r) = tm p (ad q r) := ident_tight (tight_trm _) (tight_trm _) fun x => by
  show ev (ad (tm p q) (tm p r)) x = ev (tm p (ad q r)) x
  rw [ad_ev, tm_ev, tm_ev, tm_ev, ad_ev, Int.mul_add]
theorem sf_back {p : List Int} (hp : Po.tight p) (z : Int) : sf (-z) (sf z p) = p := ident_tight (tight_trm _) hp fun x => by
  show ev (sf (-z) (sf z p)) x = ev p x
  rw [sf_ev, sf_ev]
  congr 1
  omega
theorem sf_two (p : List Int) (z : Int) : sf (z + 2) p = sf 2 (sf z p) := ident_tight (tight_trm _) (tight_trm _) fun x => by
  show ev (sf (z + 2) p) x = ev (sf 2 (sf z p)) x
  rw [sf_ev, sf_ev, sf_ev]
  congr 1
  omega
end Go.Proofs.Ytplignahjhenjaa.Lb
