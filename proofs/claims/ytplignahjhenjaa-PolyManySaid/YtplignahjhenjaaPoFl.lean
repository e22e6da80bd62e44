/- poly: lists told in one word (FL); the functions over them; identities. -/
import Derived.Test.YtplignahjhenjaaPoBk
namespace Go.Proofs.Ytplignahjhenjaa.Lb
open Go.RowKit Go.Proofs.YtplignahjhenjaaW.PrintWords Go.Proofs.YtplignahjhenjaaW.PrintLast Go.Proofs.YtplignahjhenjaaW.PrintMore
open Go.Proofs.Ytplignahjhenjaa.Po (trm trm_of_tight tight_trm trm_len tight_iff ev ident_tight)
set_option linter.unusedVariables false
set_option linter.unusedSimpArgs false

/-- A right list that is read: numbers below k limbs, at most n of them. -/
structure FL (w : World) (A : Option Addr) (c : Nat) (zs : List Int) (k n : Nat) : Prop where
  cap : zs.length ≤ c
  tg : Po.tight zs
  len : zs.length ≤ n
  lm : ∀ z ∈ zs, lim k z
  pl : PL w A zs
theorem FL.below {w w' : World} {A : Option Addr} {c : Nat} {zs : List Int} {k n : Nat} (h : FL w A c zs k n) (hb : Below w.heap.size w w') : FL w' A c zs k n := ⟨h.cap, h.tg, h.len, h.lm, h.pl.below hb⟩
def ad (p q : List Int) : List Int := trm (Po.add p q)
/-! ### identities -/
end Go.Proofs.Ytplignahjhenjaa.Lb
