/- store: StoreNumbers: contracts told for the walk. -/
import Derived.Test.YtoheamfnddfgkaaStNf
import Derived.Test.YtoheamfnddfgkaaLbGr
import Derived.Lib.Hide
namespace Go.Proofs.Ytoheamfnddfgkaa.St
open Go.RowKit Go.Proofs.YtoheamfnddfgkaaW.PrintWords Go.Proofs.YtoheamfnddfgkaaW.PrintLast Go.Proofs.YtoheamfnddfgkaaW.PrintMore Go.Proofs.Ytoheamfnddfgkaa.PB
set_option linter.unusedVariables false
set_option linter.unusedSimpArgs false

abbrev u8C := @Kd.C Int (Kd.int .u8)
abbrev u64C := @Kd.C Int (Kd.int .u64)
abbrev i64C := @Kd.C Int (Kd.int .i64)
def OutB (w : World) (r1 : List Int) (r2 : Int) (e : Ending) (w' : World) : Prop := ∃ A c, e = .returned (.tuple #[.slice A r1.length c, .int .i64 r2]) ∧ Aside0 (r1.length ≤ c ∧ u8C w' A r1.length r1) ∧ Aside0 (Below w.heap.size w w')
def OutG (w : World) (r1 : Bool) (r2 : List Int) (r3 r4 : Int) (e : Ending) (w' : World) : Prop := ∃ A c, e = .returned (.tuple #[.agg #[.bool r1, .slice A r2.length c], .int .i64 r3, .int .i64 r4]) ∧ Aside0 (r2.length ≤ c ∧ u64C w' A r2.length r2) ∧ Aside0 (Below w.heap.size w w')
def OutR (w : World) (r1 : List Int) (e : Ending) (w' : World) : Prop := ∃ A c, e = .returned (.slice A r1.length c) ∧ Aside0 (r1.length ≤ c ∧ u8C w' A r1.length r1) ∧ Aside0 (Below w.heap.size w w')
def OutV (w : World) (v : Value) (e : Ending) (w' : World) : Prop := e = .returned v ∧ Aside0 (Below w.heap.size w w')
theorem put_t (s : Bool) (A : Option Addr) (c : Nat) (l r1 : List Int) (r2 : Int) (hr : putS s l = (r1, r2)) (hc : l.length ≤ c) (ol : okL64 l) (hm : l.length ≤ 9223372036854775807) (w : World) (h : u64C w A l.length l) :
  Calls Try.prog 10 #[.agg #[.bool s, .slice A l.length c]] w (OutB w r1 r2) :=
 (store_Put.calls 41000 s A c l r1 r2 w h hc ((put_f s l ol hm _ (Nat.le_refl _)).trans (congrArg some hr))).mono fun e w' ⟨v, he, hR, hb⟩ => by
  obtain ⟨A', c', rfl, h1, h2⟩ := Kd.R_reads hR
  exact ⟨A', c', he, ⟨h1, h2⟩, ⟨hb⟩⟩
theorem get_t (A : Option Addr) (c : Nat) (l : List Int) (r1 : Bool) (r2 : List Int) (r3 r4 : Int) (hr : getS l = (r1, r2, r3, r4)) (hc : l.length ≤ c) (ol : okB l) (hm : l.length ≤ 4611686018427387904) (w : World) (h : u8C w A l.length l) :
  Calls Try.prog 12 #[.slice A l.length c] w (OutG w r1 r2 r3 r4) :=
 (store_Get.calls A c l r1 r2 r3 r4 w h hc ((get_f l ol hm).trans (congrArg some hr))).mono fun e w' ⟨v, he, hR, hb⟩ => by
  obtain ⟨A', c', rfl, h1, h2⟩ := Kd.R_reads hR
  exact ⟨A', c', he, ⟨h1, h2⟩, ⟨hb⟩⟩
theorem tail_t (A B : Option Addr) (c d : Nat) (l m : List Int) (hc : l.length ≤ c) (hd : m.length ≤ d) (hl : l.length + m.length < 140737488355328) (w : World) (h : u8C w A l.length l) (h2 : u8C w B m.length m) :
  Calls Try.prog 34 #[.slice A l.length c, .slice B m.length d] w (OutR w (l ++ m)) :=
 (rosettelaw30_tail.calls A c l B d m (l ++ m) w h hc h2 hd (by
  unfold rosettelaw30_tail.f rosettekit_CopyBytes.f
  rw [if_pos (by simp; omega), Option.bind_some, List.nil_append, if_pos hl])).mono fun e w' ⟨v, he, hR, hb⟩ => by
  obtain ⟨A', c', rfl, h1, h2⟩ := Kd.R_reads hR
  exact ⟨A', c', he, ⟨h1, h2⟩, ⟨hb⟩⟩
theorem sameInt_t (s : Bool) (A B : Option Addr) (c d : Nat) (l : List Int) (n e0 : Int) (hc : l.length ≤ c) (hd : l.length ≤ d) (hm : l.length < 9223372036854775807) (w : World) (h : u64C w A l.length l) (h2 : u64C w B l.length l) :
  Calls Try.prog 15 #[.agg #[.bool s, .slice A l.length c], .int .i64 n, .int .i64 e0, .agg #[.bool s, .slice B l.length d], .int .i64 n, .int .i64 e0] w (OutV w (.bool true)) :=
 (rosettelaw30_sameInt.calls (l.length + 1) s A c l n e0 s B d l n e0 true w h hc h2 hd (sameInt_law s l n e0 hm _ (Nat.lt_succ_self _))).mono fun e w' h => ⟨h.1, ⟨h.2⟩⟩
theorem certs_t (A : Option Addr) (c : Nat) (L : List S61) (r1 : List Int) (r2 : Int) (hr : certsT L = (r1, r2)) (hc : L.length ≤ c) (oL : ∀ c ∈ L, okCert c) (hm : L.length ≤ 9223372036854775807) (w : World) (h : Kd.C k61 w A L.length L) :
  Calls Try.prog 20 #[.slice A L.length c] w (OutB w r1 r2) :=
 (store_Certs.calls 50000 A c L r1 r2 w h hc ((certs_f L oL hm _ (Nat.le_refl _)).trans (congrArg some hr))).mono fun e w' ⟨v, he, hR, hb⟩ => by
  obtain ⟨A', c', rfl, h1, h2⟩ := Kd.R_reads hR
  exact ⟨A', c', he, ⟨h1, h2⟩, ⟨hb⟩⟩
theorem awake_t (w : World) : Calls Try.prog 16 #[] w (OutV w (.bool true)) :=
 (rosettelaw30_awake.calls true w rfl).mono fun e w' h => ⟨h.1, ⟨h.2⟩⟩
/-! ### rows that were laid -/
theorem cell_of {W : World} {g t i : Nat} {cs : Array Value} {v : Value} (h : W.heap[g]? = some (.cells cs t (0, 0))) (hi : cs[i]? = some v) : W.cell? ⟨g, i, none⟩ = some v := by
 simp [World.cell?, h, hi]
theorem row_block {k : IntKind} {W : World} {g t n : Nat} {cs : Array Value} {l : List Int} (h : W.heap[g]? = some (.cells cs t (0, 0))) (hcs : cs = (nums k l).toArray) (hn : l.length = n) (hm : n ≤ 9223372036854775807) : (Kd.int k).C W (some ⟨g, 0, none⟩) n l := by
 subst hcs
 refine ⟨hn, hm, fun _ => ⟨_, rfl, fun j p hj => ⟨[.int k p], rfl, rfl, fun i u hu => ?_⟩⟩⟩
 have hl := (List.getElem?_eq_some_iff.1 hj)
 cases i with
 | succ i => simp at hu
 | zero =>
  simp at hu
  subst hu
  have e : (⟨g, 0, none⟩ : Addr).add (j * (Kd.int k).sz + 0) = ⟨g, j, none⟩ := by simp [Addr.add, Kd.int, Kd.scalar]; omega
  rw [e]
  refine cell_of h ?_
  simp [nums, hj]
theorem empty_row {α : Type} (d : Kd α) (w : World) (A : Option Addr) : d.C w A 0 [] := ⟨rfl, by simp, fun h => absurd h (Nat.lt_irrefl 0)⟩
theorem take_row {α : Type} {d : Kd α} {w : World} {A : Option Addr} {xs : List α} (h : d.C w A xs.length xs) (n : Nat) (hn : n ≤ xs.length) : d.C w A n (xs.take n) := by
 refine ⟨by rw [List.length_take]; omega, by have := h.2.1; omega, fun h0 => ?_⟩
 obtain ⟨ad, e, hc⟩ := h.2.2 (by omega)
 refine ⟨ad, e, fun j p hj => hc j p ?_⟩
 rw [List.getElem?_take] at hj
 split at hj
 ·exact hj
 ·cases hj
theorem k61_mk {w : World} {s0 s1 : Bool} {l0 l1 l2 l3 : List Int} {A0 A1 A2 A3 : Option Addr} {n0 n1 n2 n3 c0 c1 c2 c3 : Nat} (e0 : l0.length = n0) (e1 : l1.length = n1) (e2 : l2.length = n2) (e3 : l3.length = n3) (h0 : n0 ≤ c0) (h1 : n1 ≤ c1) (h2 : n2 ≤ c2) (h3 : n3 ≤ c3) (r0 : u64C w A0 n0 l0) (r1 : u64C w A1 n1 l1) (r2 : i64C w A2 n2 l2) (r3 : i64C w A3 n3 l3) :
  k61.K w ⟨⟨s0, l0⟩, ⟨s1, l1⟩, l2, l3⟩ [.bool s0, .slice A0 n0 c0, .bool s1, .slice A1 n1 c1, .slice A2 n2 c2, .slice A3 n3 c3] := by
 subst e0 e1 e2 e3
 exact ⟨[.bool s0, .slice A0 l0.length c0], [.bool s1, .slice A1 l1.length c1, .slice A2 l2.length c2, .slice A3 l3.length c3], rfl, ⟨[.bool s0], [.slice A0 l0.length c0], rfl, rfl, ⟨A0, c0, rfl, h0, r0⟩⟩, ⟨[.bool s1, .slice A1 l1.length c1], [.slice A2 l2.length c2, .slice A3 l3.length c3], rfl, ⟨[.bool s1], [.slice A1 l1.length c1], rfl, rfl, ⟨A1, c1, rfl, h1, r1⟩⟩, ⟨[.slice A2 l2.length c2], [.slice A3 l3.length c3], rfl, ⟨A2, c2, rfl, h2, r2⟩, ⟨A3, c3, rfl, h3, r3⟩⟩⟩⟩
theorem certs_block {W : World} {g t n : Nat} {cs : Array Value} {L : List S61} (h : W.heap[g]? = some (.cells cs t (0, 0))) (hn : L.length = n) (hm : n ≤ 9223372036854775807) (hc : ∀ j p, L[j]? = some p → ∃ c, c.length = 6 ∧ k61.K W p c ∧ ∀ i u, c[i]? = some u → cs[j * 6 + i]? = some u) : Kd.C k61 W (some ⟨g, 0, none⟩) n L := by
 refine ⟨hn, hm, fun _ => ⟨_, rfl, fun j p hj => ?_⟩⟩
 obtain ⟨c, h1, h2, h3⟩ := hc j p hj
 refine ⟨c, h1, h2, fun i u hu => ?_⟩
 have e6 : k61.sz = 6 := rfl
 have e : (⟨g, 0, none⟩ : Addr).add (j * k61.sz + i) = ⟨g, j * 6 + i, none⟩ := by rw [e6]; simp [Addr.add]; omega
 rw [e]
 exact cell_of h (h3 i u hu)
/-- One certificate, laid. -/
theorem cert_block {W : World} {g t : Nat} {cs : Array Value} {x : S61} (h : W.heap[g]? = some (.cells cs t (0, 0))) (hx : k61.K W x cs.toList) (h6 : cs.size = 6) : Kd.C k61 W (some ⟨g, 0, none⟩) 1 [x] := by
 refine certs_block h rfl (by omega) fun j p hj => ?_
 cases j with
 | succ j => simp at hj
 | zero =>
  simp at hj
  subst hj
  exact ⟨cs.toList, by simpa using h6, hx, fun i u hu => by simpa using hu⟩
end Go.Proofs.Ytoheamfnddfgkaa.St
