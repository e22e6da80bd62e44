/- store: what is known while certificates are read; plain laws of it. -/
import Derived.Test.YtoheamfnddfgkaaStK
import Derived.Test.YtoheamfnddfgkaaPBx0
namespace Go.Proofs.Ytoheamfnddfgkaa.St
open Go.RowKit Go.Proofs.YtoheamfnddfgkaaW.PrintWords Go.Proofs.YtoheamfnddfgkaaW.PrintLast Go.Proofs.YtoheamfnddfgkaaW.PrintMore
set_option linter.unusedVariables false
set_option linter.unusedSimpArgs false

theorem infoC : (Try.prog.info? 61).map (fun i => (i.zero, i.size, i.bytes)) = some (some (.agg #[(.bool false), (.slice none 0 0), (.bool false), (.slice none 0 0), (.slice none 0 0), (.slice none 0 0)]), 6, 112) := by kernel_rfl
def toS (c : CertT) : PB.S61 := ⟨⟨c.1.1, c.1.2⟩, ⟨c.2.1.1, c.2.1.2⟩, c.2.2.1, c.2.2.2⟩
theorem pairs_len : ∀ (m : Nat) (b : List Int) {r : List Int × List Int} {k : Nat}, pairsS m b = .ok (r, k) → k ≤ b.length
  | 0, b, r, k, h => by
    simp [pairsS] at h
    omega
  | m + 1, b, r, k, h => by
    unfold pairsS at h
    cases h1 : groupsS 2147483647 b with
    | none => simp [h1] at h
    | some p =>
      obtain ⟨f, k1⟩ := p
      cases h2 : groupsS 2147483647 (b.drop k1) with
      | none => simp [h1, h2] at h
      | some p =>
        obtain ⟨q, k2⟩ := p
        cases h3 : pairsS m (b.drop (k1 + k2)) with
        | error e => simp [h1, h2, h3] at h
        | ok p =>
          obtain ⟨⟨fs, ps⟩, k3⟩ := p
          simp [h1, h2, h3] at h
          have l1 := (gr_len h1).2.1
          have l2 := (gr_len h2).2.1
          have l3 := pairs_len m _ h3
          rw [List.length_drop] at l2 l3
          omega
theorem cert_len {b : List Int} {c : CertT} {k : Nat} (h : certS b = .ok (c, k)) : k ≤ b.length := by
  unfold certS at h
  cases h1 : numS b with
  | none => simp [h1] at h
  | some p =>
    obtain ⟨n, k1⟩ := p
    cases h2 : numS (b.drop k1) with
    | none => simp [h1, h2] at h
    | some p =>
      obtain ⟨n2, k2⟩ := p
      cases h3 : groupsS 64 (b.drop (k1 + k2)) with
      | none => simp [h1, h2, h3] at h
      | some p =>
        obtain ⟨q, k3⟩ := p
        cases h4 : pairsS q.toNat (b.drop (k1 + k2 + k3)) with
        | error e => simp [h1, h2, h3, h4] at h
        | ok p =>
          obtain ⟨⟨fs, ps⟩, k4⟩ := p
          simp [h1, h2, h3, h4] at h
          have l1 := (numS_len h1).2
          have l2 := (numS_len h2).2
          have l3 := (gr_len h3).2.1
          have l4 := pairs_len _ _ h4
          rw [List.length_drop] at l2 l3 l4
          omega
def addC (d : Nat) (xs : List CertT) : Except Nat (List CertT × Nat) → Except Nat (List CertT × Nat)
  | .error e => .error (d + e)
  | .ok (cs, k) => .ok (xs ++ cs, d + k)
theorem certs_start (r : Except Nat (List CertT × Nat)) : addC 0 [] r = r := by
  rcases r with e | ⟨cs, k⟩ <;> simp [addC]
theorem certs_zero (b : List Int) (d : Nat) (xs : List CertT) : addC d xs (certsS 0 b) = .ok (xs, d) := by simp [certsS, addC]
theorem certs_err {b : List Int} {e : Nat} (h : certS b = .error e) (m d : Nat) (xs : List CertT) : addC d xs (certsS (m + 1) b) = .error (d + e) := by simp [certsS, h, addC]
theorem certs_ok {b : List Int} {c : CertT} {k : Nat} (h : certS b = .ok (c, k)) (m d : Nat) (xs : List CertT) : addC d xs (certsS (m + 1) b) = addC (d + k) (xs ++ [c]) (certsS m (b.drop k)) := by
  simp only [certsS, h]
  rcases certsS m (b.drop k) with e | ⟨cs, k2⟩ <;> simp [addC] <;> omega
theorem read_e1 {b : List Int} (h : groupsS 64 b = none) : readS b = .error 0 := by simp [readS, h]
theorem read_e2 {b : List Int} {q : Int} {k e : Nat} (h : groupsS 64 b = some (q, k)) (h2 : certsS q.toNat (b.drop k) = .error e) : readS b = .error (k + e) := by simp [readS, h, h2]
theorem read_e3 {b : List Int} {q : Int} {k k2 : Nat} {cs : List CertT} (h : groupsS 64 b = some (q, k)) (h2 : certsS q.toNat (b.drop k) = .ok (cs, k2)) (h3 : k + k2 < b.length) : readS b = .error (k + k2) := by simp [readS, h, h2, h3]
theorem read_ok {b : List Int} {q : Int} {k k2 : Nat} {cs : List CertT} (h : groupsS 64 b = some (q, k)) (h2 : certsS q.toNat (b.drop k) = .ok (cs, k2)) (h3 : ¬ k + k2 < b.length) : readS b = .ok cs := by simp only [readS, h, h2]; rw [if_neg h3]

theorem keepRow2 {w W w1 : World} {g : Nat} {r row : Option Nat} (h : KeepBut w W g r) (hg : W.grownBy w1 row) (hr : ∀ k, row = some k → w.heap.size ≤ k) : KeepBut w w1 g r :=
  ⟨Nat.le_trans h.1 hg.size, fun i hi hgi hri => (hg.block i (Nat.lt_of_lt_of_le hi h.1) (fun e => by have := hr i e.symm; omega)).trans (h.2 i hi hgi hri)⟩
theorem RS.mk0 {w0 W : World} {g : Nat} {A : Option Addr} {c y : Nat} {b : List Int} (hC : u8.C w0 A b.length b) (hB : Below w0.heap.size w0 W) (hg : w0.heap.size ≤ g) (hb : W.heap[g]? = some (.cells #[.slice A b.length c, .int .i64 (y : Int)] 70 (0, 0))) : RS w0 g A c b y W :=
  ⟨hb, Kd.C_foot_came (Kd.heap_int _) hC hB hg, hB, hg⟩
/-- The blocks of a read: reader g, its pointer gr, the bytes' slice gs, the row's variable gl; all are elder than m. -/
structure RB (w0 : World) (g gr gs gl : Nat) (A : Option Addr) (b : List Int) (w : World) : Prop where
  hC : u8.C w0 A b.length b
  h0 : w0.heap.size ≤ g ∧ w0.heap.size ≤ gl ∧ w0.heap.size ≤ gr ∧ w0.heap.size ≤ gs
  h1 : g < w.heap.size ∧ gl < w.heap.size ∧ gr < w.heap.size ∧ gs < w.heap.size
  ne : gl ≠ g ∧ gr ≠ g ∧ gs ≠ g ∧ gr ≠ gl ∧ gs ≠ gl
structure RL (w0 w : World) (g gr gs gl : Nat) (A : Option Addr) (c : Nat) (b : List Int) (y : Nat) (u : Value) (xs : List CertT) (W : World) : Prop where
  rs : RS w0 g A c b y W
  br : W.heap[gr]? = some (.cells #[.pointer (some ⟨g, 0, none⟩)] 68 (0, 0))
  bs : W.heap[gs]? = some (.cells #[.slice A b.length c] 25 (0, 0))
  bl : W.heap[gl]? = some (.cells #[u] 35 (0, 0))
  sl : Kd.S PB.k61 61 W w0.heap.size (fun j => w.heap.size ≤ j) u (xs.map toS)
  kp : KeepBut w W g (some gl)
section
variable {w0 w W w7 w8 : World} {g gr gs gl : Nat} {A : Option Addr} {c : Nat} {b : List Int} {y y' : Nat} {u u' : Value} {xs xs' : List CertT}
theorem RL.drewN (h : RL w0 w g gr gs gl A c b y u xs W) (n : Nat) : RL w0 w g gr gs gl A c b y u xs (W.drewN n) :=
  ⟨h.rs.drewN n, h.br, h.bs, h.bl, Kd.S_drewN h.sl n, keep_drewN h.kp n⟩
theorem RL.call (hB : RB w0 g gr gs gl A b w) (h : RL w0 w g gr gs gl A c b y u xs W) (hk : KeepBut W w7 g none) (hr : RS w0 g A c b y' w7) : RL w0 w g gr gs gl A c b y' u xs w7 ∧ Kd.S PB.k61 61 w7 w0.heap.size (fun j => w.heap.size ≤ j ∧ j < W.heap.size) u (xs.map toS) := by
  obtain ⟨n1, n2, n3, n4, n5⟩ := hB.ne
  have i1 := hB.h1.1
  have hs : Kd.S PB.k61 61 w7 w0.heap.size (fun j => w.heap.size ≤ j ∧ j < W.heap.size) u (xs.map toS) := Kd.S_mono (Kd.S_keep (Kd.S_bound h.sl) hk (fun k hk => by have := hk.1; omega)) (fun k hk => ⟨hk.1, hk.2.2.1⟩)
  exact ⟨⟨hr, hk.blk h.br n2 (by simp), hk.blk h.bs n3 (by simp), hk.blk h.bl n1 (by simp), Kd.S_mono hs (fun k hk => hk.1), h.kp.trans (keepTo hk _) (.inl rfl)⟩, hs⟩
theorem RL.app (hB : RB w0 g gr gs gl A b w) (h : RL w0 w g gr gs gl A c b y u xs W) (hS : Kd.S PB.k61 61 w8 w0.heap.size (fun j => w.heap.size ≤ j) u' (xs'.map toS)) (hb : Below w0.heap.size w0 w8) (hg : W.grownBy w8 u.ownBlock) : RL w0 w g gr gs gl A c b y u' xs' (w8.setCell ⟨gl, 0, none⟩ u') := by
  obtain ⟨n1, n2, n3, n4, n5⟩ := hB.ne
  obtain ⟨i1, i2, i3, i4⟩ := hB.h1
  obtain ⟨j1, j2, j3, j4⟩ := hB.h0
  have hu : ∀ k, u.ownBlock = some k → w.heap.size ≤ k := by
    obtain ⟨f, hR⟩ := h.sl
    exact hR.1
  have hne : ∀ k, k < w.heap.size → some k ≠ u.ownBlock := fun k hk e => by have := hu k e.symm; omega
  have hB8 : Below w0.heap.size w0 (w8.setCell ⟨gl, 0, none⟩ u') := hb.setCell j2 _
  exact ⟨RS.mk0 hB.hC hB8 j1 (blk_far (blk_grown h.rs.blk hg (hne _ i1)) n1.symm _), blk_far (blk_grown h.br hg (hne _ i3)) n4 _, blk_far (blk_grown h.bs hg (hne _ i4)) n5 _, blk_put (blk_grown h.bl hg (hne _ i2)) 0 u' rfl, Kd.S_far hS (fun k hk => by show k ≠ gl; omega) _, keepSet (keepRow2 h.kp hg hu) _ _⟩
end
/-- A certificate's cells, as an element of a row. -/
theorem cert_mkM {w7 : World} {base : Nat} {v1 v2 u1 u2 : Value} {ct : CertT} {k1 k2 k3 k4 : Nat → Prop} (h1 : Kd.R (Kd.int .u64) 58 w7 base k1 v1 ct.1.2) (h2 : Kd.R (Kd.int .u64) 58 w7 base k2 v2 ct.2.1.2) (h3 : Kd.R i64 3 w7 base k3 u1 ct.2.2.1) (h4 : Kd.R i64 3 w7 base k4 u2 ct.2.2.2) :
    PB.k61.M w7 base (fun k => some k = v1.ownBlock ∨ some k = v2.ownBlock ∨ some k = u1.ownBlock ∨ some k = u2.ownBlock) (toS ct) [.bool ct.1.1, v1, .bool ct.2.1.1, v2, u1, u2] :=
  PB.k61_mkM _ _ _ (toS ct) (Kd.R_mono (Kd.R_tight rfl h1) (fun _ h => Or.inl h)) (Kd.R_mono (Kd.R_tight rfl h2) (fun _ h => Or.inr (Or.inl h))) (Kd.R_mono (Kd.R_tight rfl h3) (fun _ h => Or.inr (Or.inr (Or.inl h)))) (Kd.R_mono (Kd.R_tight rfl h4) (fun _ h => Or.inr (Or.inr (Or.inr h))))
end Go.Proofs.Ytoheamfnddfgkaa.St
