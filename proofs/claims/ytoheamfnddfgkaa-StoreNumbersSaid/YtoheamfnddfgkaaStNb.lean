/- store: StoreNumbers: blocks, kinds, the calls of the walk. -/
import Derived.Test.YtoheamfnddfgkaaStNa
namespace Go.Proofs.Ytoheamfnddfgkaa.St
open Go.RowKit Go.Proofs.YtoheamfnddfgkaaW.PrintWords Go.Proofs.YtoheamfnddfgkaaW.PrintLast Go.Proofs.YtoheamfnddfgkaaW.PrintMore Go.Proofs.Ytoheamfnddfgkaa.PB
set_option linter.unusedVariables false
set_option linter.unusedSimpArgs false

/-- What a block holds. -/
def Bk (w : World) (g : Nat) (cs : Array Value) (t : Nat) : Prop := w.heap[g]? = some (.cells cs t (0, 0))
section
variable {w w' : World} {g t : Nat} {cs : Array Value}
theorem Bk.lt (h : Bk w g cs t) : g < w.heap.size := (Array.getElem?_eq_some_iff.1 h).1
theorem Bk.below (h : Bk w g cs t) (hb : Below w.heap.size w w') : Bk w' g cs t := (hb.block g h.lt).trans h
theorem Bk.alloc (h : Bk w g cs t) (o : Obj) : Bk (w.alloc o) g cs t := (heap_alloc_old w o h.lt).trans h
theorem Bk.new (w : World) (cs : Array Value) (t : Nat) : Bk (w.alloc (.cells cs t)) w.heap.size cs t := heap_alloc_new w _
theorem Bk.set (h : Bk w g cs t) (i : Nat) (v : Value) : Bk (w.setCell ⟨g, i, none⟩ v) g (cs.setIfInBounds i v) t := blk_set h i v
theorem Bk.far (h : Bk w g cs t) {p : Addr} (hp : g ≠ p.block) (v : Value) : Bk (w.setCell p v) g cs t := (Below.heap_setCell w p v g hp).trans h
theorem Bk.cell (h : Bk w g cs t) {i : Nat} {v : Value} (hi : cs[i]? = some v) : w.cell? ⟨g, i, none⟩ = some v := cell_of h hi
theorem Bk.frozen (h : Bk w g cs t) (i : Nat) : w.frozen? ⟨g, i, none⟩ = false := by
 unfold Bk at h
 simp [World.frozen?, h]
end
/-! ### the tables of rows of bytes -/
def Eb (w : World) (g j : Nat) : Prop := ∃ A n c l, w.cell? ⟨g, j, none⟩ = some (.slice A n c) ∧ l.length = n ∧ n ≤ c ∧ u8C w A l.length l ∧ okB l ∧ l.length ≤ 100
theorem Eb.below {w w' : World} {g j : Nat} (h : Eb w g j) (hb : Below w.heap.size w w') : Eb w' g j := by
 obtain ⟨A, n, c, l, h0, h1, h2, h3, h4⟩ := h
 have hg : g < w.heap.size := by
  rcases Nat.lt_or_ge g w.heap.size with h | h
  ·exact h
  ·rw [World.cell?] at h0
   simp [Array.getElem?_eq_none h] at h0
 exact ⟨A, n, c, l, (hb.cell hg).trans h0, h1, h2, Kd.C_below h3 hb, h4⟩
inductive Kn where
 | S (l : List Int)
 | G (m : Nat)
def Kn.ok : Kn → World → Value → Prop
 | .S l, w, v => ∃ A n c, v = .slice A n c ∧ l.length = n ∧ n ≤ c ∧ u8C w A l.length l
 | .G m, w, v => ∃ g, v = .slice (some ⟨g, 0, none⟩) m m ∧ ∀ j, j < m → Eb w g j
theorem Kn.ok_below {k : Kn} {w w' : World} {v : Value} (h : k.ok w v) (hb : Below w.heap.size w w') : k.ok w' v := by
 cases k with
 | S l =>
  obtain ⟨A, n, c, e, h1, h2, h3⟩ := h
  exact ⟨A, n, c, e, h1, h2, Kd.C_below h3 hb⟩
 | G m =>
  obtain ⟨g, h1, h2⟩ := h
  exact ⟨g, h1, fun j hj => (h2 j hj).below hb⟩
theorem litB (w : World) (l : List Int) (cs : Array Value) (hcs : cs = (nums .u8 l).toArray) (hm : l.length ≤ 9223372036854775807) : u8C (w.alloc (.cells cs 5)) (some ⟨w.heap.size, 0, none⟩) l.length l := row_block (heap_alloc_new w _) hcs rfl hm
/-! ### calls -/
theorem puts_t (A : Option Addr) (n c : Nat) (l : List Int) (hn : l.length = n) (hc : n ≤ c) (ho : okB l) (hm : l.length ≤ 100) (w : World) (h : u8C w A l.length l) : Calls Try.prog 3 #[.agg #[.bool false, .slice none 0 0], .slice A n c] w (OutV w (.bool true)) := by
 subst hn
 exact (storePuts_c false none 0 [] (Nat.le_refl _) (fun x hx => (nomatch hx)) (by decide) A c l hc ho (by omega) w (empty_row _ _ _) h).mono fun e w' h => ⟨h.1, ⟨h.2⟩⟩
theorem reads_t (A : Option Addr) (n c : Nat) (l : List Int) (hn : l.length = n) (hc : n ≤ c) (ho : okB l) (hm : l.length ≤ 100) (w : World) (h : u8C w A l.length l) : Calls Try.prog 4 #[.slice A n c] w (OutV w (.bool true)) := by
 subst hn
 exact (storeReads_c A c l hc ho (by omega) w h).mono fun e w' h => ⟨h.1, ⟨h.2⟩⟩
theorem made_nums (n : Nat) (k : IntKind) : madeCells #[.int k 0] n = (nums k (List.replicate n 0)).toArray := by
 apply Array.ext'
 apply List.ext_getElem
 ·simp [nums, madeCells]
 ·intro i h1 h2
  simp [nums, madeCells, Nat.mod_one]
theorem full_cells (K N : Nat) (hN : N = K + 1) : (madeCells #[.int .u64 0] N).setIfInBounds K (.int .u64 9223372036854775808) = (nums .u64 (fullL K)).toArray := by
 have hs : (List.replicate N (0 : Int)).set K 9223372036854775808 = fullL K := by
  unfold fullL
  rw [hN, List.replicate_succ', List.set_append_right _ _ (by simp)]
  simp
 rw [made_nums, ← hs, nums, nums, List.map_set, List.setIfInBounds_toArray]
theorem full_C (K N : Nat) (hK : K = 4095) (hN : N = 4096) (W : World) (obj : Obj) : u64C ((W.alloc (.cells ((madeCells #[.int .u64 0] N).setIfInBounds 4095 (.int .u64 9223372036854775808)) 58)).alloc obj) (some ⟨W.heap.size, 0, none⟩) N (fullL K) := by
 refine row_block ((Bk.new W _ _).alloc obj) ?_ (by rw [fullL_len]; omega) (by omega)
 rw [← full_cells K N (by omega), hK]
theorem put_n (s : Bool) (A : Option Addr) (n c : Nat) (l r1 : List Int) (m : Nat) (r2 : Int) (hr : putS s l = (r1, r2)) (hn : l.length = n) (hm : r1.length = m) (hc : n ≤ c) (ol : okL64 l) (h9 : n ≤ 9223372036854775807) (w : World) (h : u64C w A n l) :
  Calls Try.prog 10 #[.agg #[.bool s, .slice A n c]] w fun e w' => ∃ A' c', e = .returned (.tuple #[.slice A' m c', .int .i64 r2]) ∧ Aside0 (m ≤ c' ∧ u8C w' A' m r1) ∧ Aside0 (Below w.heap.size w w') := by
 subst hn hm
 exact put_t s A c l r1 r2 hr hc ol h9 w h
theorem get_n (A : Option Addr) (n c : Nat) (l : List Int) (r1 : Bool) (r2 : List Int) (m : Nat) (r3 r4 : Int) (hr : getS l = (r1, r2, r3, r4)) (hn : l.length = n) (hm : r2.length = m) (hc : n ≤ c) (ol : okB l) (h9 : n ≤ 4611686018427387904) (w : World) (h : u8C w A n l) :
  Calls Try.prog 12 #[.slice A n c] w fun e w' => ∃ A' c', e = .returned (.tuple #[.agg #[.bool r1, .slice A' m c'], .int .i64 r3, .int .i64 r4]) ∧ Aside0 (m ≤ c' ∧ u64C w' A' m r2) ∧ Aside0 (Below w.heap.size w w') := by
 subst hn hm
 exact get_t A c l r1 r2 r3 r4 hr hc ol h9 w h
theorem tail_n (A B : Option Addr) (n k m c d : Nat) (l r : List Int) (hn : l.length = n) (hk : r.length = k) (hm : (l ++ r).length = m) (hc : n ≤ c) (hd : k ≤ d) (h9 : m < 140737488355328) (w : World) (h : u8C w A n l) (h2 : u8C w B k r) :
  Calls Try.prog 34 #[.slice A n c, .slice B k d] w fun e w' => ∃ A' c', e = .returned (.slice A' m c') ∧ Aside0 (m ≤ c' ∧ u8C w' A' m (l ++ r)) ∧ Aside0 (Below w.heap.size w w') := by
 subst hn hk hm
 exact tail_t A B c d l r hc hd (by rwa [List.length_append] at h9) w h h2
theorem certs_n (A : Option Addr) (n c : Nat) (L : List S61) (r1 : List Int) (m : Nat) (r2 : Int) (hr : certsT L = (r1, r2)) (hn : L.length = n) (hm : r1.length = m) (hc : n ≤ c) (oL : ∀ c ∈ L, okCert c) (h9 : n ≤ 9223372036854775807) (w : World) (h : Kd.C k61 w A n L) :
  Calls Try.prog 20 #[.slice A n c] w fun e w' => ∃ A' c', e = .returned (.tuple #[.slice A' m c', .int .i64 r2]) ∧ Aside0 (m ≤ c' ∧ u8C w' A' m r1) ∧ Aside0 (Below w.heap.size w w') := by
 subst hn hm
 exact certs_t A c L r1 r2 hr hc oL h9 w h
theorem sameInt_n (s : Bool) (A B : Option Addr) (n c d : Nat) (l : List Int) (k e0 : Int) (hn : l.length = n) (hc : n ≤ c) (hd : n ≤ d) (h9 : n < 9223372036854775807) (w : World) (h : u64C w A n l) (h2 : u64C w B n l) :
  Calls Try.prog 15 #[.agg #[.bool s, .slice A n c], .int .i64 k, .int .i64 e0, .agg #[.bool s, .slice B n d], .int .i64 k, .int .i64 e0] w (OutV w (.bool true)) := by
 subst hn
 exact sameInt_t s A B c d l k e0 hc hd h9 w h h2
theorem scerts_n (A : Option Addr) (n c : Nat) (L : List S61) (hn : L.length = n) (hc : n ≤ c) (oL : ∀ c ∈ L, okCert c) (h9 : n ≤ 9223372036854775807) (w : World) (h : Kd.C k61 w A n L) :
  Calls Try.prog 5 #[.slice A n c] w (OutV w (.bool true)) := by
 subst hn
 exact (storeCerts_c A c L hc h9 oL w h).mono fun e w' h => ⟨h.1, ⟨h.2⟩⟩
/-! ### certificates in blocks -/
abbrev zcells : Array Value := #[.bool false, .slice none 0 0, .bool false, .slice none 0 0, .slice none 0 0, .slice none 0 0]
theorem z61_K (w : World) : k61.K w z61 zcells.toList := k61_mk (s0 := false) (s1 := false) rfl rfl rfl rfl (Nat.le_refl _) (Nat.le_refl _) (Nat.le_refl _) (Nat.le_refl _) (empty_row _ _ _) (empty_row _ _ _) (empty_row _ _ _) (empty_row _ _ _)
theorem made_at (n j i : Nat) (hj : j < n) (hi : i < 6) : (madeCells zcells (n * 6))[j * 6 + i]? = zcells[i]? := by
 unfold madeCells
 rw [Array.getElem?_map, Array.getElem?_range, if_pos (by omega)]
 have e : (j * 6 + i) % zcells.size = i := by
  show (j * 6 + i) % 6 = i
  omega
 simp only [Option.map_some, e]
 rw [getElem!_pos zcells i (by exact hi), Array.getElem?_eq_getElem (by exact hi)]
theorem zeros_at {j n : Nat} {p : S61} (h : (List.replicate n z61)[j]? = some p) : j < n ∧ p = z61 := by
 obtain ⟨hl, he⟩ := List.getElem?_eq_some_iff.1 h
 rw [List.length_replicate] at hl
 exact ⟨hl, by rw [← he]; simp⟩
theorem many_C {W : World} {g t : Nat} (h : Bk W g (madeCells zcells (65 * 6)) t) : Kd.C k61 W (some ⟨g, 0, none⟩) 65 (List.replicate 65 z61) := by
 refine certs_block h List.length_replicate (by omega) fun j p hj => ?_
 obtain ⟨hl, rfl⟩ := zeros_at hj
 refine ⟨zcells.toList, rfl, z61_K W, fun i u hu => ?_⟩
 have hi : i < 6 := (List.getElem?_eq_some_iff.1 hu).1
 rw [made_at 65 j i hl hi, ← Array.getElem?_toList]
 exact hu
/-- 'many[3].Powers = []int{1}'. -/
theorem many_C3 {W : World} {g t h1 t1 : Nat} (h : Bk W g ((madeCells zcells (65 * 6)).setIfInBounds 23 (.slice (some ⟨h1, 0, none⟩) 1 1)) t) (hp : Bk W h1 #[.int .i64 1] t1) : Kd.C k61 W (some ⟨g, 0, none⟩) 65 (List.replicate 3 z61 ++ pc :: List.replicate 61 z61) := by
 refine certs_block h (by simp) (by omega) fun j p hj => ?_
 by_cases e3 : j = 3
 ·subst e3
  have : p = pc := by
   rw [List.getElem?_append_right (by simp)] at hj
   simpa using hj.symm
  subst this
  refine ⟨[.bool false, .slice none 0 0, .bool false, .slice none 0 0, .slice none 0 0, .slice (some ⟨h1, 0, none⟩) 1 1], rfl, k61_mk (s0 := false) (s1 := false) rfl rfl rfl rfl (Nat.le_refl _) (Nat.le_refl _) (Nat.le_refl _) (Nat.le_refl _) (empty_row _ _ _) (empty_row _ _ _) (empty_row _ _ _) (row_block hp rfl rfl (by omega)), fun i u hu => ?_⟩
  have hi : i < 6 := (List.getElem?_eq_some_iff.1 hu).1
  by_cases e5 : i = 5
  ·subst e5
   have hu2 : u = .slice (some ⟨h1, 0, none⟩) 1 1 := by simpa using hu.symm
   subst hu2
   rw [Array.getElem?_setIfInBounds]
   simp [size_madeCells]
  ·rw [Array.getElem?_setIfInBounds, if_neg (by omega), made_at 65 3 i (by omega) hi]
   match i, hi, e5, hu with
   | 0, _, _, hu => exact hu
   | 1, _, _, hu => exact hu
   | 2, _, _, hu => exact hu
   | 3, _, _, hu => exact hu
   | 4, _, _, hu => exact hu
   | 5, _, e5, _ => exact absurd rfl e5
   | i + 6, h6, _, _ => exact absurd h6 (by omega)
 ·have hz : j < 65 ∧ p = z61 := by
   rcases Nat.lt_or_ge j 3 with h3 | h3
   ·rw [List.getElem?_append_left (by simpa using h3)] at hj
    exact ⟨by omega, (zeros_at hj).2⟩
   ·rw [List.getElem?_append_right (by simpa using h3), List.length_replicate] at hj
    obtain ⟨m, hm⟩ : ∃ m, j - 3 = m + 1 := ⟨j - 3 - 1, by omega⟩
    rw [hm, List.getElem?_cons_succ] at hj
    have := zeros_at hj
    exact ⟨by omega, this.2⟩
  obtain ⟨hl, rfl⟩ := hz
  refine ⟨zcells.toList, rfl, z61_K W, fun i u hu => ?_⟩
  have hi : i < 6 := (List.getElem?_eq_some_iff.1 hu).1
  rw [Array.getElem?_setIfInBounds, if_neg (by omega), made_at 65 j i hl hi, ← Array.getElem?_toList]
  exact hu
/-- Rows of zeros. -/
theorem zero_row (W : World) (n t : Nat) (k : IntKind) (h9 : n ≤ 9223372036854775807) : (Kd.int k).C (W.alloc (.cells (madeCells #[.int k 0] n) t)) (some ⟨W.heap.size, 0, none⟩) n (List.replicate n 0) := by
 refine row_block (heap_alloc_new W _) ?_ List.length_replicate h9
 apply Array.ext'
 apply List.ext_getElem
 ·simp [nums, madeCells]
 ·intro i h1 h2
  simp [nums, madeCells, Nat.mod_one]
theorem made1_at (v : Value) (n i : Nat) (h : i < n) : (madeCells #[v] n)[i]? = some v := by
 unfold madeCells
 rw [Array.getElem?_map, Array.getElem?_range, if_pos h]
 simp [Nat.mod_one]
theorem byte_at {w : World} {A : Option Addr} {n : Nat} {l : List Int} (h : u8C w A n l) {i : Nat} {v : Int} (hi : l[i]? = some v) : ∃ ad, A = some ad ∧ w.cell? (ad.add i) = some (.int .u8 v) := by
 have hl := (List.getElem?_eq_some_iff.1 hi).1
 obtain ⟨ad, e, hc⟩ := h.2.2 (by have := h.1; omega)
 obtain ⟨c, h1, h2, h3⟩ := hc i v hi
 refine ⟨ad, e, ?_⟩
 have h4 := h3 0 (.int .u8 v) (by rw [show c = [.int .u8 v] from h2]; rfl)
 rwa [show i * (Kd.int .u8).sz + 0 = i from by simp [Kd.int, Kd.scalar]] at h4
theorem zeros_ok (n : Nat) : okL64 (List.replicate n 0) := fun x hx => by rw [List.eq_of_mem_replicate hx]; omega
theorem two_of {w : World} {g t : Nat} {x y : Value} (h : Bk w g #[x, y] t) : w.cell? ⟨g, 0, none⟩ = some x ∧ w.cell? ⟨g, 1, none⟩ = some y ∧ w.frozen? ⟨g, 0, none⟩ = false ∧ w.frozen? ⟨g, 1, none⟩ = false ∧ g < w.heap.size := ⟨h.cell rfl, h.cell rfl, h.frozen 0, h.frozen 1, h.lt⟩
end Go.Proofs.Ytoheamfnddfgkaa.St
