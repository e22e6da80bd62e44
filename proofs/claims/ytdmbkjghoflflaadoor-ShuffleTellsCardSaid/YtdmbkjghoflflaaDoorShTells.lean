/- ShuffleTells: for any three numbers the program's turned place and order are those of the document's answer; no condition (the three tables are laid as the program's text lays them: the card ties them). -/
import Derived.Test.YtdmbkjghoflflaaDoorCards
import Derived.Test.YtdmbkjghoflflaaDoorTie
import Derived.Test.YtdmbkjghoflflaaDoorShD
import Derived.ProofKit
import Derived.OpenShut
import Derived.Deep.DeepHandedRow
import Derived.Lib.LaidTab
import Derived.Stop.LaidErr
namespace Go.Proofs.YtdmbkjghoflflaaDoor.shuffleTells
open Go.ChangeShapes Go.WideShapes Go.ChangeAt Go.RowKit Go.Proofs.YtdmbkjghoflflaaDoor.Sh
set_option linter.unusedVariables false

theorem own : ownKnob Tryd.prog.godebug = none := by kernel_rfl
theorem g1 : Tryd.prog.globalNamed "rosette/shuffle.nibble" = some 1 := by kernel_rfl
theorem g2 : Tryd.prog.globalNamed "math/bits.deBruijn32tab" = some 2 := by kernel_rfl
theorem g3 : Tryd.prog.globalNamed "math/bits.deBruijn64tab" = some 3 := by kernel_rfl
theorem g1t : (Tryd.prog.globals[1]?).map (·.type) = some 52 := by kernel_rfl
theorem g3t : (Tryd.prog.globals[3]?).map (·.type) = some 74 := by kernel_rfl
theorem cells52 : Tryd.prog.cellsOf 52 = 16 := by kernel_rfl
theorem cells74 : Tryd.prog.cellsOf 74 = 64 := by kernel_rfl
theorem cells5 : Tryd.prog.cellsOf 5 = 1 := by kernel_rfl

/-- WHAT THE ROW's LIST GIVES. -/
theorem table64 {W : World} (h : laidMetH Tryd.prog Rows.shuffleTellsRow.laid W) : Lib.TabIs Tryd.prog W "math/bits.deBruijn64tab" .u8 [0, 1, 56, 2, 57, 49, 28, 3, 61, 58, 42, 50, 38, 29, 17, 4, 62, 47, 59, 36, 45, 43, 51, 22, 53, 39, 33, 30, 24, 18, 12, 5, 63, 55, 48, 27, 60, 41, 37, 16, 46, 35, 44, 21, 52, 32, 23, 11, 54, 26, 40, 15, 34, 20, 31, 10, 25, 14, 19, 9, 13, 8, 7, 6] :=
  Lib.tabIs_of_head (rest := [("rosette/shuffle.nibble", Rows.laid_rosette_shuffle_nibble)]) g3 g3t Tryd.underlying74 Tryd.underlying5 cells5 cells74
    (laidMet.tail (x := ("math/bits.deBruijn32tab", Rows.laid_math_bits_deBruijn32tab)) h)
theorem tableN {W : World} (h : laidMetH Tryd.prog Rows.shuffleTellsRow.laid W) : Lib.TabIs Tryd.prog W "rosette/shuffle.nibble" .u8 [0, 8, 4, 12, 2, 10, 6, 14, 1, 9, 5, 13, 3, 11, 7, 15] :=
  Lib.tabIs_of_head (rest := []) g1 g1t Tryd.underlying52 Tryd.underlying5 cells5 cells52
    (laidMet.tail (x := ("math/bits.deBruijn64tab", Rows.laid_math_bits_deBruijn64tab)) (laidMet.tail (x := ("math/bits.deBruijn32tab", Rows.laid_math_bits_deBruijn32tab)) h))
theorem nib_of {W : World} (h : laidMetH Tryd.prog Rows.shuffleTellsRow.laid W) : Nib W := by
  intro j hj
  have c := (tableN h).cell g1 j (by simpa using hj)
  rw [c]
  have key : ∀ j, j < 16 → ([0, 8, 4, 12, 2, 10, 6, 14, 1, 9, 5, 13, 3, 11, 7, 15] : List Int).getD j 0 = (nib j : Int) := by decide
  have k := key j hj
  first | rw [← k] | (simp only [List.getD_eq_getElem?_getD] at k; simp [← k])
theorem bru_of {W : World} (h : laidMetH Tryd.prog Rows.shuffleTellsRow.laid W) : Bru W := by
  intro j hj
  have c := (table64 h).cell g3 j (by simpa [Lib.deBruijn64tab] using hj)
  rw [c]
  have key : ∀ j, j < 64 → ([0, 1, 56, 2, 57, 49, 28, 3, 61, 58, 42, 50, 38, 29, 17, 4, 62, 47, 59, 36, 45, 43, 51, 22, 53, 39, 33, 30, 24, 18, 12, 5, 63, 55, 48, 27, 60, 41, 37, 16, 46, 35, 44, 21, 52, 32, 23, 11, 54, 26, 40, 15, 34, 20, 31, 10, 25, 14, 19, 9, 13, 8, 7, 6] : List Int).getD j 0 = ((Lib.deBruijn64tab.getD j 0 : Nat) : Int) := by decide
  have k := key j (by simpa [Lib.deBruijn64tab] using hj)
  first | rw [← k] | (simp only [List.getD_eq_getElem?_getD] at k; simp [← k])

/-- Every order and place is one or the other. -/
theorem okOrBad (o p : Int) : Bad o p ∨ ∃ m n : Nat, o = m ∧ p = n ∧ m ≤ 14 ∧ n < 2 ^ m := by
  by_cases h1 : o < 0
  · exact .inl (.inl h1)
  by_cases h2 : 14 < o
  · exact .inl (.inr (.inl h2))
  by_cases h3 : p < 0
  · exact .inl (.inr (.inr (.inl h3)))
  obtain ⟨m, rfl⟩ := Int.eq_ofNat_of_zero_le (show 0 ≤ o by omega)
  obtain ⟨n, rfl⟩ := Int.eq_ofNat_of_zero_le (show 0 ≤ p by omega)
  by_cases h4 : n < 2 ^ m
  · exact .inr ⟨m, n, rfl, rfl, by omega, h4⟩
  · refine .inl (.inr (.inr (.inr ⟨by omega, by omega, ?_⟩)))
    rw [Int.toNat_natCast]
    have : 2 ^ m ≤ n := by omega
    exact_mod_cast this

/-- Both tell the same of a place. -/
theorem both_turned (o p : Int) (w : World) (hN : Nib w) : ∃ a e : Int,
    Calls Tryd.prog 5 #[.int .i64 o, .int .i64 p] w (fun x w' => x = .returned (.tuple #[.int .i64 a, .int .i64 e]) ∧ w = w') ∧
    Calls Tryd.prog 6 #[.int .i64 o, .int .i64 p] w (fun x w' => x = .returned (.tuple #[.int .i64 a, .int .i64 e]) ∧ w = w') := by
  rcases okOrBad o p with h | ⟨m, n, rfl, rfl, h1, h2⟩
  · exact ⟨0, 2, turned_no o p h w, rturned_no o p h w⟩
  · exact ⟨_, 0, turned_yes m n h1 h2 w hN, rturned_yes m n h1 h2 w⟩
theorem both_order (n : Int) (w : World) (hT : Bru w) : ∃ (k : Int) (b : Bool),
    Calls Tryd.prog 7 #[.int .i64 n] w (fun x w' => x = .returned (.tuple #[.int .i64 k, .bool b]) ∧ w = w') ∧
    Calls Tryd.prog 8 #[.int .i64 n] w (fun x w' => x = .returned (.tuple #[.int .i64 k, .bool b]) ∧ w = w') := by
  by_cases h : IsOrd n
  · obtain ⟨k, hk, rfl⟩ := h
    have e : ((2 ^ k : Nat) : Int) = 2 ^ k := by simp
    rw [← e]
    exact ⟨k, true, order_yes k hk w hT, rorder_yes k hk w⟩
  · exact ⟨0, false, order_no n h w, rorder_no n h w⟩

set_option maxHeartbeats 1000000 in
theorem walk (a0 a1 a2 : Int) (w : World) (hN : Nib w) (hT : Bru w) (hz : 3 < w.heap.size) :
    Calls Tryd.prog 3 #[.int .i64 a0, .int .i64 a1, .int .i64 a2] w fun e w' => e = .returned (.bool true) ∧ Below w.heap.size w w' := by
  obtain ⟨a, e, c1, c2⟩ := both_turned a0 a1 w hN
  obtain ⟨k, b, c3, c4⟩ := both_order a2 w hT
  have c1 := Lib.hid c1
  have c2 := Lib.hid c2
  have c3 := Lib.hid c3
  have c4 := Lib.hid c4
  have c5 := Lib.hid (awake_c w hN hT hz)
  clear hN hT
  go_enter Tryd.func3, Tryd.ntmps3
  go_wp2_with fail
  refine c1.out.mono ?_; rintro e1 w1 ⟨rfl, rfl⟩
  go_wp2_with fail
  refine c2.out.mono ?_; rintro e1 w1 ⟨rfl, rfl⟩
  go_wp2_with fail
  refine c3.out.mono ?_; rintro e1 w1 ⟨rfl, rfl⟩
  go_wp2_with fail
  refine c4.out.mono ?_; rintro e1 w1 ⟨rfl, rfl⟩
  go_wp2_with fail
  refine c5.out.mono ?_; rintro e1 w1 ⟨rfl, hb⟩
  have hb := Lib.hid hb
  go_wp2
  go_ret
  exact ⟨rfl, hb.out⟩

set_option maxRecDepth 100000 in
theorem len64 : 0 < Lib.deBruijn64tab.length := by simp [Lib.deBruijn64tab]

set_option maxRecDepth 100000 in
theorem contract (H : Type) (enc : TypeId × Value → H) (W : World) (base : Nat) (args : Array Value) (ds gs : List (DataW H)) (before : List MemPlace)
    (hval : ∀ (j : Nat) t v, Tryd.f3.params[j]? = some t → args[j]? = some v → Value.okWide Tryd.prog W .any base t v)
    (hW : DataW.Whole enc Tryd.prog Tryd.f3.params.toList Rows.shuffleTellsSpec.vars false W args.toList ds gs before) (hL : laidMetH Tryd.prog Rows.shuffleTellsRow.laid W) :
    Calls Tryd.prog 3 args W fun e W' => ∃ v, e = .returned v ∧ Rows.shuffleTellsSpec.post enc Tryd.prog Tryd.f3 false true false false W args v W' := by
  have hW' := hW
  obtain ⟨p, q, hA0, hV, rfl, hfz, hnd⟩ := hW
  have hA : DataW.TrodAll enc Tryd.prog W 0 (fun _ => true) true Tryd.f3.params.toList args.toList ds p := hA0
  rw [Tryd.params3] at hA hval
  obtain ⟨v0, vs0, d0, ds0, p0, q0, hargs, rfl, rfl, h0, r0⟩ := trodAll_cons hA
  obtain ⟨v1, vs1, d1, ds1, p1, q1, rfl, rfl, rfl, h1, r1⟩ := trodAll_cons r0
  obtain ⟨v2, vs2, d2, ds2, p2, q2, rfl, rfl, rfl, h2, r2⟩ := trodAll_cons r1
  obtain ⟨rfl, rfl, rfl⟩ := trodAll_nil r2
  obtain rfl : args = #[v0, v1, v2] := by cases args; simp_all
  obtain ⟨rfl, rfl⟩ := trodVars_none hV
  obtain ⟨a0, rfl, rfl, rfl, w0⟩ := open_int Tryd.underlying3 (hval 0 3 v0 rfl rfl) h0
  obtain ⟨a1, rfl, rfl, rfl, w1⟩ := open_int Tryd.underlying3 (hval 1 3 v1 rfl rfl) h1
  obtain ⟨a2, rfl, rfl, rfl, w2⟩ := open_int Tryd.underlying3 (hval 2 3 v2 rfl rfl) h2
  clear hA0
  simp only [List.append_nil] at hW'
  have hN := nib_of hL
  have hT := bru_of hL
  have hz : 3 < W.heap.size := World.block_lt_of_cell? W _ (hT 0 len64)
  refine (walk a0 a1 a2 W hN hT hz).mono fun e W' ⟨he, bel⟩ => ?_
  subst he
  exact ⟨_, rfl, _, _, _, [], _, [], hW', trodAll_mk1 (shut_bool Tryd.underlying4 _), (trodAll_cons_mk (shut_int Tryd.underlying3 w0) (trodAll_cons_mk (shut_int Tryd.underlying3 w1) (trodAll_cons_mk (shut_int Tryd.underlying3 w2) trodAll_mk0))), rfl, bel.frame _, fun h => by cases h⟩

/-- A WORLD FOR THE WITNESS: the settled one, the tables holding what their initialisers lay. -/
def layIn (cs : Array Value) : Obj → Obj
  | .cells _ t frozen => .cells cs t frozen
  | o => o
noncomputable def laidWorld (os : Os) : World :=
  { World.holding Tryd.prog os ⟨#[], #[], []⟩ with heap := (((World.holding Tryd.prog os ⟨#[], #[], []⟩).heap.modify 1 (layIn #[.int .u8 0, .int .u8 8, .int .u8 4, .int .u8 12, .int .u8 2, .int .u8 10, .int .u8 6, .int .u8 14, .int .u8 1, .int .u8 9, .int .u8 5, .int .u8 13, .int .u8 3, .int .u8 11, .int .u8 7, .int .u8 15])).modify 2 (layIn #[.int .u8 0, .int .u8 1, .int .u8 28, .int .u8 2, .int .u8 29, .int .u8 14, .int .u8 24, .int .u8 3, .int .u8 30, .int .u8 22, .int .u8 20, .int .u8 15, .int .u8 25, .int .u8 17, .int .u8 4, .int .u8 8, .int .u8 31, .int .u8 27, .int .u8 13, .int .u8 23, .int .u8 21, .int .u8 19, .int .u8 16, .int .u8 7, .int .u8 26, .int .u8 12, .int .u8 18, .int .u8 6, .int .u8 11, .int .u8 5, .int .u8 10, .int .u8 9])).modify 3 (layIn #[.int .u8 0, .int .u8 1, .int .u8 56, .int .u8 2, .int .u8 57, .int .u8 49, .int .u8 28, .int .u8 3, .int .u8 61, .int .u8 58, .int .u8 42, .int .u8 50, .int .u8 38, .int .u8 29, .int .u8 17, .int .u8 4, .int .u8 62, .int .u8 47, .int .u8 59, .int .u8 36, .int .u8 45, .int .u8 43, .int .u8 51, .int .u8 22, .int .u8 53, .int .u8 39, .int .u8 33, .int .u8 30, .int .u8 24, .int .u8 18, .int .u8 12, .int .u8 5, .int .u8 63, .int .u8 55, .int .u8 48, .int .u8 27, .int .u8 60, .int .u8 41, .int .u8 37, .int .u8 16, .int .u8 46, .int .u8 35, .int .u8 44, .int .u8 21, .int .u8 52, .int .u8 32, .int .u8 23, .int .u8 11, .int .u8 54, .int .u8 26, .int .u8 40, .int .u8 15, .int .u8 34, .int .u8 20, .int .u8 31, .int .u8 10, .int .u8 25, .int .u8 14, .int .u8 19, .int .u8 9, .int .u8 13, .int .u8 8, .int .u8 7, .int .u8 6]) }
theorem laid_met (os : Os) : laidMet Tryd.prog Rows.shuffleTellsRow.laid ((laidWorld os).forCall (fun _ _ => 0) ⟨#[], #[.int .i64 0, .int .i64 0, .int .i64 0], []⟩).memory :=
  laidMet_of_run' 8 (by kernel_rfl) (by kernel_rfl)
theorem reads (os : Os) {H : Type} (enc : TypeId × Value → H) : ∃ places, DataW.whole enc Tryd.prog ((laidWorld os).forCall (fun _ _ => 0) ⟨#[], #[.int .i64 0, .int .i64 0, .int .i64 0], []⟩).memory Tryd.f3.params.toList Rows.shuffleTellsSpec.vars false #[Value.int .i64 0, Value.int .i64 0, Value.int .i64 0].toList 8 = some ([.lit (.int .i64 0), .lit (.int .i64 0), .lit (.int .i64 0)], [], places) :=
  ⟨[], by kernel_rfl⟩

set_option maxRecDepth 100000 in
theorem lifted (os : Os) (started : os.Started) (H : Type) (enc : TypeId × Value → H) (F : Stop.Interp) :
    ReturnsInHanded {} Tryd.checked os 3 .any ((OpenSpec.ofChange Rows.shuffleTellsSpec).preRow enc Tryd.prog Tryd.f3 Rows.shuffleTellsRow.domain false Rows.shuffleTellsRow.laid) (((OpenSpec.ofChange Rows.shuffleTellsSpec).at F).post enc Tryd.prog Tryd.f3 false true false false) := by
  obtain ⟨places, hx⟩ := reads os enc
  refine returnsInHanded_of_row (C := Tryd.checked) (s := OpenSpec.ofChange Rows.shuffleTellsSpec) own started (by kernel_rfl) Tryd.func3
    (witness_row_at (enc := enc) (C := Tryd.checked) false (laidWorld os) #[.int .i64 0, .int .i64 0, .int .i64 0] rfl (by kernel_rfl) (by kernel_rfl) (by kernel_rfl)
      (OpenSpec.preRow_of_cond 8 hx (by kernel_rfl) (fun k hk => by cases hk) (by kernel_rfl) (laid_met os))) ?_
  intro W base args ds gs before hval hW _ _ _ hL _ _
  exact contract H enc W base args ds gs before hval hW hL

theorem said : Rows.ShuffleTellsSaid :=
  OpenClaim.holds_of_cond 3 Tryd.f3 rfl rfl rfl rfl rfl rfl rfl ⟨rfl, rfl, rfl, rfl, rfl⟩ rfl rfl rfl rfl rfl (by kernel_rfl) Tryd.func3 (by kernel_rfl)
    (of_decide_eq_true (by kernel_rfl)) (by unfold Func.isWrapper; first | (rw [if_pos (by decide +kernel)]; kernel_rfl) | (rw [if_neg (by decide +kernel)]; exact ⟨rfl, rfl⟩))
    (fun os started H enc _ F => by rw [OpenClaim.pre_eq_preRow]; exact lifted os started H enc F)

theorem plain (f : FuncId) (fn : Func) (hf : Tryd.pinned.checked.prog.funcNamed "rosette/rosettelaw06.ShuffleTells" = some f) (hfn : Tryd.pinned.checked.prog.funcs[f]? = some fn) :
    false = Tryd.pinned.checked.prog.looks [] ∧ ∀ (j : Nat) t, fn.params[j]? = some t → Tryd.pinned.checked.prog.wantsStandIn t = false := by
  obtain rfl : f = 3 := Option.some.inj ((show Tryd.prog.funcNamed "rosette/rosettelaw06.ShuffleTells" = some 3 by kernel_rfl).symm.trans hf) |>.symm
  obtain rfl : fn = Tryd.f3 := (Option.some.inj (Tryd.func3.symm.trans hfn)).symm
  refine ⟨by kernel_rfl, fun j t ht => ?_⟩
  rw [Tryd.params3] at ht
  have hm := Array.mem_of_getElem? ht
  obtain rfl : t = 3 := by simpa using hm
  exact (show Tryd.prog.wantsStandIn 3 = false by kernel_rfl)

/-- THE CARD. -/
theorem card : Rows.ShuffleTellsCardSaid :=
  Claim7.holds_tied_plain_at .later [] _ _ _ _ said (fun _ h => by cases h) (by kernel_rfl) (fun _ h => by cases h) shuffleTells_row_tie rfl ⟨rfl, rfl⟩ (by kernel_rfl) rfl plain (by kernel_rfl)
#print axioms card
end Go.Proofs.YtdmbkjghoflflaaDoor.shuffleTells
