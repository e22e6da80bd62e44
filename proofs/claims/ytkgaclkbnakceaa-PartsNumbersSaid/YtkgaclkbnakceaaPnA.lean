/- parts: the functions of floats: what they answer. -/
import Derived.Test.YtkgaclkbnakceaaProg
import Derived.WalkKit
import Derived.ProofKit
import Derived.Below
import Derived.RowKit
import Derived.KernelRfl
import Derived.WalkLawsBesides
namespace Go.Proofs.Ytkgaclkbnakceaa.Pn
open Go.RowKit
set_option linter.unusedVariables false
set_option linter.unusedSimpArgs false

theorem bits_r (b : Nat) (w : World) : (callFunc 21 #[.float .f64 b]).run Try.prog w = .ok (.value (.int .u64 (b : Int))) w := rfl
theorem frombits_r (n : Int) (w : World) : (callFunc 12 #[.int .u64 n]).run Try.prog w = .ok (.value (.float .f64 n.toNat)) w := rfl
/-- What a call comes to: a value; nothing is written. -/
def Out (w : World) (v : Value) (e : Ending) (w' : World) : Prop := e = .returned v ∧ Below w.heap.size w w'
abbrev ord (a b : Nat) : Option Ordering := FloatKind.f64.format.order a b
abbrev F (a : Nat) : Value := .float .f64 a
abbrev C (a b : Nat) : Value := .complex .f64 a b
set_option maxRecDepth 100000 in
theorem abs_t (x r : Nat) (h : (bits .andNot .u64 (x : Int) 9223372036854775808).toNat = r) (w : World) : Calls Try.prog 26 #[F x] w (Out w (F r)) := by
  have fb := bits_r
  have ff := frombits_r
  go_enter Try.func26, Try.ntmps26
  go_wp2
  go_ret
  exact ⟨by first | rfl | (simp [*]; done), Below.refl _ _⟩
set_option maxRecDepth 100000 in
theorem nan_t (w : World) : Calls Try.prog 6 #[] w (Out w (F 9221120237041090561)) := by
  have fb := bits_r
  have ff := frombits_r
  go_enter Try.func6, Try.ntmps6
  go_wp2
  go_ret
  exact ⟨by first | rfl | (simp [*]; done), Below.refl _ _⟩
set_option maxRecDepth 100000 in
theorem inf_p (w : World) : Calls Try.prog 5 #[.int .i64 1] w (Out w (F 9218868437227405312)) := by
  have fb := bits_r
  have ff := frombits_r
  go_enter Try.func5, Try.ntmps5
  go_wp2
  go_ret
  exact ⟨by first | rfl | (simp [*]; done), Below.refl _ _⟩
set_option maxRecDepth 100000 in
theorem inf_n (w : World) : Calls Try.prog 5 #[.int .i64 (-1)] w (Out w (F 18442240474082181120)) := by
  have fb := bits_r
  have ff := frombits_r
  go_enter Try.func5, Try.ntmps5
  go_wp2
  go_ret
  exact ⟨by first | rfl | (simp [*]; done), Below.refl _ _⟩
set_option maxRecDepth 100000 in
theorem isNaN_t (x : Nat) (v : Bool) (h : (ord x x != some .eq) = v) (w : World) : Calls Try.prog 15 #[F x] w (Out w (.bool v)) := by
  have fb := bits_r
  have ff := frombits_r
  go_enter Try.func15, Try.ntmps15
  go_wp2
  go_ret
  exact ⟨by first | rfl | (simp [*]; done), Below.refl _ _⟩
set_option maxRecDepth 100000 in
theorem refNan_t (x : Nat) (v : Bool) (h : (ord x x != some .eq) = v) (w : World) : Calls Try.prog 31 #[F x] w (Out w (.bool v)) := by
  have fb := bits_r
  have ff := frombits_r
  go_enter Try.func31, Try.ntmps31
  go_wp2
  go_ret
  exact ⟨by first | rfl | (simp [*]; done), Below.refl _ _⟩
set_option maxRecDepth 100000 in
theorem copysign_t (x y r : Nat) (h : (bits .or .u64 (bits .andNot .u64 (x : Int) 9223372036854775808) (bits .and .u64 (y : Int) 9223372036854775808)).toNat = r) (w : World) : Calls Try.prog 4 #[F x, F y] w (Out w (F r)) := by
  have fb := bits_r
  have ff := frombits_r
  go_enter Try.func4, Try.ntmps4
  go_wp2
  go_ret
  exact ⟨by first | rfl | (simp [*]; done), Below.refl _ _⟩
set_option maxRecDepth 100000 in
theorem isInf_t (x r : Nat) (v : Bool) (h : (bits .andNot .u64 (x : Int) 9223372036854775808).toNat = r) (h2 : (ord r 9218868437227405311 == some .gt) = v) (w : World) : Calls Try.prog 32 #[F x, .int .i64 0] w (Out w (.bool v)) := by
  have fb := bits_r
  have ff := frombits_r
  go_enter Try.func32, Try.ntmps32
  go_wp2_with fail
  refine (abs_t x r h _).mono ?_
  rintro e w1 ⟨rfl, b1⟩
  go_wp2
  go_ret
  exact ⟨by first | rfl | (simp [*]; done), b1⟩
set_option maxRecDepth 100000 in
theorem refSame_e (a : Nat) (w : World) : Calls Try.prog 28 #[F a, F a] w (Out w (.bool true)) := by
  have fb := bits_r
  have ff := frombits_r
  go_enter Try.func28, Try.ntmps28
  go_wp2
  go_ret
  exact ⟨by first | rfl | (simp [*]; done), Below.refl _ _⟩
set_option maxRecDepth 100000 in
theorem refSame_n (a b : Nat) (hab : ((a : Int) == (b : Int)) = false) (ha : (ord a a != some .eq) = true) (hb : (ord b b != some .eq) = true) (w : World) : Calls Try.prog 28 #[F a, F b] w (Out w (.bool true)) := by
  have fb := bits_r
  have ff := frombits_r
  go_enter Try.func28, Try.ntmps28
  go_wp2_with fail
  refine (refNan_t a true ha _).mono ?_
  rintro e w1 ⟨rfl, b1⟩
  go_wp2_with fail
  refine (refNan_t b true hb _).mono ?_
  rintro e w2 ⟨rfl, b2⟩
  go_wp2
  go_ret
  exact ⟨by first | rfl | (simp [*]; done), b1.trans (b2.mono b1.size)⟩
/-- The same bits, or both no numbers. -/
def sameP (a b : Nat) : Prop := a = b ∨ ((ord a a != some .eq) = true ∧ (ord b b != some .eq) = true)
theorem refSame_t (a b : Nat) (h : sameP a b) (w : World) : Calls Try.prog 28 #[F a, F b] w (Out w (.bool true)) := by
  by_cases e : a = b
  · subst e; exact refSame_e a w
  · rcases h with h | h
    · exact absurd h e
    · exact refSame_n a b (beq_eq_false_iff_ne.mpr (by omega)) h.1 h.2 w
set_option maxRecDepth 100000 in
theorem sameBoth_t (a b c d : Nat) (h1 : sameP a c) (h2 : sameP b d) (w : World) : Calls Try.prog 22 #[C a b, C c d] w (Out w (.bool true)) := by
  have fb := bits_r
  have ff := frombits_r
  go_enter Try.func22, Try.ntmps22
  go_wp2_with fail
  refine (refSame_t a c h1 _).mono ?_
  rintro e w1 ⟨rfl, b1⟩
  go_wp2_with fail
  refine (refSame_t b d h2 _).mono ?_
  rintro e w2 ⟨rfl, b2⟩
  go_wp2
  go_ret
  exact ⟨by first | rfl | (simp [*]; done), b1.trans (b2.mono b1.size)⟩
set_option maxRecDepth 100000 in
theorem same_t (a b c d : Nat) (h1 : sameP a c) (h2 : sameP b d) (w : World) : Calls Try.prog 7 #[C a b, C c d] w (Out w (.bool true)) := by
  have fb := bits_r
  have ff := frombits_r
  go_enter Try.func7, Try.ntmps7
  go_wp2_with fail
  refine (sameBoth_t a b c d h1 h2 _).mono ?_
  rintro e w1 ⟨rfl, b1⟩
  go_wp2
  go_ret
  exact ⟨by first | rfl | (simp [*]; done), b1⟩
set_option maxRecDepth 100000 in
theorem psame_e (a : Nat) (w : World) : Calls Try.prog 25 #[F a, F a] w (Out w (.bool true)) := by
  have fb := bits_r
  have ff := frombits_r
  go_enter Try.func25, Try.ntmps25
  go_wp2
  go_ret
  exact ⟨by first | rfl | (simp [*]; done), Below.refl _ _⟩
set_option maxRecDepth 100000 in
theorem psame_f (a b : Nat) (hab : ((a : Int) == (b : Int)) = false) (ha : (ord a a != some .eq) = false) (w : World) : Calls Try.prog 25 #[F a, F b] w (Out w (.bool false)) := by
  have fb := bits_r
  have ff := frombits_r
  go_enter Try.func25, Try.ntmps25
  go_wp2
  go_ret
  exact ⟨by first | rfl | (simp [*]; done), Below.refl _ _⟩
set_option maxRecDepth 100000 in
theorem psame_g (a b : Nat) (hab : ((a : Int) == (b : Int)) = false) (ha : (ord a a != some .eq) = true) (hb : (ord b b != some .eq) = false) (w : World) : Calls Try.prog 25 #[F a, F b] w (Out w (.bool false)) := by
  have fb := bits_r
  have ff := frombits_r
  go_enter Try.func25, Try.ntmps25
  go_wp2
  go_ret
  exact ⟨by first | rfl | (simp [*]; done), Below.refl _ _⟩
set_option maxRecDepth 100000 in
theorem psame_n (a b : Nat) (hab : ((a : Int) == (b : Int)) = false) (ha : (ord a a != some .eq) = true) (hb : (ord b b != some .eq) = true) (w : World) : Calls Try.prog 25 #[F a, F b] w (Out w (.bool true)) := by
  have fb := bits_r
  have ff := frombits_r
  go_enter Try.func25, Try.ntmps25
  go_wp2
  go_ret
  exact ⟨by first | rfl | (simp [*]; done), Below.refl _ _⟩
set_option maxRecDepth 100000 in
theorem pSame_tt (a b c d : Nat) (h1 : ∀ w, Calls Try.prog 25 #[F a, F c] w (Out w (.bool true))) (h2 : ∀ w, Calls Try.prog 25 #[F b, F d] w (Out w (.bool true))) (w : World) : Calls Try.prog 13 #[C a b, C c d] w (Out w (.bool true)) := by
  have fb := bits_r
  have ff := frombits_r
  go_enter Try.func13, Try.ntmps13
  go_wp2_with fail
  refine (h1 _).mono ?_
  rintro e w1 ⟨rfl, b1⟩
  go_wp2_with fail
  refine (h2 _).mono ?_
  rintro e w2 ⟨rfl, b2⟩
  go_wp2
  go_ret
  exact ⟨by first | rfl | (simp [*]; done), b1.trans (b2.mono b1.size)⟩
set_option maxRecDepth 100000 in
theorem pSame_tf (a b c d : Nat) (h1 : ∀ w, Calls Try.prog 25 #[F a, F c] w (Out w (.bool true))) (h2 : ∀ w, Calls Try.prog 25 #[F b, F d] w (Out w (.bool false))) (w : World) : Calls Try.prog 13 #[C a b, C c d] w (Out w (.bool false)) := by
  have fb := bits_r
  have ff := frombits_r
  go_enter Try.func13, Try.ntmps13
  go_wp2_with fail
  refine (h1 _).mono ?_
  rintro e w1 ⟨rfl, b1⟩
  go_wp2_with fail
  refine (h2 _).mono ?_
  rintro e w2 ⟨rfl, b2⟩
  go_wp2
  go_ret
  exact ⟨by first | rfl | (simp [*]; done), b1.trans (b2.mono b1.size)⟩
set_option maxRecDepth 100000 in
theorem pSame_f (a b c d : Nat) (h1 : ∀ w, Calls Try.prog 25 #[F a, F c] w (Out w (.bool false))) (w : World) : Calls Try.prog 13 #[C a b, C c d] w (Out w (.bool false)) := by
  have fb := bits_r
  have ff := frombits_r
  go_enter Try.func13, Try.ntmps13
  go_wp2_with fail
  refine (h1 _).mono ?_
  rintro e w1 ⟨rfl, b1⟩
  go_wp2
  go_ret
  exact ⟨by first | rfl | (simp [*]; done), b1⟩
set_option maxRecDepth 100000 in
theorem plike_e (a b : Nat) (h : (ord a b == some .eq) = true) (w : World) : Calls Try.prog 27 #[F a, F b] w (Out w (.bool true)) := by
  have fb := bits_r
  have ff := frombits_r
  go_enter Try.func27, Try.ntmps27
  go_wp2
  go_ret
  exact ⟨by first | rfl | (simp [*]; done), Below.refl _ _⟩
set_option maxRecDepth 100000 in
theorem plike_n (a b : Nat) (h : (ord a b == some .eq) = false) (ha : (ord a a != some .eq) = true) (hb : (ord b b != some .eq) = true) (w : World) : Calls Try.prog 27 #[F a, F b] w (Out w (.bool true)) := by
  have fb := bits_r
  have ff := frombits_r
  go_enter Try.func27, Try.ntmps27
  go_wp2
  go_ret
  exact ⟨by first | rfl | (simp [*]; done), Below.refl _ _⟩
set_option maxRecDepth 100000 in
theorem pLike_tt (a b c d : Nat) (h1 : ∀ w, Calls Try.prog 27 #[F a, F c] w (Out w (.bool true))) (h2 : ∀ w, Calls Try.prog 27 #[F b, F d] w (Out w (.bool true))) (w : World) : Calls Try.prog 17 #[C a b, C c d] w (Out w (.bool true)) := by
  have fb := bits_r
  have ff := frombits_r
  go_enter Try.func17, Try.ntmps17
  go_wp2_with fail
  refine (h1 _).mono ?_
  rintro e w1 ⟨rfl, b1⟩
  go_wp2_with fail
  refine (h2 _).mono ?_
  rintro e w2 ⟨rfl, b2⟩
  go_wp2
  go_ret
  exact ⟨by first | rfl | (simp [*]; done), b1.trans (b2.mono b1.size)⟩
theorem fop_r {op : BinOp} {x y r : Nat} (h : floatBits op .f64 x y = some r) (w : World) : (binOp op 22 (.float .f64 x) (.float .f64 y)).run Try.prog w = .ok (.float .f64 r) w := run_float_arith w op 22 .f64 x y r h
set_option maxRecDepth 100000 in
theorem mul_t (p q c d r1 r2 r3 r4 x y : Nat) (h1 : floatBits .mul .f64 p c = some r1) (h2 : floatBits .mul .f64 q d = some r2) (h3 : floatBits .sub .f64 r1 r2 = some x) (h4 : floatBits .mul .f64 p d = some r3) (h5 : floatBits .mul .f64 q c = some r4) (h6 : floatBits .add .f64 r3 r4 = some y) (w : World) : Calls Try.prog 8 #[C p q, C c d] w (Out w (C x y)) := by
  have fb := bits_r
  have ff := frombits_r
  have g1 := fop_r h1
  have g2 := fop_r h2
  have g3 := fop_r h3
  have g4 := fop_r h4
  have g5 := fop_r h5
  have g6 := fop_r h6
  go_enter Try.func8, Try.ntmps8
  go_wp2
  go_ret
  exact ⟨by first | rfl | (simp [*]; done), Below.refl _ _⟩
set_option maxRecDepth 100000 in
theorem norm_t (p q r1 r2 x : Nat) (h1 : floatBits .mul .f64 p p = some r1) (h2 : floatBits .mul .f64 q q = some r2) (h3 : floatBits .add .f64 r1 r2 = some x) (w : World) : Calls Try.prog 14 #[C p q] w (Out w (F x)) := by
  have fb := bits_r
  have ff := frombits_r
  have g1 := fop_r h1
  have g2 := fop_r h2
  have g3 := fop_r h3
  go_enter Try.func14, Try.ntmps14
  go_wp2
  go_ret
  exact ⟨by first | rfl | (simp [*]; done), Below.refl _ _⟩
set_option maxRecDepth 100000 in
theorem size_t (p q r1 r2 x : Nat) (e1 : (bits .andNot .u64 (p : Int) 9223372036854775808).toNat = r1) (e2 : (bits .andNot .u64 (q : Int) 9223372036854775808).toNat = r2) (h1 : floatBits .add .f64 r1 r2 = some x) (w : World) : Calls Try.prog 16 #[C p q] w (Out w (F x)) := by
  have fb := bits_r
  have ff := frombits_r
  have g1 := fop_r h1
  go_enter Try.func16, Try.ntmps16
  go_wp2_with fail
  refine (abs_t p r1 e1 _).mono ?_
  rintro e w1 ⟨rfl, b1⟩
  go_wp2_with fail
  refine (abs_t q r2 e2 _).mono ?_
  rintro e w2 ⟨rfl, b2⟩
  go_wp2
  go_ret
  exact ⟨by first | rfl | (simp [*]; done), b1.trans (b2.mono b1.size)⟩
theorem neg_r {b r : Nat} (h : Op.negFloat .f64 b = r) (w : World) : (Op.unary .neg (.float .f64 b)).run Try.prog w = .ok (.float .f64 r) w := by subst h; rfl
set_option maxRecDepth 100000 in
theorem neg_t (p q p2 q2 : Nat) (n1 : Op.negFloat .f64 p = p2) (n2 : Op.negFloat .f64 q = q2) (w : World) : Calls Try.prog 23 #[C p q] w (Out w (C p2 q2)) := by
  have fb := bits_r
  have ff := frombits_r
  have m1 := neg_r n1
  have m2 := neg_r n2
  go_enter Try.func23, Try.ntmps23
  go_wp2
  go_ret
  exact ⟨by first | rfl | (simp [*]; done), Below.refl _ _⟩
set_option maxRecDepth 100000 in
theorem conj_t (p q q2 : Nat) (n1 : Op.negFloat .f64 q = q2) (w : World) : Calls Try.prog 10 #[C p q] w (Out w (C p q2)) := by
  have fb := bits_r
  have ff := frombits_r
  have m1 := neg_r n1
  go_enter Try.func10, Try.ntmps10
  go_wp2
  go_ret
  exact ⟨by first | rfl | (simp [*]; done), Below.refl _ _⟩
set_option maxRecDepth 100000 in
theorem turn_1 (p q q2 : Nat) (n : Int) (hn : bits .and .i64 n 3 = 1) (n1 : Op.negFloat .f64 q = q2) (w : World) : Calls Try.prog 9 #[C p q, .int .i64 n] w (Out w (C q2 p)) := by
  have fb := bits_r
  have ff := frombits_r
  have m1 := neg_r n1
  go_enter Try.func9, Try.ntmps9
  go_wp2
  go_ret
  exact ⟨by first | rfl | (simp [*]; done), Below.refl _ _⟩
set_option maxRecDepth 100000 in
theorem turn_3 (p q p2 : Nat) (n : Int) (hn : bits .and .i64 n 3 = 3) (n1 : Op.negFloat .f64 p = p2) (w : World) : Calls Try.prog 9 #[C p q, .int .i64 n] w (Out w (C q p2)) := by
  have fb := bits_r
  have ff := frombits_r
  have m1 := neg_r n1
  go_enter Try.func9, Try.ntmps9
  go_wp2
  go_ret
  exact ⟨by first | rfl | (simp [*]; done), Below.refl _ _⟩
set_option maxRecDepth 100000 in
theorem turn_0 (p q : Nat) (n : Int) (hn : bits .and .i64 n 3 = 0) (w : World) : Calls Try.prog 9 #[C p q, .int .i64 n] w (Out w (C p q)) := by
  have fb := bits_r
  have ff := frombits_r
  go_enter Try.func9, Try.ntmps9
  go_wp2
  go_ret
  exact ⟨by first | rfl | (simp [*]; done), Below.refl _ _⟩
set_option maxRecDepth 100000 in
theorem turn_2 (p q p2 q2 : Nat) (n : Int) (hn : bits .and .i64 n 3 = 2) (n1 : Op.negFloat .f64 p = p2) (n2 : Op.negFloat .f64 q = q2) (w : World) : Calls Try.prog 9 #[C p q, .int .i64 n] w (Out w (C p2 q2)) := by
  have fb := bits_r
  have ff := frombits_r
  go_enter Try.func9, Try.ntmps9
  go_wp2_with fail
  refine (neg_t p q p2 q2 n1 n2 _).mono ?_
  rintro e w1 ⟨rfl, b1⟩
  go_wp2
  go_ret
  exact ⟨by first | rfl | (simp [*]; done), b1⟩
set_option maxRecDepth 100000 in
theorem normal_s (x r y : Nat) (ha : (bits .andNot .u64 (x : Int) 9223372036854775808).toNat = r) (ho : (ord r 4503599627370496 == some .lt) = true) (h1 : floatBits .mul .f64 x 4841369599423283200 = some y) (w : World) : Calls Try.prog 33 #[F x] w (Out w (.tuple #[F y, .int .i64 (-52)])) := by
  have fb := bits_r
  have ff := frombits_r
  have g1 := fop_r h1
  go_enter Try.func33, Try.ntmps33
  go_wp2_with fail
  refine (abs_t x r ha _).mono ?_
  rintro e w1 ⟨rfl, b1⟩
  go_wp2
  exact bodyPost_ret (v := .tuple #[F y, .int .i64 (-52)]) (by simp [results, Try.results33, go_sem]) rfl ⟨rfl, b1⟩
set_option maxRecDepth 100000 in
theorem normal_b (x r : Nat) (ha : (bits .andNot .u64 (x : Int) 9223372036854775808).toNat = r) (ho : (ord r 4503599627370496 == some .lt) = false) (w : World) : Calls Try.prog 33 #[F x] w (Out w (.tuple #[F x, .int .i64 0])) := by
  have fb := bits_r
  have ff := frombits_r
  go_enter Try.func33, Try.ntmps33
  go_wp2_with fail
  refine (abs_t x r ha _).mono ?_
  rintro e w1 ⟨rfl, b1⟩
  go_wp2
  exact bodyPost_ret (v := .tuple #[F x, .int .i64 0]) (by simp [results, Try.results33, go_sem]) rfl ⟨rfl, b1⟩
set_option maxRecDepth 100000 in
theorem ld_0 (x : Nat) (n : Int) (h0 : (ord x 0 == some .eq) = true) (w : World) : Calls Try.prog 30 #[F x, .int .i64 n] w (Out w (F x)) := by
  have fb := bits_r
  have ff := frombits_r
  go_enter Try.func30, Try.ntmps30
  go_wp2
  go_ret
  exact ⟨by first | rfl | (simp [*]; done), Below.refl _ _⟩
set_option maxRecDepth 100000 in
theorem ld_n (x : Nat) (n : Int) (h0 : (ord x 0 == some .eq) = false) (r : Nat) (hi : (bits .andNot .u64 (x : Int) 9223372036854775808).toNat = r) (hi2 : (ord r 9218868437227405311 == some .gt) = false) (hn : (ord x x != some .eq) = true) (w : World) : Calls Try.prog 30 #[F x, .int .i64 n] w (Out w (F x)) := by
  have fb := bits_r
  have ff := frombits_r
  go_enter Try.func30, Try.ntmps30
  go_wp2_with fail
  refine (isInf_t x r false hi hi2 _).mono ?_
  rintro e w1 ⟨rfl, b1⟩
  go_wp2_with fail
  refine (isNaN_t x true hn _).mono ?_
  rintro e w2 ⟨rfl, b2⟩
  go_wp2
  go_ret
  exact ⟨by first | rfl | (simp [*]; done), b1.trans (b2.mono b1.size)⟩
set_option maxRecDepth 100000 in
theorem ld_lo (x : Nat) (n : Int) (h0 : (ord x 0 == some .eq) = false) (r : Nat) (hi : (bits .andNot .u64 (x : Int) 9223372036854775808).toNat = r) (hi2 : (ord r 9218868437227405311 == some .gt) = false) (hn : (ord x x != some .eq) = false) (y : Nat) (e : Int) (hnorm : ∀ w, Calls Try.prog 33 #[F x] w (Out w (.tuple #[F y, .int .i64 e]))) (m1 m2 m3 m4 m5 : Int) (k1 : wrap64 ((y : Int) / 4503599627370496) = m1) (k2 : bits .and .i64 m1 2047 = m2) (k3 : wrap64 (m2 - 1023) = m3) (k4 : wrap64 (n + e) = m4) (k5 : wrap64 (m4 + m3) = m5) (c1 : decide (m5 < -1075) = true) (r0 : Nat) (hr : (bits .or .u64 (bits .andNot .u64 ((0 : Nat) : Int) 9223372036854775808) (bits .and .u64 (y : Int) 9223372036854775808)).toNat = r0) (w : World) : Calls Try.prog 30 #[F x, .int .i64 n] w (Out w (F r0)) := by
  have fb := bits_r
  have ff := frombits_r
  go_enter Try.func30, Try.ntmps30
  go_wp2_with fail
  refine (isInf_t x r false hi hi2 _).mono ?_
  rintro e w1 ⟨rfl, b1⟩
  go_wp2_with fail
  refine (isNaN_t x false hn _).mono ?_
  rintro e w2 ⟨rfl, b2⟩
  go_wp2_with fail
  refine (hnorm _).mono ?_
  rintro e w3 ⟨rfl, b3⟩
  go_wp2_with fail
  refine (copysign_t 0 y r0 hr _).mono ?_
  rintro e w4 ⟨rfl, b4⟩
  go_wp2
  go_ret
  exact ⟨by first | rfl | (simp [*]; done), b1.trans ((b2.trans ((b3.trans (b4.mono b3.size)).mono b2.size)).mono b1.size)⟩
set_option maxRecDepth 100000 in
theorem ld_hi (x : Nat) (n : Int) (h0 : (ord x 0 == some .eq) = false) (r : Nat) (hi : (bits .andNot .u64 (x : Int) 9223372036854775808).toNat = r) (hi2 : (ord r 9218868437227405311 == some .gt) = false) (hn : (ord x x != some .eq) = false) (y : Nat) (e : Int) (hnorm : ∀ w, Calls Try.prog 33 #[F x] w (Out w (.tuple #[F y, .int .i64 e]))) (m1 m2 m3 m4 m5 : Int) (k1 : wrap64 ((y : Int) / 4503599627370496) = m1) (k2 : bits .and .i64 m1 2047 = m2) (k3 : wrap64 (m2 - 1023) = m3) (k4 : wrap64 (n + e) = m4) (k5 : wrap64 (m4 + m3) = m5) (c1 : decide (m5 < -1075) = false) (c2 : decide (1023 < m5) = true) (c3 : (ord y 0 == some .lt) = false) (w : World) : Calls Try.prog 30 #[F x, .int .i64 n] w (Out w (F 9218868437227405312)) := by
  have fb := bits_r
  have ff := frombits_r
  go_enter Try.func30, Try.ntmps30
  go_wp2_with fail
  refine (isInf_t x r false hi hi2 _).mono ?_
  rintro e w1 ⟨rfl, b1⟩
  go_wp2_with fail
  refine (isNaN_t x false hn _).mono ?_
  rintro e w2 ⟨rfl, b2⟩
  go_wp2_with fail
  refine (hnorm _).mono ?_
  rintro e w3 ⟨rfl, b3⟩
  go_wp2_with fail
  refine (inf_p _).mono ?_
  rintro e w4 ⟨rfl, b4⟩
  go_wp2
  go_ret
  exact ⟨by first | rfl | (simp [*]; done), b1.trans ((b2.trans ((b3.trans (b4.mono b3.size)).mono b2.size)).mono b1.size)⟩
set_option maxRecDepth 100000 in
theorem ld_hn (x : Nat) (n : Int) (h0 : (ord x 0 == some .eq) = false) (r : Nat) (hi : (bits .andNot .u64 (x : Int) 9223372036854775808).toNat = r) (hi2 : (ord r 9218868437227405311 == some .gt) = false) (hn : (ord x x != some .eq) = false) (y : Nat) (e : Int) (hnorm : ∀ w, Calls Try.prog 33 #[F x] w (Out w (.tuple #[F y, .int .i64 e]))) (m1 m2 m3 m4 m5 : Int) (k1 : wrap64 ((y : Int) / 4503599627370496) = m1) (k2 : bits .and .i64 m1 2047 = m2) (k3 : wrap64 (m2 - 1023) = m3) (k4 : wrap64 (n + e) = m4) (k5 : wrap64 (m4 + m3) = m5) (c1 : decide (m5 < -1075) = false) (c2 : decide (1023 < m5) = true) (c3 : (ord y 0 == some .lt) = true) (w : World) : Calls Try.prog 30 #[F x, .int .i64 n] w (Out w (F 18442240474082181120)) := by
  have fb := bits_r
  have ff := frombits_r
  go_enter Try.func30, Try.ntmps30
  go_wp2_with fail
  refine (isInf_t x r false hi hi2 _).mono ?_
  rintro e w1 ⟨rfl, b1⟩
  go_wp2_with fail
  refine (isNaN_t x false hn _).mono ?_
  rintro e w2 ⟨rfl, b2⟩
  go_wp2_with fail
  refine (hnorm _).mono ?_
  rintro e w3 ⟨rfl, b3⟩
  go_wp2_with fail
  refine (inf_n _).mono ?_
  rintro e w4 ⟨rfl, b4⟩
  go_wp2
  go_ret
  exact ⟨by first | rfl | (simp [*]; done), b1.trans ((b2.trans ((b3.trans (b4.mono b3.size)).mono b2.size)).mono b1.size)⟩
set_option maxRecDepth 100000 in
theorem ld_m (x : Nat) (n : Int) (h0 : (ord x 0 == some .eq) = false) (r : Nat) (hi : (bits .andNot .u64 (x : Int) 9223372036854775808).toNat = r) (hi2 : (ord r 9218868437227405311 == some .gt) = false) (hn : (ord x x != some .eq) = false) (y : Nat) (e : Int) (hnorm : ∀ w, Calls Try.prog 33 #[F x] w (Out w (.tuple #[F y, .int .i64 e]))) (m1 m2 m3 m4 m5 : Int) (k1 : wrap64 ((y : Int) / 4503599627370496) = m1) (k2 : bits .and .i64 m1 2047 = m2) (k3 : wrap64 (m2 - 1023) = m3) (k4 : wrap64 (n + e) = m4) (k5 : wrap64 (m4 + m3) = m5) (c1 : decide (m5 < -1075) = false) (c2 : decide (1023 < m5) = false) (c4 : decide (m5 < -1022) = false) (z r0 : Nat) (hz : (bits .or .u64 (bits .andNot .u64 (y : Int) 9218868437227405312) (IntKind.u64.wrap (IntKind.u64.wrap (wrap64 (m5 + 1023)) * 4503599627370496))).toNat = z) (h1 : floatBits .mul .f64 4607182418800017408 z = some r0) (w : World) : Calls Try.prog 30 #[F x, .int .i64 n] w (Out w (F r0)) := by
  have fb := bits_r
  have ff := frombits_r
  have g1 := fop_r h1
  go_enter Try.func30, Try.ntmps30
  go_wp2_with fail
  refine (isInf_t x r false hi hi2 _).mono ?_
  rintro e w1 ⟨rfl, b1⟩
  go_wp2_with fail
  refine (isNaN_t x false hn _).mono ?_
  rintro e w2 ⟨rfl, b2⟩
  go_wp2_with fail
  refine (hnorm _).mono ?_
  rintro e w3 ⟨rfl, b3⟩
  go_wp2
  go_ret
  exact ⟨by first | rfl | (simp [*]; done), b1.trans ((b2.trans (b3.mono b2.size)).mono b1.size)⟩
set_option maxRecDepth 100000 in
theorem ld_s (x : Nat) (n : Int) (h0 : (ord x 0 == some .eq) = false) (r : Nat) (hi : (bits .andNot .u64 (x : Int) 9223372036854775808).toNat = r) (hi2 : (ord r 9218868437227405311 == some .gt) = false) (hn : (ord x x != some .eq) = false) (y : Nat) (e : Int) (hnorm : ∀ w, Calls Try.prog 33 #[F x] w (Out w (.tuple #[F y, .int .i64 e]))) (m1 m2 m3 m4 m5 : Int) (k1 : wrap64 ((y : Int) / 4503599627370496) = m1) (k2 : bits .and .i64 m1 2047 = m2) (k3 : wrap64 (m2 - 1023) = m3) (k4 : wrap64 (n + e) = m4) (k5 : wrap64 (m4 + m3) = m5) (c1 : decide (m5 < -1075) = false) (c2 : decide (1023 < m5) = false) (c4 : decide (m5 < -1022) = true) (z r0 : Nat) (hz : (bits .or .u64 (bits .andNot .u64 (y : Int) 9218868437227405312) (IntKind.u64.wrap (IntKind.u64.wrap (wrap64 (wrap64 (m5 + 53) + 1023)) * 4503599627370496))).toNat = z) (h1 : floatBits .mul .f64 4368491638549381120 z = some r0) (w : World) : Calls Try.prog 30 #[F x, .int .i64 n] w (Out w (F r0)) := by
  have fb := bits_r
  have ff := frombits_r
  have g1 := fop_r h1
  go_enter Try.func30, Try.ntmps30
  go_wp2_with fail
  refine (isInf_t x r false hi hi2 _).mono ?_
  rintro e w1 ⟨rfl, b1⟩
  go_wp2_with fail
  refine (isNaN_t x false hn _).mono ?_
  rintro e w2 ⟨rfl, b2⟩
  go_wp2_with fail
  refine (hnorm _).mono ?_
  rintro e w3 ⟨rfl, b3⟩
  go_wp2
  go_ret
  exact ⟨by first | rfl | (simp [*]; done), b1.trans ((b2.trans (b3.mono b2.size)).mono b1.size)⟩
set_option maxRecDepth 100000 in
theorem Ld_t (x r0 : Nat) (n : Int) (h : ∀ w, Calls Try.prog 30 #[F x, .int .i64 n] w (Out w (F r0))) (w : World) : Calls Try.prog 24 #[F x, .int .i64 n] w (Out w (F r0)) := by
  have fb := bits_r
  have ff := frombits_r
  go_enter Try.func24, Try.ntmps24
  go_wp2_with fail
  refine (h _).mono ?_
  rintro e w1 ⟨rfl, b1⟩
  go_wp2
  go_ret
  exact ⟨by first | rfl | (simp [*]; done), b1⟩
set_option maxRecDepth 100000 in
theorem scale_m (p q x y : Nat) (n : Int) (a1 : ¬ 4000 < n) (a2 : ¬ n < -4000) (h1 : ∀ w, Calls Try.prog 24 #[F p, .int .i64 n] w (Out w (F x))) (h2 : ∀ w, Calls Try.prog 24 #[F q, .int .i64 n] w (Out w (F y))) (w : World) : Calls Try.prog 11 #[C p q, .int .i64 n] w (Out w (C x y)) := by
  have fb := bits_r
  have ff := frombits_r
  go_enter Try.func11, Try.ntmps11
  go_wp2_with fail
  refine (h1 _).mono ?_
  rintro e w1 ⟨rfl, b1⟩
  go_wp2_with fail
  refine (h2 _).mono ?_
  rintro e w2 ⟨rfl, b2⟩
  go_wp2
  go_ret
  exact ⟨by first | rfl | (simp [*]; done), b1.trans (b2.mono b1.size)⟩
set_option maxRecDepth 100000 in
theorem scale_l (p q x y : Nat) (n : Int) (a1 : ¬ 4000 < n) (a2 : n < -4000) (h1 : ∀ w, Calls Try.prog 24 #[F p, .int .i64 (-4000)] w (Out w (F x))) (h2 : ∀ w, Calls Try.prog 24 #[F q, .int .i64 (-4000)] w (Out w (F y))) (w : World) : Calls Try.prog 11 #[C p q, .int .i64 n] w (Out w (C x y)) := by
  have fb := bits_r
  have ff := frombits_r
  go_enter Try.func11, Try.ntmps11
  go_wp2_with fail
  refine (h1 _).mono ?_
  rintro e w1 ⟨rfl, b1⟩
  go_wp2_with fail
  refine (h2 _).mono ?_
  rintro e w2 ⟨rfl, b2⟩
  go_wp2
  go_ret
  exact ⟨by first | rfl | (simp [*]; done), b1.trans (b2.mono b1.size)⟩
set_option maxRecDepth 100000 in
theorem scale_h (p q x y : Nat) (n : Int) (a1 : 4000 < n) (h1 : ∀ w, Calls Try.prog 24 #[F p, .int .i64 4000] w (Out w (F x))) (h2 : ∀ w, Calls Try.prog 24 #[F q, .int .i64 4000] w (Out w (F y))) (w : World) : Calls Try.prog 11 #[C p q, .int .i64 n] w (Out w (C x y)) := by
  have fb := bits_r
  have ff := frombits_r
  go_enter Try.func11, Try.ntmps11
  go_wp2_with fail
  refine (h1 _).mono ?_
  rintro e w1 ⟨rfl, b1⟩
  go_wp2_with fail
  refine (h2 _).mono ?_
  rintro e w2 ⟨rfl, b2⟩
  go_wp2
  go_ret
  exact ⟨by first | rfl | (simp [*]; done), b1.trans (b2.mono b1.size)⟩
/-- No number. -/
def isN (r : Nat) : Prop := ∃ s f, FloatKind.f64.format.read r = .nan s f
theorem isN_ord {r : Nat} (h : isN r) (y : Nat) : ord r y = none := by
  obtain ⟨s, f, h⟩ := h
  unfold ord Ieee.Format.order
  rw [h]
  rfl
theorem isN_ne {r : Nat} (h : isN r) : (ord r r != some .eq) = true := by rw [isN_ord h]; rfl
theorem isN_cut (t : Nat) (k k2 : Nat) : isN (Question.cut (.nanBits .f64 k k2) t) := by
  have e : Question.cut (.nanBits .f64 k k2) t = (t % 2) * 9223372036854775808 + 9218868437227405312 + 1 + (t / 2) % 4503599627370495 := rfl
  have ha : t % 2 < 2 := Nat.mod_lt _ (by omega)
  have hm : t / 2 % 4503599627370495 < 4503599627370495 := Nat.mod_lt _ (by omega)
  rw [e]
  generalize t % 2 = a at ha
  generalize t / 2 % 4503599627370495 = m at hm
  clear e
  unfold isN Ieee.Format.read
  have e1 : (FloatKind.f64.format).signWeight = 9223372036854775808 := rfl
  have e2 : (FloatKind.f64.format).binade = 4503599627370496 := rfl
  have e3 : (FloatKind.f64.format).infRung = 9218868437227405312 := rfl
  simp only [e1, e2, e3]
  have hr : (a * 9223372036854775808 + 9218868437227405312 + 1 + m) % 9223372036854775808 = 9218868437227405313 + m := by omega
  rw [hr, if_neg (by omega), if_neg (by omega), if_neg (by omega)]
  exact ⟨_, _, rfl⟩
theorem nan_r {op : BinOp} {x y : Nat} (hop : op = .add ∨ op = .sub ∨ op = .mul) (h : floatBits op .f64 x y = none) (w : World) : ∃ r, isN r ∧ (binOp op 22 (.float .f64 x) (.float .f64 y)).run Try.prog w = .ok (.float .f64 r) w.drew := by
  refine ⟨Question.cut (.nanBits .f64 x y) (w.tape w.drawn (.nanBits .f64 x y)), isN_cut _ _ _, ?_⟩
  rcases hop with rfl | rfl | rfl
  all_goals
    simp only [floatBits] at h
    simp [binOp, Op.floatArith, h]
    exact fun hh => by cases hh
theorem drewB (w : World) : Below w.heap.size w w.drew := (Below.refl _ _).drew
set_option maxRecDepth 100000 in
theorem finite_1 (p q x : Nat) (h1 : floatBits .sub .f64 p p = some x) (hx : (ord x 0 == some .eq) = true) (h2 : floatBits .sub .f64 q q = none) (w : World) : Calls Try.prog 18 #[C p q] w (Out w (.bool false)) := by
  have fb := bits_r
  have ff := frombits_r
  have g1 := fop_r h1
  obtain ⟨r, hr, g2⟩ := nan_r (.inr (.inl rfl)) h2 w
  have g3 : (ord r 0 == some .eq) = false := by rw [isN_ord hr]; rfl
  go_enter Try.func18, Try.ntmps18
  go_wp2
  go_ret
  exact ⟨by first | rfl | (simp [*]; done), drewB w⟩
set_option maxRecDepth 100000 in
theorem finite_2 (p q : Nat) (h2 : floatBits .sub .f64 p p = none) (w : World) : Calls Try.prog 18 #[C p q] w (Out w (.bool false)) := by
  have fb := bits_r
  have ff := frombits_r
  obtain ⟨r, hr, g2⟩ := nan_r (.inr (.inl rfl)) h2 w
  have g3 : (ord r 0 == some .eq) = false := by rw [isN_ord hr]; rfl
  go_enter Try.func18, Try.ntmps18
  go_wp2
  go_ret
  exact ⟨by first | rfl | (simp [*]; done), drewB w⟩
set_option maxRecDepth 100000 in
theorem size_n (p q r1 r2 : Nat) (e1 : (bits .andNot .u64 (p : Int) 9223372036854775808).toNat = r1) (e2 : (bits .andNot .u64 (q : Int) 9223372036854775808).toNat = r2) (h : floatBits .add .f64 r1 r2 = none) (w : World) : Calls Try.prog 16 #[C p q] w (fun e w' => ∃ r, isN r ∧ e = .returned (F r) ∧ Below w.heap.size w w') := by
  go_enter Try.func16, Try.ntmps16
  go_wp2_with fail
  refine (abs_t p r1 e1 _).mono ?_
  rintro e w1 ⟨rfl, b1⟩
  go_wp2_with fail
  refine (abs_t q r2 e2 _).mono ?_
  rintro e w2 ⟨rfl, b2⟩
  obtain ⟨r, hr, g2⟩ := nan_r (.inl rfl) h w2
  go_wp2
  go_ret
  exact ⟨r, hr, rfl, b1.trans ((b2.trans ((drewB w2).mono b2.size)).mono b1.size)⟩
set_option maxRecDepth 100000 in
theorem mul_1 (p q c d r1 r2 x r4 : Nat) (h1 : floatBits .mul .f64 p c = some r1) (h2 : floatBits .mul .f64 q d = some r2) (h3 : floatBits .sub .f64 r1 r2 = some x) (h4 : floatBits .mul .f64 p d = none) (h5 : floatBits .mul .f64 q c = some r4) (h6 : ∀ r, isN r → floatBits .add .f64 r r4 = none) (w : World) : Calls Try.prog 8 #[C p q, C c d] w (fun e w' => ∃ r, isN r ∧ e = .returned (C x r) ∧ Below w.heap.size w w') := by
  have g1 := fop_r h1
  have g2 := fop_r h2
  have g3 := fop_r h3
  obtain ⟨ra, ha, g4⟩ := nan_r (.inr (.inr rfl)) h4 w
  have g5 := fop_r h5
  obtain ⟨rb, hb, g6⟩ := nan_r (.inl rfl) (h6 ra ha) w.drew
  go_enter Try.func8, Try.ntmps8
  go_wp2
  go_ret
  exact ⟨rb, hb, rfl, (drewB w).trans (drewB w.drew)⟩
set_option maxRecDepth 100000 in
theorem mul_2 (p q c d r1 r3 r4 y : Nat) (h1 : floatBits .mul .f64 p c = some r1) (h2 : floatBits .mul .f64 q d = none) (h3 : ∀ r, isN r → floatBits .sub .f64 r1 r = none) (h4 : floatBits .mul .f64 p d = some r3) (h5 : floatBits .mul .f64 q c = some r4) (h6 : floatBits .add .f64 r3 r4 = some y) (w : World) : Calls Try.prog 8 #[C p q, C c d] w (fun e w' => ∃ r, isN r ∧ e = .returned (C r y) ∧ Below w.heap.size w w') := by
  have g1 := fop_r h1
  obtain ⟨ra, ha, g2⟩ := nan_r (.inr (.inr rfl)) h2 w
  obtain ⟨rb, hb, g3⟩ := nan_r (.inr (.inl rfl)) (h3 ra ha) w.drew
  have g4 := fop_r h4
  have g5 := fop_r h5
  have g6 := fop_r h6
  go_enter Try.func8, Try.ntmps8
  go_wp2
  go_ret
  exact ⟨rb, hb, rfl, (drewB w).trans (drewB w.drew)⟩
theorem isN_add {r : Nat} (h : isN r) (y : Nat) : floatBits .add .f64 r y = none := by
  obtain ⟨s, f, h⟩ := h
  simp only [floatBits, Ieee.Format.add]
  rw [h]
  rfl
theorem isN_sub {r : Nat} (h : isN r) (x : Nat) (hx : ∃ s, FloatKind.f64.format.read x = .infinity s) : floatBits .sub .f64 x r = none := by
  obtain ⟨s, f, h⟩ := h
  obtain ⟨s2, hx⟩ := hx
  simp only [floatBits, Ieee.Format.sub]
  rw [h, hx]
  rfl
end Go.Proofs.Ytkgaclkbnakceaa.Pn
