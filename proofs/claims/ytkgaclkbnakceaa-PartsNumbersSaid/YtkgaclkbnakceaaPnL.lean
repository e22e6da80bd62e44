/- parts: PartsNumbers: the chapter's numbers: the walk. -/
import Derived.Test.YtkgaclkbnakceaaPnJ
namespace Go.Proofs.Ytkgaclkbnakceaa.Pn
open Go.RowKit Go.Proofs.YtkgaclkbnakceaaW.PrintWords Go.Proofs.YtkgaclkbnakceaaW.PrintLast Go.Proofs.YtkgaclkbnakceaaW.PrintMore
set_option linter.unusedVariables false
set_option linter.unusedSimpArgs false

theorem L0 (w : World) : Calls Try.prog 24 #[F 4613937818241073152, .int .i64 (-1)] w (Out w (F 4609434218613702656)) := Ld_t 4613937818241073152 4609434218613702656 (-1) (fun w => ld_m 4613937818241073152 (-1) (by kernel_rfl) 4613937818241073152 (by kernel_rfl) (by kernel_rfl) (by kernel_rfl) 4613937818241073152 0 (fun w => normal_b 4613937818241073152 4613937818241073152 (by kernel_rfl) (by kernel_rfl) w) 1024 1024 1 (-1) 0 (by kernel_rfl) (by kernel_rfl) (by kernel_rfl) (by kernel_rfl) (by kernel_rfl) (by kernel_rfl) (by kernel_rfl) (by kernel_rfl) 4609434218613702656 4609434218613702656 (by kernel_rfl) (by kernel_rfl) w) w
theorem L1 (w : World) : Calls Try.prog 24 #[F 9223372036854775808, .int .i64 (-1)] w (Out w (F 9223372036854775808)) := Ld_t 9223372036854775808 9223372036854775808 (-1) (fun w => ld_0 9223372036854775808 (-1) (by kernel_rfl) w) w
theorem L2 (w : World) : Calls Try.prog 24 #[F 1, .int .i64 (-1)] w (Out w (F 0)) := Ld_t 1 0 (-1) (fun w => ld_s 1 (-1) (by kernel_rfl) 1 (by kernel_rfl) (by kernel_rfl) (by kernel_rfl) 4503599627370496 (-52) (fun w => normal_s 1 1 4503599627370496 (by kernel_rfl) (by kernel_rfl) (by kernel_rfl) w) 1 1 (-1022) (-53) (-1075) (by kernel_rfl) (by kernel_rfl) (by kernel_rfl) (by kernel_rfl) (by kernel_rfl) (by kernel_rfl) (by kernel_rfl) (by kernel_rfl) 4503599627370496 0 (by kernel_rfl) (by kernel_rfl) w) w
theorem L3 (w : World) : Calls Try.prog 24 #[F 3, .int .i64 (-1)] w (Out w (F 2)) := Ld_t 3 2 (-1) (fun w => ld_s 3 (-1) (by kernel_rfl) 3 (by kernel_rfl) (by kernel_rfl) (by kernel_rfl) 11258999068426240 (-52) (fun w => normal_s 3 3 11258999068426240 (by kernel_rfl) (by kernel_rfl) (by kernel_rfl) w) 2 2 (-1021) (-53) (-1074) (by kernel_rfl) (by kernel_rfl) (by kernel_rfl) (by kernel_rfl) (by kernel_rfl) (by kernel_rfl) (by kernel_rfl) (by kernel_rfl) 11258999068426240 2 (by kernel_rfl) (by kernel_rfl) w) w
theorem L4 (w : World) : Calls Try.prog 24 #[F 4607182418800017408, .int .i64 1024] w (Out w (F 9218868437227405312)) := Ld_t 4607182418800017408 9218868437227405312 1024 (fun w => ld_hi 4607182418800017408 1024 (by kernel_rfl) 4607182418800017408 (by kernel_rfl) (by kernel_rfl) (by kernel_rfl) 4607182418800017408 0 (fun w => normal_b 4607182418800017408 4607182418800017408 (by kernel_rfl) (by kernel_rfl) w) 1023 1023 0 1024 1024 (by kernel_rfl) (by kernel_rfl) (by kernel_rfl) (by kernel_rfl) (by kernel_rfl) (by kernel_rfl) (by kernel_rfl) (by kernel_rfl) w) w
theorem L5 (w : World) : Calls Try.prog 24 #[F 13830554455654793216, .int .i64 1024] w (Out w (F 18442240474082181120)) := Ld_t 13830554455654793216 18442240474082181120 1024 (fun w => ld_hn 13830554455654793216 1024 (by kernel_rfl) 4607182418800017408 (by kernel_rfl) (by kernel_rfl) (by kernel_rfl) 13830554455654793216 0 (fun w => normal_b 13830554455654793216 4607182418800017408 (by kernel_rfl) (by kernel_rfl) w) 3071 1023 0 1024 1024 (by kernel_rfl) (by kernel_rfl) (by kernel_rfl) (by kernel_rfl) (by kernel_rfl) (by kernel_rfl) (by kernel_rfl) (by kernel_rfl) w) w
theorem L6 (w : World) : Calls Try.prog 24 #[F 9223372036854775809, .int .i64 (-4000)] w (Out w (F 9223372036854775808)) := Ld_t 9223372036854775809 9223372036854775808 (-4000) (fun w => ld_lo 9223372036854775809 (-4000) (by kernel_rfl) 1 (by kernel_rfl) (by kernel_rfl) (by kernel_rfl) 9227875636482146304 (-52) (fun w => normal_s 9223372036854775809 1 9227875636482146304 (by kernel_rfl) (by kernel_rfl) (by kernel_rfl) w) 2049 1 (-1022) (-4052) (-5074) (by kernel_rfl) (by kernel_rfl) (by kernel_rfl) (by kernel_rfl) (by kernel_rfl) (by kernel_rfl) 9223372036854775808 (by kernel_rfl) w) w
theorem L7 (w : World) : Calls Try.prog 24 #[F 4607182418800017408, .int .i64 (-4000)] w (Out w (F 0)) := Ld_t 4607182418800017408 0 (-4000) (fun w => ld_lo 4607182418800017408 (-4000) (by kernel_rfl) 4607182418800017408 (by kernel_rfl) (by kernel_rfl) (by kernel_rfl) 4607182418800017408 0 (fun w => normal_b 4607182418800017408 4607182418800017408 (by kernel_rfl) (by kernel_rfl) w) 1023 1023 0 (-4000) (-4000) (by kernel_rfl) (by kernel_rfl) (by kernel_rfl) (by kernel_rfl) (by kernel_rfl) (by kernel_rfl) 0 (by kernel_rfl) w) w
theorem L8 (w : World) : Calls Try.prog 24 #[F 1, .int .i64 4000] w (Out w (F 9218868437227405312)) := Ld_t 1 9218868437227405312 4000 (fun w => ld_hi 1 4000 (by kernel_rfl) 1 (by kernel_rfl) (by kernel_rfl) (by kernel_rfl) 4503599627370496 (-52) (fun w => normal_s 1 1 4503599627370496 (by kernel_rfl) (by kernel_rfl) (by kernel_rfl) w) 1 1 (-1022) 3948 2926 (by kernel_rfl) (by kernel_rfl) (by kernel_rfl) (by kernel_rfl) (by kernel_rfl) (by kernel_rfl) (by kernel_rfl) (by kernel_rfl) w) w
theorem L9 (w : World) : Calls Try.prog 24 #[F 9221120237041090561, .int .i64 4000] w (Out w (F 9221120237041090561)) := Ld_t 9221120237041090561 9221120237041090561 4000 (fun w => ld_n 9221120237041090561 4000 (by kernel_rfl) 9221120237041090561 (by kernel_rfl) (by kernel_rfl) (by kernel_rfl) w) w
theorem L10 (w : World) : Calls Try.prog 24 #[F 1, .int .i64 2097] w (Out w (F 9214364837600034816)) := Ld_t 1 9214364837600034816 2097 (fun w => ld_m 1 2097 (by kernel_rfl) 1 (by kernel_rfl) (by kernel_rfl) (by kernel_rfl) 4503599627370496 (-52) (fun w => normal_s 1 1 4503599627370496 (by kernel_rfl) (by kernel_rfl) (by kernel_rfl) w) 1 1 (-1022) 2045 1023 (by kernel_rfl) (by kernel_rfl) (by kernel_rfl) (by kernel_rfl) (by kernel_rfl) (by kernel_rfl) (by kernel_rfl) (by kernel_rfl) 9214364837600034816 9214364837600034816 (by kernel_rfl) (by kernel_rfl) w) w
theorem L11 (w : World) : Calls Try.prog 24 #[F 0, .int .i64 2097] w (Out w (F 0)) := Ld_t 0 0 2097 (fun w => ld_0 0 2097 (by kernel_rfl) w) w
theorem L12 (w : World) : Calls Try.prog 24 #[F 126100789566377984, .int .i64 (-80)] w (Out w (F 1)) := Ld_t 126100789566377984 1 (-80) (fun w => ld_s 126100789566377984 (-80) (by kernel_rfl) 126100789566377984 (by kernel_rfl) (by kernel_rfl) (by kernel_rfl) 126100789566377984 0 (fun w => normal_b 126100789566377984 126100789566377984 (by kernel_rfl) (by kernel_rfl) w) 28 28 (-995) (-80) (-1075) (by kernel_rfl) (by kernel_rfl) (by kernel_rfl) (by kernel_rfl) (by kernel_rfl) (by kernel_rfl) (by kernel_rfl) (by kernel_rfl) 4503599627374592 1 (by kernel_rfl) (by kernel_rfl) w) w
theorem L13 (w : World) : Calls Try.prog 24 #[F 0, .int .i64 (-80)] w (Out w (F 0)) := Ld_t 0 0 (-80) (fun w => ld_0 0 (-80) (by kernel_rfl) w) w
set_option maxRecDepth 100000 in
set_option maxHeartbeats 4000000 in
theorem awake_c (w : World) : Calls Try.prog 20 #[] w (Out w (.bool true)) := by
  have fb := bits_r
  have ff := frombits_r
  have HB := Aside0.mk (Below.refl w.heap.size w)
  go_enter Try.func20, Try.ntmps20
  go_wp2_with fail
  refine (mul_t 4607182418800017408 4611686018427387904 4613937818241073152 4616189618054758400 4613937818241073152 4620693217682128896 4616189618054758400 4618441417868443648 13840687554816376832 4621819117588971520 (by kernel_rfl) (by kernel_rfl) (by kernel_rfl) (by kernel_rfl) (by kernel_rfl) (by kernel_rfl) _).mono ?_
  rintro e w1_ ⟨rfl, b⟩
  replace HB := Aside0.mk (below_then HB.out HB.out.size b)
  clear b
  go_wp2_with fail
  refine (pSame_tt 13840687554816376832 4621819117588971520 13840687554816376832 4621819117588971520 (psame_e 13840687554816376832) (psame_e 4621819117588971520) _).mono ?_
  rintro e w2_ ⟨rfl, b⟩
  replace HB := Aside0.mk (below_then HB.out HB.out.size b)
  clear b
  go_wp2_with fail
  refine (copysign_t 0 13830554455654793216 9223372036854775808 (by kernel_rfl) _).mono ?_
  rintro e w3_ ⟨rfl, b⟩
  replace HB := Aside0.mk (below_then HB.out HB.out.size b)
  clear b
  go_wp2_with fail
  refine (pSame_tf 0 0 0 9223372036854775808 (psame_e 0) (psame_f 0 9223372036854775808 (by kernel_rfl) (by kernel_rfl)) _).mono ?_
  rintro e w4_ ⟨rfl, b⟩
  replace HB := Aside0.mk (below_then HB.out HB.out.size b)
  clear b
  go_wp2_with fail
  refine (size_t 4613937818241073152 13839561654909534208 4613937818241073152 4616189618054758400 4619567317775286272 (by kernel_rfl) (by kernel_rfl) (by kernel_rfl) _).mono ?_
  rintro e w5_ ⟨rfl, b⟩
  replace HB := Aside0.mk (below_then HB.out HB.out.size b)
  clear b
  have o7 : (FloatKind.f64.format.order 4619567317775286272 4619567317775286272 == some .eq) = true := by kernel_rfl
  go_wp2
  go_ret
  exact ⟨by first | rfl | (simp [*]; done), HB.out⟩
set_option maxRecDepth 100000 in
set_option maxHeartbeats 4000000 in
theorem numbers_c (w : World) : Calls Try.prog 3 #[] w (Out w (.bool true)) := by
  have fb := bits_r
  have ff := frombits_r
  have HB := Aside0.mk (Below.refl w.heap.size w)
  have ninf := fun w => neg_r (show Op.negFloat .f64 9218868437227405312 = 18442240474082181120 by kernel_rfl) w
  go_enter Try.func3, Try.ntmps3
  go_wp2_with fail
  refine (copysign_t 0 13830554455654793216 9223372036854775808 (by kernel_rfl) _).mono ?_
  rintro e w1_ ⟨rfl, b⟩
  replace HB := Aside0.mk (below_then HB.out HB.out.size b)
  clear b
  go_wp2_with fail
  refine (inf_p _).mono ?_
  rintro e w2_ ⟨rfl, b⟩
  replace HB := Aside0.mk (below_then HB.out HB.out.size b)
  clear b
  go_wp2_with fail
  refine (nan_t _).mono ?_
  rintro e w3_ ⟨rfl, b⟩
  replace HB := Aside0.mk (below_then HB.out HB.out.size b)
  clear b
  go_wp2_with fail
  refine (mul_t 0 4607182418800017408 0 4607182418800017408 0 4607182418800017408 0 0 13830554455654793216 0 (by kernel_rfl) (by kernel_rfl) (by kernel_rfl) (by kernel_rfl) (by kernel_rfl) (by kernel_rfl) _).mono ?_
  rintro e w4_ ⟨rfl, b⟩
  replace HB := Aside0.mk (below_then HB.out HB.out.size b)
  clear b
  go_wp2_with fail
  refine (same_t 13830554455654793216 0 13830554455654793216 0 (.inl rfl) (.inl rfl) _).mono ?_
  rintro e w5_ ⟨rfl, b⟩
  replace HB := Aside0.mk (below_then HB.out HB.out.size b)
  clear b
  go_wp2_with fail
  refine (mul_1 9218868437227405312 0 4607182418800017408 0 9218868437227405312 0 9218868437227405312 0 (by kernel_rfl) (by kernel_rfl) (by kernel_rfl) (by kernel_rfl) (by kernel_rfl) (fun r hr => isN_add hr _) _).mono ?_
  rintro e w6_ ⟨rA, hrA, rfl, b⟩
  replace HB := Aside0.mk (below_then HB.out HB.out.size b)
  clear b
  go_wp2_with fail
  refine (same_t 9218868437227405312 rA 9218868437227405312 9221120237041090561 (.inl rfl) (.inr ⟨isN_ne hrA, (by kernel_rfl)⟩) _).mono ?_
  rintro e w7_ ⟨rfl, b⟩
  replace HB := Aside0.mk (below_then HB.out HB.out.size b)
  clear b
  go_wp2_with fail
  refine (mul_t 9223372036854775808 0 4607182418800017408 0 9223372036854775808 0 9223372036854775808 0 9223372036854775808 0 (by kernel_rfl) (by kernel_rfl) (by kernel_rfl) (by kernel_rfl) (by kernel_rfl) (by kernel_rfl) _).mono ?_
  rintro e w8_ ⟨rfl, b⟩
  replace HB := Aside0.mk (below_then HB.out HB.out.size b)
  clear b
  go_wp2_with fail
  refine (same_t 9223372036854775808 0 9223372036854775808 0 (.inl rfl) (.inl rfl) _).mono ?_
  rintro e w9_ ⟨rfl, b⟩
  replace HB := Aside0.mk (below_then HB.out HB.out.size b)
  clear b
  go_wp2_with fail
  refine (turn_1 4607182418800017408 0 9223372036854775808 1 (by kernel_rfl) (by kernel_rfl) _).mono ?_
  rintro e w10_ ⟨rfl, b⟩
  replace HB := Aside0.mk (below_then HB.out HB.out.size b)
  clear b
  go_wp2_with fail
  refine (same_t 9223372036854775808 4607182418800017408 9223372036854775808 4607182418800017408 (.inl rfl) (.inl rfl) _).mono ?_
  rintro e w11_ ⟨rfl, b⟩
  replace HB := Aside0.mk (below_then HB.out HB.out.size b)
  clear b
  go_wp2_with fail
  refine (turn_3 4607182418800017408 0 13830554455654793216 (-1) (by kernel_rfl) (by kernel_rfl) _).mono ?_
  rintro e w12_ ⟨rfl, b⟩
  replace HB := Aside0.mk (below_then HB.out HB.out.size b)
  clear b
  go_wp2_with fail
  refine (same_t 0 13830554455654793216 0 13830554455654793216 (.inl rfl) (.inl rfl) _).mono ?_
  rintro e w13_ ⟨rfl, b⟩
  replace HB := Aside0.mk (below_then HB.out HB.out.size b)
  clear b
  go_wp2_with fail
  refine (turn_2 4607182418800017408 0 13830554455654793216 9223372036854775808 2 (by kernel_rfl) (by kernel_rfl) (by kernel_rfl) _).mono ?_
  rintro e w14_ ⟨rfl, b⟩
  replace HB := Aside0.mk (below_then HB.out HB.out.size b)
  clear b
  go_wp2_with fail
  refine (same_t 13830554455654793216 9223372036854775808 13830554455654793216 9223372036854775808 (.inl rfl) (.inl rfl) _).mono ?_
  rintro e w15_ ⟨rfl, b⟩
  replace HB := Aside0.mk (below_then HB.out HB.out.size b)
  clear b
  go_wp2_with fail
  refine (turn_0 4607182418800017408 0 (-9223372036854775808) (by kernel_rfl) _).mono ?_
  rintro e w16_ ⟨rfl, b⟩
  replace HB := Aside0.mk (below_then HB.out HB.out.size b)
  clear b
  go_wp2_with fail
  refine (same_t 4607182418800017408 0 4607182418800017408 0 (.inl rfl) (.inl rfl) _).mono ?_
  rintro e w17_ ⟨rfl, b⟩
  replace HB := Aside0.mk (below_then HB.out HB.out.size b)
  clear b
  go_wp2_with fail
  refine (conj_t 4607182418800017408 0 9223372036854775808 (by kernel_rfl) _).mono ?_
  rintro e w18_ ⟨rfl, b⟩
  replace HB := Aside0.mk (below_then HB.out HB.out.size b)
  clear b
  go_wp2_with fail
  refine (same_t 4607182418800017408 9223372036854775808 4607182418800017408 9223372036854775808 (.inl rfl) (.inl rfl) _).mono ?_
  rintro e w19_ ⟨rfl, b⟩
  replace HB := Aside0.mk (below_then HB.out HB.out.size b)
  clear b
  go_wp2_with fail
  refine (scale_m 4613937818241073152 9223372036854775808 4609434218613702656 9223372036854775808 (-1) (by omega) (by omega) L0 L1 _).mono ?_
  rintro e w20_ ⟨rfl, b⟩
  replace HB := Aside0.mk (below_then HB.out HB.out.size b)
  clear b
  go_wp2_with fail
  refine (same_t 4609434218613702656 9223372036854775808 4609434218613702656 9223372036854775808 (.inl rfl) (.inl rfl) _).mono ?_
  rintro e w21_ ⟨rfl, b⟩
  replace HB := Aside0.mk (below_then HB.out HB.out.size b)
  clear b
  go_wp2_with fail
  refine (scale_m 1 3 0 2 (-1) (by omega) (by omega) L2 L3 _).mono ?_
  rintro e w22_ ⟨rfl, b⟩
  replace HB := Aside0.mk (below_then HB.out HB.out.size b)
  clear b
  go_wp2_with fail
  refine (same_t 0 2 0 2 (.inl rfl) (.inl rfl) _).mono ?_
  rintro e w23_ ⟨rfl, b⟩
  replace HB := Aside0.mk (below_then HB.out HB.out.size b)
  clear b
  go_wp2_with fail
  refine (scale_m 4607182418800017408 13830554455654793216 9218868437227405312 18442240474082181120 1024 (by omega) (by omega) L4 L5 _).mono ?_
  rintro e w24_ ⟨rfl, b⟩
  replace HB := Aside0.mk (below_then HB.out HB.out.size b)
  clear b
  go_wp2_with fail
  refine (same_t 9218868437227405312 18442240474082181120 9218868437227405312 18442240474082181120 (.inl rfl) (.inl rfl) _).mono ?_
  rintro e w25_ ⟨rfl, b⟩
  replace HB := Aside0.mk (below_then HB.out HB.out.size b)
  clear b
  go_wp2_with fail
  refine (scale_l 9223372036854775809 4607182418800017408 9223372036854775808 0 (-9223372036854775808) (by omega) (by omega) L6 L7 _).mono ?_
  rintro e w26_ ⟨rfl, b⟩
  replace HB := Aside0.mk (below_then HB.out HB.out.size b)
  clear b
  go_wp2_with fail
  refine (same_t 9223372036854775808 0 9223372036854775808 0 (.inl rfl) (.inl rfl) _).mono ?_
  rintro e w27_ ⟨rfl, b⟩
  replace HB := Aside0.mk (below_then HB.out HB.out.size b)
  clear b
  go_wp2_with fail
  refine (scale_h 1 9221120237041090561 9218868437227405312 9221120237041090561 9223372036854775807 (by omega) L8 L9 _).mono ?_
  rintro e w28_ ⟨rfl, b⟩
  replace HB := Aside0.mk (below_then HB.out HB.out.size b)
  clear b
  go_wp2_with fail
  refine (same_t 9218868437227405312 9221120237041090561 9218868437227405312 9221120237041090561 (.inl rfl) (.inl rfl) _).mono ?_
  rintro e w29_ ⟨rfl, b⟩
  replace HB := Aside0.mk (below_then HB.out HB.out.size b)
  clear b
  go_wp2_with fail
  refine (scale_m 1 0 9214364837600034816 0 2097 (by omega) (by omega) L10 L11 _).mono ?_
  rintro e w30_ ⟨rfl, b⟩
  replace HB := Aside0.mk (below_then HB.out HB.out.size b)
  clear b
  go_wp2_with fail
  refine (same_t 9214364837600034816 0 9214364837600034816 0 (.inl rfl) (.inl rfl) _).mono ?_
  rintro e w31_ ⟨rfl, b⟩
  replace HB := Aside0.mk (below_then HB.out HB.out.size b)
  clear b
  go_wp2_with fail
  refine (mul_2 9218868437227405312 0 4607182418800017408 9218868437227405312 9218868437227405312 9218868437227405312 0 9218868437227405312 (by kernel_rfl) (by kernel_rfl) (fun r hr => isN_sub hr _ ⟨false, by kernel_rfl⟩) (by kernel_rfl) (by kernel_rfl) (by kernel_rfl) _).mono ?_
  rintro e w32_ ⟨rB, hrB, rfl, b⟩
  replace HB := Aside0.mk (below_then HB.out HB.out.size b)
  clear b
  go_wp2_with fail
  refine (same_t rB 9218868437227405312 9221120237041090561 9218868437227405312 (.inr ⟨isN_ne hrB, (by kernel_rfl)⟩) (.inl rfl) _).mono ?_
  rintro e w33_ ⟨rfl, b⟩
  replace HB := Aside0.mk (below_then HB.out HB.out.size b)
  clear b
  go_wp2_with fail
  refine (scale_m 126100789566377984 0 1 0 (-80) (by omega) (by omega) L12 L13 _).mono ?_
  rintro e w34_ ⟨rfl, b⟩
  replace HB := Aside0.mk (below_then HB.out HB.out.size b)
  clear b
  go_wp2_with fail
  refine (same_t 1 0 1 0 (.inl rfl) (.inl rfl) _).mono ?_
  rintro e w35_ ⟨rfl, b⟩
  replace HB := Aside0.mk (below_then HB.out HB.out.size b)
  clear b
  go_wp2_with fail
  refine (pSame_tt 9221120237041090561 4607182418800017408 9221120237041090565 4607182418800017408 (psame_n 9221120237041090561 9221120237041090565 (by kernel_rfl) (by kernel_rfl) (by kernel_rfl)) (psame_e 4607182418800017408) _).mono ?_
  rintro e w36_ ⟨rfl, b⟩
  replace HB := Aside0.mk (below_then HB.out HB.out.size b)
  clear b
  go_wp2_with fail
  refine (pSame_f 9221120237041090561 4607182418800017408 4607182418800017408 9221120237041090565 (psame_g 9221120237041090561 4607182418800017408 (by kernel_rfl) (by kernel_rfl) (by kernel_rfl)) _).mono ?_
  rintro e w37_ ⟨rfl, b⟩
  replace HB := Aside0.mk (below_then HB.out HB.out.size b)
  clear b
  go_wp2_with fail
  refine (norm_t 4613937818241073152 13839561654909534208 4621256167635550208 4625196817309499392 4627730092099895296 (by kernel_rfl) (by kernel_rfl) (by kernel_rfl) _).mono ?_
  rintro e w38_ ⟨rfl, b⟩
  replace HB := Aside0.mk (below_then HB.out HB.out.size b)
  clear b
  have o25 : (FloatKind.f64.format.order 4627730092099895296 4627730092099895296 == some .eq) = true := by kernel_rfl
  go_wp2_with fail
  refine (size_n 9221120237041090561 9218868437227405312 9221120237041090561 9218868437227405312 (by kernel_rfl) (by kernel_rfl) (by kernel_rfl) _).mono ?_
  rintro e w39_ ⟨rC, hrC, rfl, b⟩
  replace HB := Aside0.mk (below_then HB.out HB.out.size b)
  clear b
  go_wp2_with fail
  refine (isNaN_t rC true (isN_ne hrC) _).mono ?_
  rintro e w40_ ⟨rfl, b⟩
  replace HB := Aside0.mk (below_then HB.out HB.out.size b)
  clear b
  go_wp2_with fail
  refine (pSame_f 0 0 9223372036854775808 0 (psame_f 0 9223372036854775808 (by kernel_rfl) (by kernel_rfl)) _).mono ?_
  rintro e w41_ ⟨rfl, b⟩
  replace HB := Aside0.mk (below_then HB.out HB.out.size b)
  clear b
  go_wp2_with fail
  refine (pLike_tt 0 9221120237041090561 9223372036854775808 9221120237041090561 (plike_e 0 9223372036854775808 (by kernel_rfl)) (plike_n 9221120237041090561 9221120237041090561 (by kernel_rfl) (by kernel_rfl) (by kernel_rfl)) _).mono ?_
  rintro e w42_ ⟨rfl, b⟩
  replace HB := Aside0.mk (below_then HB.out HB.out.size b)
  clear b
  go_wp2_with fail
  refine (finite_1 0 9218868437227405312 0 (by kernel_rfl) (by kernel_rfl) (by kernel_rfl) _).mono ?_
  rintro e w43_ ⟨rfl, b⟩
  replace HB := Aside0.mk (below_then HB.out HB.out.size b)
  clear b
  go_wp2_with fail
  refine (finite_2 9221120237041090561 0 (by kernel_rfl) _).mono ?_
  rintro e w44_ ⟨rfl, b⟩
  replace HB := Aside0.mk (below_then HB.out HB.out.size b)
  clear b
  go_wp2_with fail
  refine (join_1 _ _ _).mono ?_
  rintro e w45_ ⟨rfl, b⟩
  replace HB := Aside0.mk (below_then HB.out HB.out.size ((((Below.refl w44_.heap.size w44_).alloc (Nat.le_refl _) _).alloc (by simp) _).trans (b.mono (by simp; omega))))
  clear b
  go_wp2_with fail
  refine (join_0 _).mono ?_
  rintro e w46_ ⟨AJ, rfl, b⟩
  replace HB := Aside0.mk (below_then HB.out HB.out.size b)
  clear b
  go_wp2_with fail
  refine (awake_c _).mono ?_
  rintro e w47_ ⟨rfl, b⟩
  replace HB := Aside0.mk (below_then HB.out HB.out.size b)
  clear b
  go_wp2
  go_ret
  exact ⟨rfl, HB.out⟩
end Go.Proofs.Ytkgaclkbnakceaa.Pn
