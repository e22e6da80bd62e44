/- store: StoreNumbers: the walk from the certificates on. -/
import Derived.Test.YtoheamfnddfgkaaStNc
namespace Go.Proofs.Ytoheamfnddfgkaa.St
open Go.RowKit Go.Proofs.YtoheamfnddfgkaaW.PrintWords Go.Proofs.YtoheamfnddfgkaaW.PrintLast Go.Proofs.YtoheamfnddfgkaaW.PrintMore Go.Proofs.Ytoheamfnddfgkaa.PB
set_option linter.unusedVariables false
set_option linter.unusedSimpArgs false
/-- What comes behind n steps. -/
def rights : Nat → Code → Code
 | 0, c => c
 | n + 1, .seq _ b => rights n b
 | _, c => c
theorem use_code {P : Program} {c c' : Code} {Q : Exit → Act → World → Prop} {a : Act} {w : World} (h : c' = c) (k : Code.wp P c' Q a w) : Code.wp P c Q a w := h ▸ k
set_option maxRecDepth 100000 in
set_option maxHeartbeats 8000000 in
theorem tail_c (w wn : World) (gl ga gb gm : Nat) (HMB : Aside0 (Bk wn gm (madeCells zcells 390) 61)) (HLB : Aside0 (Bk wn gl (lcells ga gb 65 65) 61)) (HA : Aside0 (Bk wn ga z65 3)) (HBb : Aside0 (Bk wn gb z65 3)) (HGL : Aside0 (w.heap.size ≤ gl)) (HGM : Aside0 (w.heap.size ≤ gm)) (HNE : Aside0 (gm ≠ gl)) (HB : Aside0 (Below w.heap.size w wn)) (c64 : List Int) (HC64 : Aside0 (certsT (List.replicate 64 z61) = (c64, 0))) (HCL : Aside0 (c64.length = 193)) (l64 : List Int) (HL64 : Aside0 (certsT [zc 64] = (l64, 0))) {u0 u1 u2 u3 u4 u5 u6 u7 u8 u9 u10 u11 u12 u13 u14 u15 u16 u19 u20 u21 u22 u23 u24 u25 u26 u27 u28 u29 u30 u31 u32 u33 u34 u35 u36 u37 u38 u39 u40 u41 u42 u43 u44 u45 u46 u47 u48 u49 u50 u51 u52 u53 u54 u55 u56 u57 u58 u59 u60 u61 u62 u63 u64 u65 u66 u67 u68 u69 u70 u71 u72 u73 u74 u75 u76 u77 u78 u79 u80 u81 u82 u83 u84 u85 u86 u87 u88 u89 u90 u91 u92 u93 u94 u95 u96 u97 u98 u99 u100 u101 u102 u103 u104 u105 u106 u107 u108 u109 u110 u111 u112 u113 u114 u115 u116 u117 u118 u119 u120 u121 u122 u123 u124 u125 u126 u127 u128 u129 u130 u131 u132 u133 u134 u135 u136 u137 u138 u139 u140 u141 u142 u143 u144 u145 u146 u147 u148 u149 u150 u151 u152 u153 u154 u155 u156 u157 u158 u159 u160 u161 u162 u163 u164 u165 u166 u167 u168 u169 u170 u171 u172 u173 u174 u175 u176 u177 u178 u179 u180 u181 u182 u183 u184 u185 u186 u187 u188 u189 u190 u191 u192 u193 u194 u195 u196 u197 u198 u199 u200 u201 u202 u203 u204 u205 u206 u207 u208 u209 u210 u211 u212 u213 u214 u215 u216 u217 u218 u219 u220 u221 u222 u223 u224 u225 u226 u227 u228 u229 u230 u231 u232 u233 u234 u235 u236 u237 u238 u239 u240 u241 u242 u243 u244 u245 u246 u247 u248 u249 u250 u251 u252 u253 u254 u255 u256 u257 u258 u259 u260 u261 u262 u263 u264 u265 u266 u267 u268 u269 u270 u271 u272 u273 u274 u275 : Value} :
  Code.wp Try.prog (rights 15 (Try.f7.body.getD .skip)) (bodyPost Try.prog Try.f7 fun e w' => e = .returned (.bool true) ∧ Below w.heap.size w w') { tmps := #[u0, u1, u2, u3, u4, u5, u6, u7, u8, u9, u10, u11, u12, u13, u14, u15, u16, .slice (some ⟨gm, 0, none⟩) 65 65, .pointer (some ⟨gl, 0, none⟩), u19, u20, u21, u22, u23, u24, u25, u26, u27, u28, u29, u30, u31, u32, u33, u34, u35, u36, u37, u38, u39, u40, u41, u42, u43, u44, u45, u46, u47, u48, u49, u50, u51, u52, u53, u54, u55, u56, u57, u58, u59, u60, u61, u62, u63, u64, u65, u66, u67, u68, u69, u70, u71, u72, u73, u74, u75, u76, u77, u78, u79, u80, u81, u82, u83, u84, u85, u86, u87, u88, u89, u90, u91, u92, u93, u94, u95, u96, u97, u98, u99, u100, u101, u102, u103, u104, u105, u106, u107, u108, u109, u110, u111, u112, u113, u114, u115, u116, u117, u118, u119, u120, u121, u122, u123, u124, u125, u126, u127, u128, u129, u130, u131, u132, u133, u134, u135, u136, u137, u138, u139, u140, u141, u142, u143, u144, u145, u146, u147, u148, u149, u150, u151, u152, u153, u154, u155, u156, u157, u158, u159, u160, u161, u162, u163, u164, u165, u166, u167, u168, u169, u170, u171, u172, u173, u174, u175, u176, u177, u178, u179, u180, u181, u182, u183, u184, u185, u186, u187, u188, u189, u190, u191, u192, u193, u194, u195, u196, u197, u198, u199, u200, u201, u202, u203, u204, u205, u206, u207, u208, u209, u210, u211, u212, u213, u214, u215, u216, u217, u218, u219, u220, u221, u222, u223, u224, u225, u226, u227, u228, u229, u230, u231, u232, u233, u234, u235, u236, u237, u238, u239, u240, u241, u242, u243, u244, u245, u246, u247, u248, u249, u250, u251, u252, u253, u254, u255, u256, u257, u258, u259, u260, u261, u262, u263, u264, u265, u266, u267, u268, u269, u270, u271, u272, u273, u274, u275], defers := [] } wn := by
 have hu := Try.underlying24
 have hu61 := Try.underlying61
 generalize hQ : (bodyPost Try.prog Try.f7 fun e w' => e = .returned (.bool true) ∧ Below w.heap.size w w') = QQ
 simp only [rights, Try.f7, Option.getD_some]
 subst hQ
 go_wp2_with fail
 refine (certs_n (some ⟨gm, 0, none⟩) 65 65 (List.replicate 65 z61) [] 0 3 certs65 List.length_replicate rfl (Nat.le_refl _) (okCert_zeros 65) (by decide) _ (many_C HMB.out)).mono ?_
 rintro e v1 ⟨B1, d1, rfl, T1, b1⟩
 replace HMB := Aside0.mk (HMB.out.below b1.out)
 replace HLB := Aside0.mk (HLB.out.below b1.out)
 replace HA := Aside0.mk (HA.out.below b1.out)
 replace HBb := Aside0.mk (HBb.out.below b1.out)
 replace HB := Aside0.mk (below_then HB.out HB.out.size b1.out)
 clear b1 T1
 go_wp2_with fail
 refine (certs_n (some ⟨gm, 0, none⟩) 64 65 (List.replicate 64 z61) c64 193 0 HC64.out List.length_replicate HCL.out (by decide) (okCert_zeros 64) (by decide) _ (many_C64 HMB.out)).mono ?_
 rintro e v2 ⟨B2, d2, rfl, T2, b2⟩
 replace HMB := Aside0.mk (HMB.out.below b2.out)
 replace HLB := Aside0.mk (HLB.out.below b2.out)
 replace HA := Aside0.mk (HA.out.below b2.out)
 replace HBb := Aside0.mk (HBb.out.below b2.out)
 replace HB := Aside0.mk (below_then HB.out HB.out.size b2.out)
 clear b2 T2
 obtain ⟨s0, s1, s2, s3, s4, s5⟩ := six_of HLB.out
 go_wp2_with fail
 refine (certs_n (some ⟨v2.heap.size, 0, none⟩) 1 1 [zc 65] [] 0 2 long65 rfl rfl (Nat.le_refl _) (okCert_single (okCert_zc 65 (by decide))) (by decide) _ (cert_block (heap_alloc_new v2 _) (long_K (HA.out.alloc _) (HBb.out.alloc _) 65 (by decide)) rfl)).mono ?_
 rintro e v3 ⟨B3, d3, rfl, T3, b3⟩
 clear s0 s1 s2 s3 s4 s5 T3
 replace HMB := Aside0.mk ((HMB.out.alloc _).below b3.out)
 replace HLB := Aside0.mk ((HLB.out.alloc _).below b3.out)
 replace HA := Aside0.mk ((HA.out.alloc _).below b3.out)
 replace HBb := Aside0.mk ((HBb.out.alloc _).below b3.out)
 replace HB := Aside0.mk (below_then (HB.out.alloc HB.out.size _) (HB.out.alloc HB.out.size _).size b3.out)
 clear b3
 go_upto_region 27 with fail
 go_cut [186] (fun y1 wx => y1 = .pointer (some ⟨gl, 4, none⟩) ∧ Aside0 (Bk wx gm (madeCells zcells 390) 61) ∧ Aside0 (Bk wx gl (lcells ga gb 64 64) 61) ∧ Aside0 (Bk wx ga z65 3) ∧ Aside0 (Bk wx gb z65 3) ∧ Aside0 (Below w.heap.size w wx))
 case first =>
  obtain ⟨Fr, hFr, r0_, q0_, p0_, r1_, q1_, p1_, r2_, q2_, p2_, r3_, q3_, p3_, r4_, q4_, p4_, r5_, q5_, p5_, r6_, q6_, p6_, r8_, q8_, p8_, z7_, z9_, c18_, d18_⟩ : ∃ Fr : (Nat → Value) → Act, (∀ f, Fr f = { tmps := #[u0, u1, u2, u3, u4, u5, u6, u7, u8, u9, u10, u11, u12, u13, u14, u15, u16, Value.slice (some { block := gm, off := 0 }) 65 65, Value.pointer (some { block := gl, off := 0 }), Value.slice B1 0 d1, Value.int IntKind.i64 3, Value.slice B2 193 d2, Value.int IntKind.i64 0, Value.slice B3 0 d3, Value.int IntKind.i64 2, u25, u26, u27, u28, u29, u30, u31, u32, u33, u34, u35, u36, u37, u38, u39, u40, u41, u42, u43, u44, u45, u46, u47, u48, u49, u50, u51, u52, u53, u54, u55, u56, u57, u58, u59, u60, u61, u62, u63, u64, u65, u66, u67, u68, u69, u70, u71, u72, u73, u74, u75, u76, u77, u78, u79, u80, u81, u82, u83, u84, u85, u86, u87, u88, u89, u90, u91, u92, u93, u94, u95, u96, u97, u98, u99, u100, u101, u102, u103, u104, u105, u106, u107, u108, u109, u110, u111, u112, u113, u114, u115, u116, u117, u118, u119, u120, u121, u122, u123, u124, u125, u126, u127, u128, u129, u130, u131, u132, u133, u134, u135, u136, u137, u138, u139, u140, u141, u142, u143, u144, u145, u146, u147, u148, u149, u150, u151, u152, u153, u154, u155, u156, u157, u158, u159, u160, u161, u162, u163, u164, u165, u166, u167, u168, Value.tuple #[Value.slice B1 0 d1, Value.int IntKind.i64 3], Value.slice (some { block := gm, off := 0 }) 65 65, Value.tuple #[Value.slice B1 0 d1, Value.int IntKind.i64 3], Value.slice B1 0 d1, Value.int IntKind.i64 3, Value.tuple #[Value.slice B2 193 d2, Value.int IntKind.i64 0], Value.slice (some { block := gm, off := 0 }) 65 65, Value.slice (some { block := gm, off := 0 }) 64 65, Value.tuple #[Value.slice B2 193 d2, Value.int IntKind.i64 0], Value.slice B2 193 d2, Value.int IntKind.i64 0, Value.tuple #[Value.slice B3 0 d3, Value.int IntKind.i64 2], Value.agg #[Value.bool false, Value.slice none 0 0, Value.bool false, Value.slice none 0 0, Value.slice (some { block := ga, off := 0 }) 65 65, Value.slice (some { block := gb, off := 0 }) 65 65], Value.slice (some { block := v2.heap.size, off := 0 }) 1 1, Value.tuple #[Value.slice B3 0 d3, Value.int IntKind.i64 2], Value.slice B3 0 d3, Value.int IntKind.i64 2, (f 0), (f 1), (f 2), (f 3), (f 4), (f 5), (f 6), (f 8), u194, u195, u196, u197, u198, u199, u200, u201, u202, u203, u204, u205, u206, u207, u208, u209, u210, u211, u212, u213, u214, u215, u216, u217, u218, u219, u220, u221, u222, u223, u224, u225, u226, u227, u228, u229, u230, u231, u232, u233, u234, u235, u236, u237, u238, u239, u240, u241, u242, u243, u244, u245, u246, u247, u248, u249, u250, u251, u252, u253, u254, u255, u256, u257, u258, u259, u260, u261, u262, u263, u264, u265, u266, u267, u268, u269, u270, u271, u272, u273, u274, u275], defers := [] }) ∧ (∀ f, (Fr f).tmps.getD 186 undef = f 0) ∧ (∀ f, (Fr f).tmps[186]?.getD undef = f 0) ∧ (∀ f v, (Fr f).put (some 186) v = Fr (Gr.upd f 0 v)) ∧ (∀ f, (Fr f).tmps.getD 187 undef = f 1) ∧ (∀ f, (Fr f).tmps[187]?.getD undef = f 1) ∧ (∀ f v, (Fr f).put (some 187) v = Fr (Gr.upd f 1 v)) ∧ (∀ f, (Fr f).tmps.getD 188 undef = f 2) ∧ (∀ f, (Fr f).tmps[188]?.getD undef = f 2) ∧ (∀ f v, (Fr f).put (some 188) v = Fr (Gr.upd f 2 v)) ∧ (∀ f, (Fr f).tmps.getD 189 undef = f 3) ∧ (∀ f, (Fr f).tmps[189]?.getD undef = f 3) ∧ (∀ f v, (Fr f).put (some 189) v = Fr (Gr.upd f 3 v)) ∧ (∀ f, (Fr f).tmps.getD 190 undef = f 4) ∧ (∀ f, (Fr f).tmps[190]?.getD undef = f 4) ∧ (∀ f v, (Fr f).put (some 190) v = Fr (Gr.upd f 4 v)) ∧ (∀ f, (Fr f).tmps.getD 191 undef = f 5) ∧ (∀ f, (Fr f).tmps[191]?.getD undef = f 5) ∧ (∀ f v, (Fr f).put (some 191) v = Fr (Gr.upd f 5 v)) ∧ (∀ f, (Fr f).tmps.getD 192 undef = f 6) ∧ (∀ f, (Fr f).tmps[192]?.getD undef = f 6) ∧ (∀ f v, (Fr f).put (some 192) v = Fr (Gr.upd f 6 v)) ∧ (∀ f, (Fr f).tmps.getD 193 undef = f 8) ∧ (∀ f, (Fr f).tmps[193]?.getD undef = f 8) ∧ (∀ f v, (Fr f).put (some 193) v = Fr (Gr.upd f 8 v)) ∧ (∀ f v, Fr (Gr.upd f 7 v) = Fr f) ∧ (∀ f v, Fr (Gr.upd f 9 v) = Fr f) ∧ (∀ f, (Fr f).tmps.getD 18 undef = .pointer (some ⟨gl, 0, none⟩)) ∧ (∀ f, (Fr f).tmps[18]?.getD undef = .pointer (some ⟨gl, 0, none⟩)) := ⟨fun f => { tmps := #[u0, u1, u2, u3, u4, u5, u6, u7, u8, u9, u10, u11, u12, u13, u14, u15, u16, Value.slice (some { block := gm, off := 0 }) 65 65, Value.pointer (some { block := gl, off := 0 }), Value.slice B1 0 d1, Value.int IntKind.i64 3, Value.slice B2 193 d2, Value.int IntKind.i64 0, Value.slice B3 0 d3, Value.int IntKind.i64 2, u25, u26, u27, u28, u29, u30, u31, u32, u33, u34, u35, u36, u37, u38, u39, u40, u41, u42, u43, u44, u45, u46, u47, u48, u49, u50, u51, u52, u53, u54, u55, u56, u57, u58, u59, u60, u61, u62, u63, u64, u65, u66, u67, u68, u69, u70, u71, u72, u73, u74, u75, u76, u77, u78, u79, u80, u81, u82, u83, u84, u85, u86, u87, u88, u89, u90, u91, u92, u93, u94, u95, u96, u97, u98, u99, u100, u101, u102, u103, u104, u105, u106, u107, u108, u109, u110, u111, u112, u113, u114, u115, u116, u117, u118, u119, u120, u121, u122, u123, u124, u125, u126, u127, u128, u129, u130, u131, u132, u133, u134, u135, u136, u137, u138, u139, u140, u141, u142, u143, u144, u145, u146, u147, u148, u149, u150, u151, u152, u153, u154, u155, u156, u157, u158, u159, u160, u161, u162, u163, u164, u165, u166, u167, u168, Value.tuple #[Value.slice B1 0 d1, Value.int IntKind.i64 3], Value.slice (some { block := gm, off := 0 }) 65 65, Value.tuple #[Value.slice B1 0 d1, Value.int IntKind.i64 3], Value.slice B1 0 d1, Value.int IntKind.i64 3, Value.tuple #[Value.slice B2 193 d2, Value.int IntKind.i64 0], Value.slice (some { block := gm, off := 0 }) 65 65, Value.slice (some { block := gm, off := 0 }) 64 65, Value.tuple #[Value.slice B2 193 d2, Value.int IntKind.i64 0], Value.slice B2 193 d2, Value.int IntKind.i64 0, Value.tuple #[Value.slice B3 0 d3, Value.int IntKind.i64 2], Value.agg #[Value.bool false, Value.slice none 0 0, Value.bool false, Value.slice none 0 0, Value.slice (some { block := ga, off := 0 }) 65 65, Value.slice (some { block := gb, off := 0 }) 65 65], Value.slice (some { block := v2.heap.size, off := 0 }) 1 1, Value.tuple #[Value.slice B3 0 d3, Value.int IntKind.i64 2], Value.slice B3 0 d3, Value.int IntKind.i64 2, (f 0), (f 1), (f 2), (f 3), (f 4), (f 5), (f 6), (f 8), u194, u195, u196, u197, u198, u199, u200, u201, u202, u203, u204, u205, u206, u207, u208, u209, u210, u211, u212, u213, u214, u215, u216, u217, u218, u219, u220, u221, u222, u223, u224, u225, u226, u227, u228, u229, u230, u231, u232, u233, u234, u235, u236, u237, u238, u239, u240, u241, u242, u243, u244, u245, u246, u247, u248, u249, u250, u251, u252, u253, u254, u255, u256, u257, u258, u259, u260, u261, u262, u263, u264, u265, u266, u267, u268, u269, u270, u271, u272, u273, u274, u275], defers := [] }, fun _ => rfl, fun _ => rfl, fun _ => rfl, fun _ _ => rfl, fun _ => rfl, fun _ => rfl, fun _ _ => rfl, fun _ => rfl, fun _ => rfl, fun _ _ => rfl, fun _ => rfl, fun _ => rfl, fun _ _ => rfl, fun _ => rfl, fun _ => rfl, fun _ _ => rfl, fun _ => rfl, fun _ => rfl, fun _ _ => rfl, fun _ => rfl, fun _ => rfl, fun _ _ => rfl, fun _ => rfl, fun _ => rfl, fun _ _ => rfl, fun _ _ => rfl, fun _ _ => rfl, fun _ => rfl, fun _ => rfl⟩
  suffices hS : Code.wp Try.prog _ _ (Fr (fun i => [u186, u187, u188, u189, u190, u191, u192, undef, u193].getD i undef)) v3 by
   rw [hFr] at hS
   exact hS
  refine Gr.region_done [[], [0], [1], [], [3], [4], [0, 1, 2, 3, 4], [6, 2, 0, 1, 2, 3, 4], [0, 1, 2, 3, 4, 5, 6, 7], [8, 5, 7, 0, 1, 2, 3, 4, 5, 6, 7]] 10 rfl (by kernel_rfl) (by decide) (by kernel_rfl) (I27 w gl ga gb gm (madeCells zcells 390)) I27_cong Fr ?step ?fin (fun i => [u186, u187, u188, u189, u190, u191, u192, undef, u193].getD i undef) v3 ⟨HB.out.drew, HGL.out, HMB.out, HA.out, HBb.out, HLB.out, HNE.out, fun h => (by cases h), fun h => (by cases h), fun h => (by cases h), fun h => (by cases h), fun h => (by cases h), fun h => (by cases h), fun h => (by cases h), fun h => (by cases h), fun h => (by cases h), fun h => (by cases h), fun h => (by cases h)⟩
  case step =>
   clear hFr
   intro i hi d f w' K' hI hd hn hK
   have hlt := hI.l.lt
   match i, hi with
   | 0, _ =>
    have h := hK _ _ hI.ptr0
    rw [← p0_] at h
    exact wpOp_step rfl (fun K2 hK2 => value_ (v := .pointer (some ⟨gl, 4, none⟩)) rfl rfl (by go_simp) (hK2 _ _ h))
   | 1, _ =>
    have e0 := hI.k0 (hn 0 (by decide))
    have h7 : d 7 = false := by
     cases e : d 7 with
     | false => rfl
     | true => have := hI.c7 e; rw [hd] at this; cases this
    have hl := hI.l
    rw [h7] at hl
    have r4 : w'.cell? ⟨gl, 4, none⟩ = some (.slice (some ⟨ga, 0, none⟩) 65 65) := hl.cell rfl
    have h := hK _ _ hI.load1
    rw [← p1_] at h
    exact wpOp_step rfl (fun K2 hK2 => value_ (v := .slice (some ⟨ga, 0, none⟩) 65 65) rfl rfl (by go_simp) (hK2 _ _ h))
   | 2, _ =>
    have e1 := hI.k1 (hn 1 (by decide))
    have h := hK _ _ hI.cut2
    rw [← p2_] at h
    exact wpOp_step rfl (fun K2 hK2 => value_ (v := .slice (some ⟨ga, 0, none⟩) 64 65) rfl rfl (by go_simp) (hK2 _ _ h))
   | 3, _ =>
    have h := hK _ _ hI.ptr3
    rw [← p3_] at h
    exact wpOp_step rfl (fun K2 hK2 => value_ (v := .pointer (some ⟨gl, 5, none⟩)) rfl rfl (by go_simp) (hK2 _ _ h))
   | 4, _ =>
    have e3 := hI.k3 (hn 3 (by decide))
    have h9 : d 9 = false := by
     cases e : d 9 with
     | false => rfl
     | true => have := hI.c9 e; rw [hd] at this; cases this
    have hl := hI.l
    rw [h9] at hl
    have r5 : w'.cell? ⟨gl, 5, none⟩ = some (.slice (some ⟨gb, 0, none⟩) 65 65) := hl.cell rfl
    have h := hK _ _ hI.load4
    rw [← p4_] at h
    exact wpOp_step rfl (fun K2 hK2 => value_ (v := .slice (some ⟨gb, 0, none⟩) 65 65) rfl rfl (by go_simp) (hK2 _ _ h))
   | 5, _ =>
    have e4 := hI.k4 (hn 4 (by decide))
    have h := hK _ _ hI.cut5
    rw [← p5_] at h
    exact wpOp_step rfl (fun K2 hK2 => value_ (v := .slice (some ⟨gb, 0, none⟩) 64 65) rfl rfl (by go_simp) (hK2 _ _ h))
   | 6, _ =>
    have h := hK _ _ hI.ptr6
    rw [← p6_] at h
    exact wpOp_step rfl (fun K2 hK2 => value_ (v := .pointer (some ⟨gl, 4, none⟩)) rfl rfl (by go_simp) (hK2 _ _ h))
   | 7, _ =>
    have e6 := hI.k6 (hn 6 (by decide))
    have e2 := hI.k2 (hn 2 (by decide))
    have r4 := hI.l.cell (i := 4) rfl
    have q4 := hI.l.frozen 4
    have r5 := hI.l.cell (i := 5) rfl
    have q5 := hI.l.frozen 5
    have h := hK undef _ (hI.store7 hd (hn 1 (by decide)) undef)
    rw [z7_] at h
    exact wpOp_step rfl (fun K2 hK2 => skip_ rfl rfl (by go_simp) (hK2 _ _ h))
   | 8, _ =>
    have h := hK _ _ hI.ptr8
    rw [← p8_] at h
    exact wpOp_step rfl (fun K2 hK2 => value_ (v := .pointer (some ⟨gl, 5, none⟩)) rfl rfl (by go_simp) (hK2 _ _ h))
   | 9, _ =>
    have e8 := hI.k8 (hn 8 (by decide))
    have e5 := hI.k5 (hn 5 (by decide))
    have r4 := hI.l.cell (i := 4) rfl
    have q4 := hI.l.frozen 4
    have r5 := hI.l.cell (i := 5) rfl
    have q5 := hI.l.frozen 5
    have h := hK undef _ (hI.store9 hd (hn 7 (by decide)) (hn 4 (by decide)) undef)
    rw [z9_] at h
    exact wpOp_step rfl (fun K2 hK2 => skip_ rfl rfl (by go_simp) (hK2 _ _ h))
   | n + 10, h => exact absurd h (by omega)
  case fin =>
   intro f w' hI
   have e0 := hI.k0 rfl
   have hm := hI.m
   have hl := hI.l
   have ha := hI.a
   have hc := hI.c
   have hb := hI.b
   clear hI
   rw [hFr]
   go_wp2_with fail
   go_meet
   exact ⟨by first | rfl | exact e0, ⟨hm⟩, ⟨hl⟩, ⟨ha⟩, ⟨hc⟩, ⟨hb⟩⟩
 case rest =>
  obtain ⟨rfl, HMB2, HLB2, HA2, HB2, HBn⟩ := hcut
  rename World => wo
  clear HMB HLB HA HBb HB
  have HMB := HMB2
  have HLB := HLB2
  have HA := HA2
  have HBb := HB2
  have HB := HBn
  clear HMB2 HLB2 HA2 HB2 HBn
  obtain ⟨s0, s1, s2, s3, s4, s5⟩ := six_of HLB.out
  go_wp2_with fail
  refine (certs_n (some ⟨wo.heap.size, 0, none⟩) 1 1 [zc 64] l64 l64.length 0 HL64.out rfl rfl (Nat.le_refl _) (okCert_single (okCert_zc 64 (by decide))) (by decide) _ (cert_block (heap_alloc_new wo _) (long_K (HA.out.alloc _) (HBb.out.alloc _) 64 (by decide)) rfl)).mono ?_
  rintro e v4 ⟨B4, d4, rfl, T4, b4⟩
  clear s0 s1 s2 s3 s4 s5 T4
  replace HMB := Aside0.mk ((HMB.out.alloc _).below b4.out)
  clear HLB
  clear HA
  clear HBb
  replace HB := Aside0.mk (below_then (HB.out.alloc HB.out.size _) (HB.out.alloc HB.out.size _).size b4.out)
  clear b4
  have p0 : v4.cell? ⟨gm, 23, none⟩ = some (.slice none 0 0) := HMB.out.cell (by have := made_at 65 3 5 (by decide) (by decide); simpa using this)
  have p1 : v4.frozen? ⟨gm, 23, none⟩ = false := HMB.out.frozen 23
  have p2 := HMB.out.lt
  go_wp2_with fail
  have HM2 : Aside0 (Bk ((v4.setCell ⟨gm, 23, none⟩ (.slice (some ⟨v4.heap.size, 0, none⟩) 1 1)).alloc (.cells #[.int .i64 1] 3)) gm ((madeCells zcells 390).setIfInBounds 23 (.slice (some ⟨v4.heap.size, 0, none⟩) 1 1)) 61) := ⟨(HMB.out.set 23 _).alloc _⟩
  have HP1 : Aside0 (Bk ((v4.setCell ⟨gm, 23, none⟩ (.slice (some ⟨v4.heap.size, 0, none⟩) 1 1)).alloc (.cells #[.int .i64 1] 3)) v4.heap.size #[.int .i64 1] 3) := ⟨by
   have h := Bk.new (v4.setCell ⟨gm, 23, none⟩ (.slice (some ⟨v4.heap.size, 0, none⟩) 1 1)) #[.int .i64 1] 3
   rwa [show (v4.setCell ⟨gm, 23, none⟩ (.slice (some ⟨v4.heap.size, 0, none⟩) 1 1)).heap.size = v4.heap.size from by simp] at h⟩
  have HBw : Aside0 (Below w.heap.size w ((v4.setCell ⟨gm, 23, none⟩ (.slice (some ⟨v4.heap.size, 0, none⟩) 1 1)).alloc (.cells #[.int .i64 1] 3))) := ⟨(HB.out.setCell HGM.out _).alloc (HB.out.setCell HGM.out _).size _⟩
  clear HMB HB p0 p1 p2
  have HMB := HM2
  have HB := HBw
  clear HM2 HBw
  refine (certs_n (some ⟨gm, 0, none⟩) 65 65 (List.replicate 3 z61 ++ pc :: List.replicate 61 z61) [] 0 3 many65 (by simp) rfl (Nat.le_refl _) okCert_many (by decide) _ (many_C3 HMB.out HP1.out)).mono ?_
  rintro e v5 ⟨B5, d5, rfl, T5, b5⟩
  replace HMB := Aside0.mk (HMB.out.below b5.out)
  replace HP1 := Aside0.mk (HP1.out.below b5.out)
  replace HB := Aside0.mk (below_then HB.out HB.out.size b5.out)
  clear b5 T5
  go_wp2_with fail
  refine (certs_n (some ⟨gm, 0, none⟩) 4 65 (List.replicate 3 z61 ++ [pc]) [] 0 2 many4 rfl rfl (by decide) okCert_many4 (by decide) _ (many_C4 HMB.out HP1.out)).mono ?_
  rintro e v6 ⟨B6, d6, rfl, T6, b6⟩
  clear HMB
  clear HP1
  replace HB := Aside0.mk (below_then HB.out HB.out.size b6.out)
  clear b6 T6
  go_upto_region 33 with fail
  have HE : Aside0 (∀ j, j < 8 → ∃ a : Int, (v6.alloc (.cells #[.int .i64 (-1), .int .i64 0, .int .i64 127, .int .i64 128, .int .i64 2147483647, .int .i64 2147483648, .int .i64 4611686018427387904, .int .i64 (-9223372036854775808)] 3)).cell? ⟨v6.heap.size, j, none⟩ = some (.int .i64 a) ∧ -9223372036854775808 ≤ a ∧ a ≤ 9223372036854775807) := ⟨fun j hj => by
   have hk := heap_alloc_new v6 (.cells #[.int .i64 (-1), .int .i64 0, .int .i64 127, .int .i64 128, .int .i64 2147483647, .int .i64 2147483648, .int .i64 4611686018427387904, .int .i64 (-9223372036854775808)] 3)
   match j, hj with
   | 0, _ => exact ⟨-1, cell_of hk rfl, by decide, by decide⟩
   | 1, _ => exact ⟨0, cell_of hk rfl, by decide, by decide⟩
   | 2, _ => exact ⟨127, cell_of hk rfl, by decide, by decide⟩
   | 3, _ => exact ⟨128, cell_of hk rfl, by decide, by decide⟩
   | 4, _ => exact ⟨2147483647, cell_of hk rfl, by decide, by decide⟩
   | 5, _ => exact ⟨2147483648, cell_of hk rfl, by decide, by decide⟩
   | 6, _ => exact ⟨4611686018427387904, cell_of hk rfl, by decide, by decide⟩
   | 7, _ => exact ⟨-9223372036854775808, cell_of hk rfl, by decide, by decide⟩
   | j + 8, h => exact absurd h (by omega)⟩
  have HEL : Aside0 (v6.heap.size < (v6.alloc (.cells #[.int .i64 (-1), .int .i64 0, .int .i64 127, .int .i64 128, .int .i64 2147483647, .int .i64 2147483648, .int .i64 4611686018427387904, .int .i64 (-9223372036854775808)] 3)).heap.size) := ⟨by simp⟩
  replace HB := Aside0.mk (HB.out.alloc HB.out.size (.cells #[.int .i64 (-1), .int .i64 0, .int .i64 127, .int .i64 128, .int .i64 2147483647, .int .i64 2147483648, .int .i64 4611686018427387904, .int .i64 (-9223372036854775808)] 3))
  generalize hWE : (v6.alloc (.cells #[.int .i64 (-1), .int .i64 0, .int .i64 127, .int .i64 128, .int .i64 2147483647, .int .i64 2147483648, .int .i64 4611686018427387904, .int .i64 (-9223372036854775808)] 3)) = we at HE HEL HB ⊢
  generalize v6.heap.size = ge at HE HEL ⊢
  clear hWE
  go_wp2
  go_loopw [32] (fun v1 wr => ∃ j : Nat, v1 = .int .i64 j ∧ j ≤ 8 ∧ Aside0 (Below we.heap.size we wr)) (fun v1 _ => 8 - (intOf v1).toNat)
  case atStart => exact ⟨0, rfl, by decide, ⟨Below.refl _ _⟩⟩
  case round =>
   obtain ⟨j, rfl, hj, HBR⟩ := hrel
   by_cases hlt : j < 8
   ·obtain ⟨a, ha, hA1, hA2⟩ := HE.out j hlt
    have hj1 : (j : Int) < 8 := by omega
    have h0 := (HBR.out.cell HEL.out).trans ha
    have hge : ge < wr.heap.size := Nat.lt_of_lt_of_le HEL.out HBR.out.size
    have HA1 := Aside0.mk hA1
    have HA2 := Aside0.mk hA2
    clear ha hA1 hA2
    go_wp2_with fail
    refine (scerts_pair a 1 HA1.out HA2.out (by decide) (by decide) (by first | rfl | simp) (by first | rfl | simp) (by first | rfl | simp)).mono ?_
    rintro e w1_ ⟨rfl, bq⟩
    have hB1 := below_then HBR.out HBR.out.size bq.out
    
    have h2 : w1_.cell? ⟨ge, j, none⟩ = some (.int .i64 a) := (bq.out.cell hge).trans h0
    have hge1 : ge < w1_.heap.size := Nat.lt_of_lt_of_le hge bq.out.size
    have HB1 := Aside0.mk hB1
    clear h0 hge bq hB1
    go_wp2_with fail
    refine (scerts_pair 1 a (by decide) (by decide) HA1.out HA2.out (by first | rfl | simp) (by first | rfl | simp) (by first | rfl | simp)).mono ?_
    rintro e w2_ ⟨rfl, bq⟩
    have HB2 : Aside0 (Below we.heap.size we w2_) := ⟨below_then HB1.out HB1.out.size bq.out⟩
    clear h2 hge1 bq
    go_wp2
    go_roundw
    case rel => exact ⟨j + 1, by go_num, by omega, HB2⟩
    case measure => simp [intOf]; omega
   ·obtain rfl : j = 8 := by omega
    clear hlt hj HE HEL
    replace HB := Aside0.mk (below_then HB.out HB.out.size HBR.out)
    go_wp2_with fail
    refine (awake_t _).mono ?_
    rintro e v9 ⟨rfl, b9⟩
    go_wp2_with fail
    go_ret
    exact ⟨rfl, below_then HB.out HB.out.size b9.out⟩
end Go.Proofs.Ytoheamfnddfgkaa.St
