/- NmR: CfgNm2, CfgNm28, CfgNm1, ConfigNamesW. -/
import Derived.Test.YthdldmkeoglflaaDoorNmA
import Derived.Test.YthdldmkeoglflaaDoorNmQ
import Derived.Test.YthdldmkeoglflaaDoorCfgCardT
/- ConfigNames, region 30: texts that are none. -/
namespace Go.Proofs.YthdldmkeoglflaaDoor
set_option linter.unusedSimpArgs false
set_option linter.unusedVariables false
set_option linter.unnecessarySimpa false
open Go.RowKit
set_option linter.unusedVariables false


theorem wpList_makeNG {P : Program} {ops : Array Oper} {rest : List Oper} {o : Oper} {a : Act} {w : World} {Q : Exit → Act → World → Prop} (hgd : Region.wanted o (yielded ops a.tmps) = true) (t : TypeId) (x y : Operand) (ho : o.op = .makeSlice t x y) (n : Nat) (hx : a.eval x = .int .i64 n) (hy : a.eval y = .int .i64 n)
    (e : TypeId) (i : TypeInfo) (z : Value) (ht : P.underlying t = some (.slice e)) (hi : P.info? e = some i) (hz : i.zero = some z) (hs : i.size = 1) (hb : i.bytes * n ≤ 281474976710656) (hc : n ≤ 9223372036854775807) (hzc : z.cells = #[z])
    (hK : ∀ b w', Below w.heap.size w w' → CellsAt w' (some ⟨b, 0, none⟩) (List.replicate n z) → wpList P ops Q rest (a.put o.dst (.slice (some ⟨b, 0, none⟩) n n)) w') : wpList P ops Q (o :: rest) a w := by
  have hb' : (i.bytes : Int) * (n : Int) ≤ 281474976710656 := by
    have h : ((i.bytes * n : Nat) : Int) ≤ 281474976710656 := by omega
    rwa [Int.natCast_mul] at h
  have hr := run_make (P := P) w t e i z ht hi hz .i64 .i64 n n (by omega) (by omega) hb' (by omega)
  simp only [Int.toNat_natCast] at hr
  rw [hs, Nat.mul_one, hzc, madeN_one] at hr
  refine wpList_want hgd fun K hK' => ?_
  unfold Oper.wp
  simp only [execOp, ho, hx, hy, Sem.run_bind, hr, Result.andThen_ok, Sem.run_pure]
  exact hK' _ _ (hK w.heap.size _ ((Below.refl _ _).alloc (Nat.le_refl _) _) (Blk.newA w _ _ e _ rfl rfl).cellsAt2)
theorem cut30 : (cutAt ((Tryd.f4).body.getD .skip) 30).2 = .seq (cutAt ((Tryd.f4).body.getD .skip) 31).1 (cutAt ((Tryd.f4).body.getD .skip) 31).2 := by kernel_rfl
set_option maxRecDepth 100000 in
set_option maxHeartbeats 20000000 in
theorem part30 (w wz : World) (hb : Below w.heap.size w wz) (htab : ∀ W, Below w.heap.size w W → Lib.TabIs Tryd.prog W "internal/strconv.uint64pow10" .u64 Lib.pow10Tab) (her : ∀ W, Below w.heap.size w W → ErrIn W)
    (B7 B9 c7 c9 : Nat) (a7 a9 : Option Addr) (g7 : GAt wz B7 [] a7 c7) (g9 : GAt wz B9 [(⟨#[98]⟩, 16)] a9 c9)
    (u0 u1 u2 u4 u5 u6 u11 u12 u13 u14 u15 u16 u17 u18 u19 u20 u21 u22 u23 u24 u25 u26 u27 u28 u29 u30 u31 u32 u33 u34 u35 u36 u37 u38 u39 u40 u41 u42 u43 u44 u45 u46 u47 u48 u49 u50 u51 u52 u53 u54 u55 u56 u57 u58 u59 u60 u61 u62 u63 u64 u65 u66 u67 u68 u69 u70 u71 u72 u73 u74 u75 u76 u77 u78 u79 u80 u81 u82 u83 u84 u85 u86 u87 u88 u89 u90 u91 u92 u93 u94 u95 u96 u97 u98 u99 u100 u101 u102 u103 u104 u105 u106 u107 u108 u109 u110 u111 u112 u113 u114 u115 u116 u117 u118 u119 u120 u121 u122 u123 u124 u125 u126 u127 u128 u129 u130 u131 u132 u133 u134 u135 u136 u137 u138 u139 u140 u141 u142 u143 u144 u145 u146 u147 u148 u149 u150 u151 u152 u153 u154 u155 u156 u157 u158 u159 u160 u161 u162 u163 u164 u165 u166 u167 u168 u169 u170 u171 u172 u173 u174 u175 u176 u177 u178 u179 u180 u181 u182 u183 u184 u185 u186 u187 u188 u189 u190 u191 u192 u193 u194 u195 u196 u197 u198 u199 u200 u201 u202 u203 u204 u205 u206 u207 u208 u209 u210 u211 u212 u213 u214 u215 u216 u217 u218 u219 u220 u221 u222 u223 u224 u225 u226 u227 u228 u229 u230 u231 u232 u233 u234 u235 u236 u237 u238 u239 u240 u241 u242 u243 u244 u245 u246 u247 u248 u249 u250 u251 u252 u253 u254 u255 u256 u257 u258 u259 u260 u261 u262 u263 u264 u265 u266 u267 u268 u269 u270 u271 u272 u273 u274 u275 u276 u277 u278 u279 u280 u281 u282 u283 u284 u285 u286 u287 u288 u289 u290 u291 u292 u293 u294 u295 u296 u297 u298 u299 u300 u301 u302 u303 u304 u305 u306 u307 u308 u309 u310 u311 u312 u313 u314 u315 u316 u317 u318 u319 u320 u321 u322 u323 u324 u325 u326 u327 u328 u329 u330 u331 u332 u333 u334 u335 u336 u337 u338 u339 u340 u341 u342 u343 u344 u345 u346 u347 u348 u349 u350 u351 u352 u353 u354 u355 u356 u357 u358 u359 u360 u361 u362 u363 u364 u365 u366 u367 u368 u369 u370 u371 u372 u373 u374 u375 u376 u377 u378 u379 u380 u381 u382 u383 u384 u385 u386 u387 u388 u389 u390 u391 u392 u393 u394 u395 u396 u397 u398 u399 u400 u401 u402 u403 u404 u405 u406 u407 u408 u409 u410 u411 u412 u413 u414 u415 u416 u417 u418 u419 u420 u421 u422 u423 u424 u425 u426 u427 u428 u429 u430 u431 u432 u433 u434 u435 u436 u437 u438 u439 u440 u441 u442 u443 u444 u445 u446 u447 u448 u449 u450 u451 u452 u453 : Value) :
    Part w 30 { tmps := #[u0, u1, u2, .bool true, u4, u5, u6, .pointer (some ⟨B7, 0, none⟩), .int .i64 0, .pointer (some ⟨B9, 0, none⟩), .int .i64 0, u11, u12, u13, u14, u15, u16, u17, u18, u19, u20, u21, u22, u23, u24, u25, u26, u27, u28, u29, u30, u31, u32, u33, u34, u35, u36, u37, u38, u39, u40, u41, u42, u43, u44, u45, u46, u47, u48, u49, u50, u51, u52, u53, u54, u55, u56, u57, u58, u59, u60, u61, u62, u63, u64, u65, u66, u67, u68, u69, u70, u71, u72, u73, u74, u75, u76, u77, u78, u79, u80, u81, u82, u83, u84, u85, u86, u87, u88, u89, u90, u91, u92, u93, u94, u95, u96, u97, u98, u99, u100, u101, u102, u103, u104, u105, u106, u107, u108, u109, u110, u111, u112, u113, u114, u115, u116, u117, u118, u119, u120, u121, u122, u123, u124, u125, u126, u127, u128, u129, u130, u131, u132, u133, u134, u135, u136, u137, u138, u139, u140, u141, u142, u143, u144, u145, u146, u147, u148, u149, u150, u151, u152, u153, u154, u155, u156, u157, u158, u159, u160, u161, u162, u163, u164, u165, u166, u167, u168, u169, u170, u171, u172, u173, u174, u175, u176, u177, u178, u179, u180, u181, u182, u183, u184, u185, u186, u187, u188, u189, u190, u191, u192, u193, u194, u195, u196, u197, u198, u199, u200, u201, u202, u203, u204, u205, u206, u207, u208, u209, u210, u211, u212, u213, u214, u215, u216, u217, u218, u219, u220, u221, u222, u223, u224, u225, u226, u227, u228, u229, u230, u231, u232, u233, u234, u235, u236, u237, u238, u239, u240, u241, u242, u243, u244, u245, u246, u247, u248, u249, u250, u251, u252, u253, u254, u255, u256, u257, u258, u259, u260, u261, u262, u263, u264, u265, u266, u267, u268, u269, u270, u271, u272, u273, u274, u275, u276, u277, u278, u279, u280, u281, u282, u283, u284, u285, u286, u287, u288, u289, u290, u291, u292, u293, u294, u295, u296, u297, u298, u299, u300, u301, u302, u303, u304, u305, u306, u307, u308, u309, u310, u311, u312, u313, u314, u315, u316, u317, u318, u319, u320, u321, u322, u323, u324, u325, u326, u327, u328, u329, u330, u331, u332, u333, u334, u335, u336, u337, u338, u339, u340, u341, u342, u343, u344, u345, u346, u347, u348, u349, u350, u351, u352, u353, u354, u355, u356, u357, u358, u359, u360, u361, u362, u363, u364, u365, u366, u367, u368, u369, u370, u371, u372, u373, u374, u375, u376, u377, u378, u379, u380, u381, u382, u383, u384, u385, u386, u387, u388, u389, u390, u391, u392, u393, u394, u395, u396, u397, u398, u399, u400, u401, u402, u403, u404, u405, u406, u407, u408, u409, u410, u411, u412, u413, u414, u415, u416, u417, u418, u419, u420, u421, u422, u423, u424, u425, u426, u427, u428, u429, u430, u431, u432, u433, u434, u435, u436, u437, u438, u439, u440, u441, u442, u443, u444, u445, u446, u447, u448, u449, u450, u451, u452, u453], defers := [] } wz := by
  unfold Part
  conv => arg 2; whnf
  have H_htab := Box.mk htab
  have H_her := Box.mk her
  clear htab her
  go_wp2_with fail
  with_reducible refine (form_bad _ _ (by decide +kernel) (H_her.out _ hb) (fun W hb' => H_htab.out W (bchain hb hb'))).mono ?_
  rintro e w1 ⟨rfl, hc1⟩
  have hb1 : Below w.heap.size w w1 := bchain (by repeat' (first | with_reducible exact hb | with_reducible refine Below.drew ?_ | with_reducible refine below_drewN ?_ _ | with_reducible refine Below.alloc ?_ (by have := hb.size; first | (simp; done) | (simp; omega) | omega) _ | with_reducible refine Below.setCell ?_ (by first | (simp; done) | (simp; omega) | omega) _)) hc1
  have hst1 : Below wz.heap.size wz w1 := bchain (by repeat' (first | with_reducible exact Below.refl _ _ | with_reducible refine Below.drew ?_ | with_reducible refine below_drewN ?_ _ | with_reducible refine Below.alloc ?_ (by first | (simp; done) | (simp; omega) | omega) _ | with_reducible refine Below.setCell ?_ (by first | (simp; done) | (simp; omega) | omega) _)) hc1
  replace g7 := g7.later hst1
  replace g9 := g9.later hst1
  clear hst1
  clear hc1 hb
  go_wp2_with fail
  with_reducible refine (form_bad _ _ (by decide +kernel) (H_her.out _ hb1) (fun W hb' => H_htab.out W (bchain hb1 hb'))).mono ?_
  rintro e w2 ⟨rfl, hc2⟩
  have hb2 : Below w.heap.size w w2 := bchain (by repeat' (first | with_reducible exact hb1 | with_reducible refine Below.drew ?_ | with_reducible refine below_drewN ?_ _ | with_reducible refine Below.alloc ?_ (by have := hb1.size; first | (simp; done) | (simp; omega) | omega) _ | with_reducible refine Below.setCell ?_ (by first | (simp; done) | (simp; omega) | omega) _)) hc2
  have hst2 : Below w1.heap.size w1 w2 := bchain (by repeat' (first | with_reducible exact Below.refl _ _ | with_reducible refine Below.drew ?_ | with_reducible refine below_drewN ?_ _ | with_reducible refine Below.alloc ?_ (by first | (simp; done) | (simp; omega) | omega) _ | with_reducible refine Below.setCell ?_ (by first | (simp; done) | (simp; omega) | omega) _)) hc2
  replace g7 := g7.later hst2
  replace g9 := g9.later hst2
  clear hst2
  clear hc2 hb1
  go_wp2_with fail
  with_reducible refine (form_bad _ _ (by decide +kernel) (H_her.out _ hb2) (fun W hb' => H_htab.out W (bchain hb2 hb'))).mono ?_
  rintro e w3 ⟨rfl, hc3⟩
  have hb3 : Below w.heap.size w w3 := bchain (by repeat' (first | with_reducible exact hb2 | with_reducible refine Below.drew ?_ | with_reducible refine below_drewN ?_ _ | with_reducible refine Below.alloc ?_ (by have := hb2.size; first | (simp; done) | (simp; omega) | omega) _ | with_reducible refine Below.setCell ?_ (by first | (simp; done) | (simp; omega) | omega) _)) hc3
  have hst3 : Below w2.heap.size w2 w3 := bchain (by repeat' (first | with_reducible exact Below.refl _ _ | with_reducible refine Below.drew ?_ | with_reducible refine below_drewN ?_ _ | with_reducible refine Below.alloc ?_ (by first | (simp; done) | (simp; omega) | omega) _ | with_reducible refine Below.setCell ?_ (by first | (simp; done) | (simp; omega) | omega) _)) hc3
  replace g7 := g7.later hst3
  replace g9 := g9.later hst3
  clear hst3
  clear hc3 hb2
  go_wp2_with fail
  with_reducible refine (form_bad _ _ (by decide +kernel) (H_her.out _ hb3) (fun W hb' => H_htab.out W (bchain hb3 hb'))).mono ?_
  rintro e w4 ⟨rfl, hc4⟩
  have hb4 : Below w.heap.size w w4 := bchain (by repeat' (first | with_reducible exact hb3 | with_reducible refine Below.drew ?_ | with_reducible refine below_drewN ?_ _ | with_reducible refine Below.alloc ?_ (by have := hb3.size; first | (simp; done) | (simp; omega) | omega) _ | with_reducible refine Below.setCell ?_ (by first | (simp; done) | (simp; omega) | omega) _)) hc4
  have hst4 : Below w3.heap.size w3 w4 := bchain (by repeat' (first | with_reducible exact Below.refl _ _ | with_reducible refine Below.drew ?_ | with_reducible refine below_drewN ?_ _ | with_reducible refine Below.alloc ?_ (by first | (simp; done) | (simp; omega) | omega) _ | with_reducible refine Below.setCell ?_ (by first | (simp; done) | (simp; omega) | omega) _)) hc4
  replace g7 := g7.later hst4
  replace g9 := g9.later hst4
  clear hst4
  clear hc4 hb3
  go_wp2_with fail
  with_reducible refine (form_bad _ _ (by decide +kernel) (H_her.out _ hb4) (fun W hb' => H_htab.out W (bchain hb4 hb'))).mono ?_
  rintro e w5 ⟨rfl, hc5⟩
  have hb5 : Below w.heap.size w w5 := bchain (by repeat' (first | with_reducible exact hb4 | with_reducible refine Below.drew ?_ | with_reducible refine below_drewN ?_ _ | with_reducible refine Below.alloc ?_ (by have := hb4.size; first | (simp; done) | (simp; omega) | omega) _ | with_reducible refine Below.setCell ?_ (by first | (simp; done) | (simp; omega) | omega) _)) hc5
  have hst5 : Below w4.heap.size w4 w5 := bchain (by repeat' (first | with_reducible exact Below.refl _ _ | with_reducible refine Below.drew ?_ | with_reducible refine below_drewN ?_ _ | with_reducible refine Below.alloc ?_ (by first | (simp; done) | (simp; omega) | omega) _ | with_reducible refine Below.setCell ?_ (by first | (simp; done) | (simp; omega) | omega) _)) hc5
  replace g7 := g7.later hst5
  replace g9 := g9.later hst5
  clear hst5
  clear hc5 hb4
  go_wp2_with fail
  with_reducible refine (form_bad _ _ (by decide +kernel) (H_her.out _ hb5) (fun W hb' => H_htab.out W (bchain hb5 hb'))).mono ?_
  rintro e w6 ⟨rfl, hc6⟩
  have hb6 : Below w.heap.size w w6 := bchain (by repeat' (first | with_reducible exact hb5 | with_reducible refine Below.drew ?_ | with_reducible refine below_drewN ?_ _ | with_reducible refine Below.alloc ?_ (by have := hb5.size; first | (simp; done) | (simp; omega) | omega) _ | with_reducible refine Below.setCell ?_ (by first | (simp; done) | (simp; omega) | omega) _)) hc6
  have hst6 : Below w5.heap.size w5 w6 := bchain (by repeat' (first | with_reducible exact Below.refl _ _ | with_reducible refine Below.drew ?_ | with_reducible refine below_drewN ?_ _ | with_reducible refine Below.alloc ?_ (by first | (simp; done) | (simp; omega) | omega) _ | with_reducible refine Below.setCell ?_ (by first | (simp; done) | (simp; omega) | omega) _)) hc6
  replace g7 := g7.later hst6
  replace g9 := g9.later hst6
  clear hst6
  clear hc6 hb5
  go_wp2_with fail
  with_reducible refine (form_bad _ _ (by decide +kernel) (H_her.out _ hb6) (fun W hb' => H_htab.out W (bchain hb6 hb'))).mono ?_
  rintro e w7 ⟨rfl, hc7⟩
  have hb7 : Below w.heap.size w w7 := bchain (by repeat' (first | with_reducible exact hb6 | with_reducible refine Below.drew ?_ | with_reducible refine below_drewN ?_ _ | with_reducible refine Below.alloc ?_ (by have := hb6.size; first | (simp; done) | (simp; omega) | omega) _ | with_reducible refine Below.setCell ?_ (by first | (simp; done) | (simp; omega) | omega) _)) hc7
  have hst7 : Below w6.heap.size w6 w7 := bchain (by repeat' (first | with_reducible exact Below.refl _ _ | with_reducible refine Below.drew ?_ | with_reducible refine below_drewN ?_ _ | with_reducible refine Below.alloc ?_ (by first | (simp; done) | (simp; omega) | omega) _ | with_reducible refine Below.setCell ?_ (by first | (simp; done) | (simp; omega) | omega) _)) hc7
  replace g7 := g7.later hst7
  replace g9 := g9.later hst7
  clear hst7
  clear hc7 hb6
  go_wp2_with fail
  with_reducible refine (form_bad _ _ (by decide +kernel) (H_her.out _ hb7) (fun W hb' => H_htab.out W (bchain hb7 hb'))).mono ?_
  rintro e w8 ⟨rfl, hc8⟩
  have hb8 : Below w.heap.size w w8 := bchain (by repeat' (first | with_reducible exact hb7 | with_reducible refine Below.drew ?_ | with_reducible refine below_drewN ?_ _ | with_reducible refine Below.alloc ?_ (by have := hb7.size; first | (simp; done) | (simp; omega) | omega) _ | with_reducible refine Below.setCell ?_ (by first | (simp; done) | (simp; omega) | omega) _)) hc8
  have hst8 : Below w7.heap.size w7 w8 := bchain (by repeat' (first | with_reducible exact Below.refl _ _ | with_reducible refine Below.drew ?_ | with_reducible refine below_drewN ?_ _ | with_reducible refine Below.alloc ?_ (by first | (simp; done) | (simp; omega) | omega) _ | with_reducible refine Below.setCell ?_ (by first | (simp; done) | (simp; omega) | omega) _)) hc8
  replace g7 := g7.later hst8
  replace g9 := g9.later hst8
  clear hst8
  clear hc8 hb7
  go_wp2_with fail
  with_reducible refine (form_bad _ _ (by decide +kernel) (H_her.out _ hb8) (fun W hb' => H_htab.out W (bchain hb8 hb'))).mono ?_
  rintro e w9 ⟨rfl, hc9⟩
  have hb9 : Below w.heap.size w w9 := bchain (by repeat' (first | with_reducible exact hb8 | with_reducible refine Below.drew ?_ | with_reducible refine below_drewN ?_ _ | with_reducible refine Below.alloc ?_ (by have := hb8.size; first | (simp; done) | (simp; omega) | omega) _ | with_reducible refine Below.setCell ?_ (by first | (simp; done) | (simp; omega) | omega) _)) hc9
  have hst9 : Below w8.heap.size w8 w9 := bchain (by repeat' (first | with_reducible exact Below.refl _ _ | with_reducible refine Below.drew ?_ | with_reducible refine below_drewN ?_ _ | with_reducible refine Below.alloc ?_ (by first | (simp; done) | (simp; omega) | omega) _ | with_reducible refine Below.setCell ?_ (by first | (simp; done) | (simp; omega) | omega) _)) hc9
  replace g7 := g7.later hst9
  replace g9 := g9.later hst9
  clear hst9
  clear hc9 hb8
  go_wp2_with fail
  with_reducible refine (form_bad _ _ (by decide +kernel) (H_her.out _ hb9) (fun W hb' => H_htab.out W (bchain hb9 hb'))).mono ?_
  rintro e w10 ⟨rfl, hc10⟩
  have hb10 : Below w.heap.size w w10 := bchain (by repeat' (first | with_reducible exact hb9 | with_reducible refine Below.drew ?_ | with_reducible refine below_drewN ?_ _ | with_reducible refine Below.alloc ?_ (by have := hb9.size; first | (simp; done) | (simp; omega) | omega) _ | with_reducible refine Below.setCell ?_ (by first | (simp; done) | (simp; omega) | omega) _)) hc10
  have hst10 : Below w9.heap.size w9 w10 := bchain (by repeat' (first | with_reducible exact Below.refl _ _ | with_reducible refine Below.drew ?_ | with_reducible refine below_drewN ?_ _ | with_reducible refine Below.alloc ?_ (by first | (simp; done) | (simp; omega) | omega) _ | with_reducible refine Below.setCell ?_ (by first | (simp; done) | (simp; omega) | omega) _)) hc10
  replace g7 := g7.later hst10
  replace g9 := g9.later hst10
  clear hst10
  clear hc10 hb9
  go_wp2_with fail
  with_reducible refine (form_bad _ _ (by decide +kernel) (H_her.out _ hb10) (fun W hb' => H_htab.out W (bchain hb10 hb'))).mono ?_
  rintro e w11 ⟨rfl, hc11⟩
  have hb11 : Below w.heap.size w w11 := bchain (by repeat' (first | with_reducible exact hb10 | with_reducible refine Below.drew ?_ | with_reducible refine below_drewN ?_ _ | with_reducible refine Below.alloc ?_ (by have := hb10.size; first | (simp; done) | (simp; omega) | omega) _ | with_reducible refine Below.setCell ?_ (by first | (simp; done) | (simp; omega) | omega) _)) hc11
  have hst11 : Below w10.heap.size w10 w11 := bchain (by repeat' (first | with_reducible exact Below.refl _ _ | with_reducible refine Below.drew ?_ | with_reducible refine below_drewN ?_ _ | with_reducible refine Below.alloc ?_ (by first | (simp; done) | (simp; omega) | omega) _ | with_reducible refine Below.setCell ?_ (by first | (simp; done) | (simp; omega) | omega) _)) hc11
  replace g7 := g7.later hst11
  replace g9 := g9.later hst11
  clear hst11
  clear hc11 hb10
  go_wp2_with fail
  with_reducible refine (form_bad _ _ (by decide +kernel) (H_her.out _ hb11) (fun W hb' => H_htab.out W (bchain hb11 hb'))).mono ?_
  rintro e w12 ⟨rfl, hc12⟩
  have hb12 : Below w.heap.size w w12 := bchain (by repeat' (first | with_reducible exact hb11 | with_reducible refine Below.drew ?_ | with_reducible refine below_drewN ?_ _ | with_reducible refine Below.alloc ?_ (by have := hb11.size; first | (simp; done) | (simp; omega) | omega) _ | with_reducible refine Below.setCell ?_ (by first | (simp; done) | (simp; omega) | omega) _)) hc12
  have hst12 : Below w11.heap.size w11 w12 := bchain (by repeat' (first | with_reducible exact Below.refl _ _ | with_reducible refine Below.drew ?_ | with_reducible refine below_drewN ?_ _ | with_reducible refine Below.alloc ?_ (by first | (simp; done) | (simp; omega) | omega) _ | with_reducible refine Below.setCell ?_ (by first | (simp; done) | (simp; omega) | omega) _)) hc12
  replace g7 := g7.later hst12
  replace g9 := g9.later hst12
  clear hst12
  clear hc12 hb11
  go_wp2_with fail
  with_reducible refine (form_bad _ _ (by decide +kernel) (H_her.out _ hb12) (fun W hb' => H_htab.out W (bchain hb12 hb'))).mono ?_
  rintro e w13 ⟨rfl, hc13⟩
  have hb13 : Below w.heap.size w w13 := bchain (by repeat' (first | with_reducible exact hb12 | with_reducible refine Below.drew ?_ | with_reducible refine below_drewN ?_ _ | with_reducible refine Below.alloc ?_ (by have := hb12.size; first | (simp; done) | (simp; omega) | omega) _ | with_reducible refine Below.setCell ?_ (by first | (simp; done) | (simp; omega) | omega) _)) hc13
  have hst13 : Below w12.heap.size w12 w13 := bchain (by repeat' (first | with_reducible exact Below.refl _ _ | with_reducible refine Below.drew ?_ | with_reducible refine below_drewN ?_ _ | with_reducible refine Below.alloc ?_ (by first | (simp; done) | (simp; omega) | omega) _ | with_reducible refine Below.setCell ?_ (by first | (simp; done) | (simp; omega) | omega) _)) hc13
  replace g7 := g7.later hst13
  replace g9 := g9.later hst13
  clear hst13
  clear hc13 hb12
  go_wp2_with fail
  with_reducible refine (form_bad _ _ (by decide +kernel) (H_her.out _ hb13) (fun W hb' => H_htab.out W (bchain hb13 hb'))).mono ?_
  rintro e w14 ⟨rfl, hc14⟩
  have hb14 : Below w.heap.size w w14 := bchain (by repeat' (first | with_reducible exact hb13 | with_reducible refine Below.drew ?_ | with_reducible refine below_drewN ?_ _ | with_reducible refine Below.alloc ?_ (by have := hb13.size; first | (simp; done) | (simp; omega) | omega) _ | with_reducible refine Below.setCell ?_ (by first | (simp; done) | (simp; omega) | omega) _)) hc14
  have hst14 : Below w13.heap.size w13 w14 := bchain (by repeat' (first | with_reducible exact Below.refl _ _ | with_reducible refine Below.drew ?_ | with_reducible refine below_drewN ?_ _ | with_reducible refine Below.alloc ?_ (by first | (simp; done) | (simp; omega) | omega) _ | with_reducible refine Below.setCell ?_ (by first | (simp; done) | (simp; omega) | omega) _)) hc14
  replace g7 := g7.later hst14
  replace g9 := g9.later hst14
  clear hst14
  clear hc14 hb13
  go_wp2_with fail
  with_reducible refine (form_bad _ _ (by decide +kernel) (H_her.out _ hb14) (fun W hb' => H_htab.out W (bchain hb14 hb'))).mono ?_
  rintro e w15 ⟨rfl, hc15⟩
  have hb15 : Below w.heap.size w w15 := bchain (by repeat' (first | with_reducible exact hb14 | with_reducible refine Below.drew ?_ | with_reducible refine below_drewN ?_ _ | with_reducible refine Below.alloc ?_ (by have := hb14.size; first | (simp; done) | (simp; omega) | omega) _ | with_reducible refine Below.setCell ?_ (by first | (simp; done) | (simp; omega) | omega) _)) hc15
  have hst15 : Below w14.heap.size w14 w15 := bchain (by repeat' (first | with_reducible exact Below.refl _ _ | with_reducible refine Below.drew ?_ | with_reducible refine below_drewN ?_ _ | with_reducible refine Below.alloc ?_ (by first | (simp; done) | (simp; omega) | omega) _ | with_reducible refine Below.setCell ?_ (by first | (simp; done) | (simp; omega) | omega) _)) hc15
  replace g7 := g7.later hst15
  replace g9 := g9.later hst15
  clear hst15
  clear hc15 hb14
  go_wp2_with fail
  with_reducible refine (form_bad _ _ (by decide +kernel) (H_her.out _ hb15) (fun W hb' => H_htab.out W (bchain hb15 hb'))).mono ?_
  rintro e w16 ⟨rfl, hc16⟩
  have hb16 : Below w.heap.size w w16 := bchain (by repeat' (first | with_reducible exact hb15 | with_reducible refine Below.drew ?_ | with_reducible refine below_drewN ?_ _ | with_reducible refine Below.alloc ?_ (by have := hb15.size; first | (simp; done) | (simp; omega) | omega) _ | with_reducible refine Below.setCell ?_ (by first | (simp; done) | (simp; omega) | omega) _)) hc16
  have hst16 : Below w15.heap.size w15 w16 := bchain (by repeat' (first | with_reducible exact Below.refl _ _ | with_reducible refine Below.drew ?_ | with_reducible refine below_drewN ?_ _ | with_reducible refine Below.alloc ?_ (by first | (simp; done) | (simp; omega) | omega) _ | with_reducible refine Below.setCell ?_ (by first | (simp; done) | (simp; omega) | omega) _)) hc16
  replace g7 := g7.later hst16
  replace g9 := g9.later hst16
  clear hst16
  clear hc16 hb15
  go_wp2_with fail
  with_reducible refine (form_bad _ _ (by decide +kernel) (H_her.out _ hb16) (fun W hb' => H_htab.out W (bchain hb16 hb'))).mono ?_
  rintro e w17 ⟨rfl, hc17⟩
  have hb17 : Below w.heap.size w w17 := bchain (by repeat' (first | with_reducible exact hb16 | with_reducible refine Below.drew ?_ | with_reducible refine below_drewN ?_ _ | with_reducible refine Below.alloc ?_ (by have := hb16.size; first | (simp; done) | (simp; omega) | omega) _ | with_reducible refine Below.setCell ?_ (by first | (simp; done) | (simp; omega) | omega) _)) hc17
  have hst17 : Below w16.heap.size w16 w17 := bchain (by repeat' (first | with_reducible exact Below.refl _ _ | with_reducible refine Below.drew ?_ | with_reducible refine below_drewN ?_ _ | with_reducible refine Below.alloc ?_ (by first | (simp; done) | (simp; omega) | omega) _ | with_reducible refine Below.setCell ?_ (by first | (simp; done) | (simp; omega) | omega) _)) hc17
  replace g7 := g7.later hst17
  replace g9 := g9.later hst17
  clear hst17
  clear hc17 hb16
  go_wp2_with fail
  with_reducible refine (form_bad _ _ (by decide +kernel) (H_her.out _ hb17) (fun W hb' => H_htab.out W (bchain hb17 hb'))).mono ?_
  rintro e w18 ⟨rfl, hc18⟩
  have hb18 : Below w.heap.size w w18 := bchain (by repeat' (first | with_reducible exact hb17 | with_reducible refine Below.drew ?_ | with_reducible refine below_drewN ?_ _ | with_reducible refine Below.alloc ?_ (by have := hb17.size; first | (simp; done) | (simp; omega) | omega) _ | with_reducible refine Below.setCell ?_ (by first | (simp; done) | (simp; omega) | omega) _)) hc18
  have hst18 : Below w17.heap.size w17 w18 := bchain (by repeat' (first | with_reducible exact Below.refl _ _ | with_reducible refine Below.drew ?_ | with_reducible refine below_drewN ?_ _ | with_reducible refine Below.alloc ?_ (by first | (simp; done) | (simp; omega) | omega) _ | with_reducible refine Below.setCell ?_ (by first | (simp; done) | (simp; omega) | omega) _)) hc18
  replace g7 := g7.later hst18
  replace g9 := g9.later hst18
  clear hst18
  clear hc18 hb17
  obtain ⟨i0, hi, hz0, hz1, hz2⟩ := info_parts info_u8x
  obtain ⟨zb, hzb⟩ : ∃ zb, (⟨(List.replicate 1000 (0 : UInt8)).toArray⟩ : ByteArray) = zb := ⟨_, rfl⟩
  have hzs : bad12 zb = true := by rw [← hzb]; decide +kernel
  go_wp2_with (refine wpList_makeNG (by rfl) 43 _ _ rfl 1000 (by rfl) (by rfl) 5 i0 (.int .u8 0) Tryd.underlying43 hi hz0 hz1 (by rw [hz2]; omega) (by omega) rfl ?_; intro b19 w19 hc19 k19; have hcv := conv_zeros w19 b19 1000 k19; rw [hzb] at hcv)
  have hb19 : Below w.heap.size w w19 := bchain (by repeat' (first | with_reducible exact hb18 | with_reducible refine Below.drew ?_ | with_reducible refine below_drewN ?_ _ | with_reducible refine Below.alloc ?_ (by have := hb18.size; first | (simp; done) | (simp; omega) | omega) _ | with_reducible refine Below.setCell ?_ (by first | (simp; done) | (simp; omega) | omega) _)) hc19
  have hst19 : Below w18.heap.size w18 w19 := bchain (by repeat' (first | with_reducible exact Below.refl _ _ | with_reducible refine Below.drew ?_ | with_reducible refine below_drewN ?_ _ | with_reducible refine Below.alloc ?_ (by first | (simp; done) | (simp; omega) | omega) _ | with_reducible refine Below.setCell ?_ (by first | (simp; done) | (simp; omega) | omega) _)) hc19
  replace g7 := g7.later hst19
  replace g9 := g9.later hst19
  clear hst19
  clear hc19 k19 hzb
  go_wp2_with fail
  with_reducible refine (form_bad zb _ hzs (H_her.out _ hb19) (fun W hb' => H_htab.out W (bchain hb19 hb'))).mono ?_
  rintro e w20 ⟨rfl, hc20⟩
  have hb20 : Below w.heap.size w w20 := bchain (by repeat' (first | with_reducible exact hb19 | with_reducible refine Below.drew ?_ | with_reducible refine below_drewN ?_ _ | with_reducible refine Below.alloc ?_ (by have := hb19.size; first | (simp; done) | (simp; omega) | omega) _ | with_reducible refine Below.setCell ?_ (by first | (simp; done) | (simp; omega) | omega) _)) hc20
  have hst20 : Below w19.heap.size w19 w20 := bchain (by repeat' (first | with_reducible exact Below.refl _ _ | with_reducible refine Below.drew ?_ | with_reducible refine below_drewN ?_ _ | with_reducible refine Below.alloc ?_ (by first | (simp; done) | (simp; omega) | omega) _ | with_reducible refine Below.setCell ?_ (by first | (simp; done) | (simp; omega) | omega) _)) hc20
  replace g7 := g7.later hst20
  replace g9 := g9.later hst20
  clear hst20
  clear hc20 hb19
  go_upto_region 31 with (fail)
  refine wp_gen fun w21 hc21 => ?_
  have hb21 : Below w.heap.size w w21 := bchain (by repeat' (first | with_reducible exact hb20 | with_reducible refine Below.drew ?_ | with_reducible refine below_drewN ?_ _ | with_reducible refine Below.alloc ?_ (by have := hb20.size; first | (simp; done) | (simp; omega) | omega) _ | with_reducible refine Below.setCell ?_ (by first | (simp; done) | (simp; omega) | omega) _)) hc21
  have hst21 : Below w20.heap.size w20 w21 := bchain (by repeat' (first | with_reducible exact Below.refl _ _ | with_reducible refine Below.drew ?_ | with_reducible refine below_drewN ?_ _ | with_reducible refine Below.alloc ?_ (by first | (simp; done) | (simp; omega) | omega) _ | with_reducible refine Below.setCell ?_ (by first | (simp; done) | (simp; omega) | omega) _)) hc21
  replace g7 := g7.later hst21
  replace g9 := g9.later hst21
  clear hst21
  clear hc21 hb20
  rw [cut30]
  exact wp_seq (part31 w _ hb21 H_htab.out H_her.out B7 B9 c7 c9 a7 a9 g7 g9 _ _ _ _ _ _ _ _ _ _ _ _ _ _ _ _ _ _ _ _ _ _ _ _ _ _ _ _ _ _ _ _ _ _ _ _ _ _ _ _ _ _ _ _ _ _ _ _ _ _ _ _ _ _ _ _ _ _ _ _ _ _ _ _ _ _ _ _ _ _ _ _ _ _ _ _ _ _ _ _ _ _ _ _ _ _ _ _ _ _ _ _ _ _ _ _ _ _ _ _ _ _ _ _ _ _ _ _ _ _ _ _ _ _ _ _ _ _ _ _ _ _ _ _ _ _ _ _ _ _ _ _ _ _ _ _ _ _ _ _ _ _ _ _ _ _ _ _ _ _ _ _ _ _ _ _ _ _ _ _ _ _ _ _ _ _ _ _ _ _ _ _ _ _ _ _ _ _ _ _ _ _ _ _ _ _ _ _ _ _ _ _ _ _ _ _ _ _ _ _ _ _ _ _ _ _ _ _ _ _ _ _ _ _ _ _ _ _ _ _ _ _ _ _ _ _ _ _ _ _ _ _ _ _ _ _ _ _ _ _ _ _ _ _ _ _ _ _ _ _ _ _ _ _ _ _ _ _ _ _ _ _ _ _ _ _ _ _ _ _ _ _ _ _ _ _ _ _ _ _ _ _ _ _ _ _ _ _ _ _ _ _ _ _ _ _ _ _ _ _ _ _ _ _ _ _ _ _ _ _ _ _ _ _ _ _ _ _ _ _ _ _ _ _ _ _ _ _ _ _ _ _ _ _ _ _ _ _ _ _ _ _ _ _ _ _ _ _ _ _ _ _ _ _ _ _ _ _ _ _ _ _ _ _ _ _ _ _ _ _ _ _ _ _ _ _ _ _ _ _ _ _ _ _ _ _ _ _ _ _ _ _ _ _ _ _ _ _ _ _ _ _ _ _ _ _ _ _ _ _ _ _ _ _ _ _ _ _ _ _ _ _ _ _ _ _ _ _ _ _ _ _ _ _ _ _ _ _ _ _ _ _ _ _ _ _ _ _)
end Go.Proofs.YthdldmkeoglflaaDoor

/- ConfigNames, regions 28 and 29: two texts are parsed. -/
namespace Go.Proofs.YthdldmkeoglflaaDoor
set_option linter.unusedSimpArgs false
set_option linter.unusedVariables false
set_option linter.unnecessarySimpa false
open Go.RowKit
set_option linter.unusedVariables false

theorem k_none : chkS L2x 5 [] = 0 := chk_ok (by decide) (by decide) (by decide) rfl (by decide) (by simp [distB])
theorem parse_bare (b : ByteArray) (w : World) (ht : textL L2x 5 [] = b.data.toList) (hb : b.size ≤ 100000) (hE : ErrIn w) (htab : ∀ W, Below w.heap.size w W → Lib.TabIs Tryd.prog W "internal/strconv.uint64pow10" .u64 Lib.pow10Tab) :
    Calls Tryd.prog 13 #[.string b] w fun e w' =>
      (∃ a' c', e = .returned (.tuple #[.agg #[.int .i64 2, .int .i64 2, .int .i64 2, .int .i64 2, .int .i64 2, .int .i64 2, .int .i64 2, .int .i64 2, .int .i64 2, .int .u32 5, .slice a' 0 c'], .int .i64 0]) ∧ CellsAt w' a' (cel [])) ∧ Below w.heap.size w w' := by
  refine (Parse_any b w hb hE htab).mono ?_
  rintro e w' ⟨h, hbl⟩
  exact ⟨RetS.of h (pz_of (CV.of k_none) (PsOk.of (by decide +kernel) (by decide)).keys ht), hbl⟩
theorem parse_text (b : ByteArray) (w : World) (ht : textL L2x 5 [(⟨#[98]⟩, 16)] = b.data.toList) (hb : b.size ≤ 100000) (hE : ErrIn w) (htab : ∀ W, Below w.heap.size w W → Lib.TabIs Tryd.prog W "internal/strconv.uint64pow10" .u64 Lib.pow10Tab) :
    Calls Tryd.prog 13 #[.string b] w fun e w' =>
      (∃ a' c', e = .returned (.tuple #[.agg #[.int .i64 2, .int .i64 2, .int .i64 2, .int .i64 2, .int .i64 2, .int .i64 2, .int .i64 2, .int .i64 2, .int .i64 2, .int .u32 5, .slice a' 1 c'], .int .i64 0]) ∧ CellsAt w' a' (cel [(⟨#[98]⟩, 16)])) ∧ Below w.heap.size w w' := by
  refine (Parse_any b w hb hE htab).mono ?_
  rintro e w' ⟨h, hbl⟩
  exact ⟨RetS.of h (pz_of (CV.of pB_chk) (PsOk.of (by decide +kernel) (by decide)).keys ht), hbl⟩
set_option maxRecDepth 100000 in
set_option maxHeartbeats 20000000 in
theorem part28 (w wz : World) (hb : Below w.heap.size w wz) (htab : ∀ W, Below w.heap.size w W → Lib.TabIs Tryd.prog W "internal/strconv.uint64pow10" .u64 Lib.pow10Tab) (her : ∀ W, Below w.heap.size w W → ErrIn W)
    (u0 u1 u2 u4 u5 u6 u7 u8 u9 u10 u11 u12 u13 u14 u15 u16 u17 u18 u19 u20 u21 u22 u23 u24 u25 u26 u27 u28 u29 u30 u31 u32 u33 u34 u35 u36 u37 u38 u39 u40 u41 u42 u43 u44 u45 u46 u47 u48 u49 u50 u51 u52 u53 u54 u55 u56 u57 u58 u59 u60 u61 u62 u63 u64 u65 u66 u67 u68 u69 u70 u71 u72 u73 u74 u75 u76 u77 u78 u79 u80 u81 u82 u83 u84 u85 u86 u87 u88 u89 u90 u91 u92 u93 u94 u95 u96 u97 u98 u99 u100 u101 u102 u103 u104 u105 u106 u107 u108 u109 u110 u111 u112 u113 u114 u115 u116 u117 u118 u119 u120 u121 u122 u123 u124 u125 u126 u127 u128 u129 u130 u131 u132 u133 u134 u135 u136 u137 u138 u139 u140 u141 u142 u143 u144 u145 u146 u147 u148 u149 u150 u151 u152 u153 u154 u155 u156 u157 u158 u159 u160 u161 u162 u163 u164 u165 u166 u167 u168 u169 u170 u171 u172 u173 u174 u175 u176 u177 u178 u179 u180 u181 u182 u183 u184 u185 u186 u187 u188 u189 u190 u191 u192 u193 u194 u195 u196 u197 u198 u199 u200 u201 u202 u203 u204 u205 u206 u207 u208 u209 u210 u211 u212 u213 u214 u215 u216 u217 u218 u219 u220 u221 u222 u223 u224 u225 u226 u227 u228 u229 u230 u231 u232 u233 u234 u235 u236 u237 u238 u239 u240 u241 u242 u243 u244 u245 u246 u247 u248 u249 u250 u251 u252 u253 u254 u255 u256 u257 u258 u259 u260 u261 u262 u263 u264 u265 u266 u267 u268 u269 u270 u271 u272 u273 u274 u275 u276 u277 u278 u279 u280 u281 u282 u283 u284 u285 u286 u287 u288 u289 u290 u291 u292 u293 u294 u295 u296 u297 u298 u299 u300 u301 u302 u303 u304 u305 u306 u307 u308 u309 u310 u311 u312 u313 u314 u315 u316 u317 u318 u319 u320 u321 u322 u323 u324 u325 u326 u327 u328 u329 u330 u331 u332 u333 u334 u335 u336 u337 u338 u339 u340 u341 u342 u343 u344 u345 u346 u347 u348 u349 u350 u351 u352 u353 u354 u355 u356 u357 u358 u359 u360 u361 u362 u363 u364 u365 u366 u367 u368 u369 u370 u371 u372 u373 u374 u375 u376 u377 u378 u379 u380 u381 u382 u383 u384 u385 u386 u387 u388 u389 u390 u391 u392 u393 u394 u395 u396 u397 u398 u399 u400 u401 u402 u403 u404 u405 u406 u407 u408 u409 u410 u411 u412 u413 u414 u415 u416 u417 u418 u419 u420 u421 u422 u423 u424 u425 u426 u427 u428 u429 u430 u431 u432 u433 u434 u435 u436 u437 u438 u439 u440 u441 u442 u443 u444 u445 u446 u447 u448 u449 u450 u451 u452 u453 : Value) :
    Part w 28 { tmps := #[u0, u1, u2, .bool true, u4, u5, u6, u7, u8, u9, u10, u11, u12, u13, u14, u15, u16, u17, u18, u19, u20, u21, u22, u23, u24, u25, u26, u27, u28, u29, u30, u31, u32, u33, u34, u35, u36, u37, u38, u39, u40, u41, u42, u43, u44, u45, u46, u47, u48, u49, u50, u51, u52, u53, u54, u55, u56, u57, u58, u59, u60, u61, u62, u63, u64, u65, u66, u67, u68, u69, u70, u71, u72, u73, u74, u75, u76, u77, u78, u79, u80, u81, u82, u83, u84, u85, u86, u87, u88, u89, u90, u91, u92, u93, u94, u95, u96, u97, u98, u99, u100, u101, u102, u103, u104, u105, u106, u107, u108, u109, u110, u111, u112, u113, u114, u115, u116, u117, u118, u119, u120, u121, u122, u123, u124, u125, u126, u127, u128, u129, u130, u131, u132, u133, u134, u135, u136, u137, u138, u139, u140, u141, u142, u143, u144, u145, u146, u147, u148, u149, u150, u151, u152, u153, u154, u155, u156, u157, u158, u159, u160, u161, u162, u163, u164, u165, u166, u167, u168, u169, u170, u171, u172, u173, u174, u175, u176, u177, u178, u179, u180, u181, u182, u183, u184, u185, u186, u187, u188, u189, u190, u191, u192, u193, u194, u195, u196, u197, u198, u199, u200, u201, u202, u203, u204, u205, u206, u207, u208, u209, u210, u211, u212, u213, u214, u215, u216, u217, u218, u219, u220, u221, u222, u223, u224, u225, u226, u227, u228, u229, u230, u231, u232, u233, u234, u235, u236, u237, u238, u239, u240, u241, u242, u243, u244, u245, u246, u247, u248, u249, u250, u251, u252, u253, u254, u255, u256, u257, u258, u259, u260, u261, u262, u263, u264, u265, u266, u267, u268, u269, u270, u271, u272, u273, u274, u275, u276, u277, u278, u279, u280, u281, u282, u283, u284, u285, u286, u287, u288, u289, u290, u291, u292, u293, u294, u295, u296, u297, u298, u299, u300, u301, u302, u303, u304, u305, u306, u307, u308, u309, u310, u311, u312, u313, u314, u315, u316, u317, u318, u319, u320, u321, u322, u323, u324, u325, u326, u327, u328, u329, u330, u331, u332, u333, u334, u335, u336, u337, u338, u339, u340, u341, u342, u343, u344, u345, u346, u347, u348, u349, u350, u351, u352, u353, u354, u355, u356, u357, u358, u359, u360, u361, u362, u363, u364, u365, u366, u367, u368, u369, u370, u371, u372, u373, u374, u375, u376, u377, u378, u379, u380, u381, u382, u383, u384, u385, u386, u387, u388, u389, u390, u391, u392, u393, u394, u395, u396, u397, u398, u399, u400, u401, u402, u403, u404, u405, u406, u407, u408, u409, u410, u411, u412, u413, u414, u415, u416, u417, u418, u419, u420, u421, u422, u423, u424, u425, u426, u427, u428, u429, u430, u431, u432, u433, u434, u435, u436, u437, u438, u439, u440, u441, u442, u443, u444, u445, u446, u447, u448, u449, u450, u451, u452, u453], defers := [] } wz := by
  unfold Part
  conv => arg 2; whnf
  have H_htab := Box.mk htab
  have H_her := Box.mk her
  clear htab her
  go_wp2_with fail
  with_reducible refine (parse_bare _ _ (by decide +kernel) (by decide +kernel) (H_her.out _ hb) (fun W hb' => H_htab.out W (bchain hb hb'))).mono ?_
  rintro e w1 ⟨⟨a7, c7, rfl, k7⟩, hc1⟩
  have hb1 : Below w.heap.size w w1 := bchain (by repeat' (first | with_reducible exact hb | with_reducible refine Below.drew ?_ | with_reducible refine below_drewN ?_ _ | with_reducible refine Below.alloc ?_ (by have := hb.size; first | (simp; done) | (simp; omega) | omega) _ | with_reducible refine Below.setCell ?_ (by first | (simp; done) | (simp; omega) | omega) _)) hc1
  clear hc1 hb
  obtain ⟨B7, hB7⟩ : ∃ B, w1.heap.size = B := ⟨_, rfl⟩
  go_wp2_with fail
  try simp only [hB7]
  conv => arg 2; whnf
  refine wp_facts' (fun Wx => Below w.heap.size w Wx ∧ Below w1.heap.size w1 Wx ∧ Blk Wx B7 27 [.int .i64 2, .int .i64 2, .int .i64 2, .int .i64 2, .int .i64 2, .int .i64 2, .int .i64 2, .int .i64 2, .int .i64 2, .int .u32 5, .slice a7 0 c7]) ⟨(by repeat' (first | with_reducible exact hb1 | with_reducible refine Below.drew ?_ | with_reducible refine below_drewN ?_ _ | with_reducible refine Below.alloc ?_ (by have := hb1.size; first | (simp; done) | (simp; omega) | omega) _ | with_reducible refine Below.setCell ?_ (by first | (simp; done) | (simp; omega) | omega) _)), (Below.refl _ _).alloc (Nat.le_refl _) _, Blk.newA w1 _ _ 27 [.int .i64 2, .int .i64 2, .int .i64 2, .int .i64 2, .int .i64 2, .int .i64 2, .int .i64 2, .int .i64 2, .int .i64 2, .int .u32 5, .slice a7 0 c7] hB7 rfl⟩ ?_
  rintro w2 ⟨hb2, hc2, hXB7⟩
  replace k7 := k7.later hc2
  clear hc2
  go_wp2_with fail
  with_reducible refine (parse_text _ _ (by decide +kernel) (by decide +kernel) (H_her.out _ hb2) (fun W hb' => H_htab.out W (bchain hb2 hb'))).mono ?_
  rintro e w3 ⟨⟨a9, c9, rfl, k9⟩, hc3⟩
  have hb3 : Below w.heap.size w w3 := bchain (by repeat' (first | with_reducible exact hb2 | with_reducible refine Below.drew ?_ | with_reducible refine below_drewN ?_ _ | with_reducible refine Below.alloc ?_ (by have := hb2.size; first | (simp; done) | (simp; omega) | omega) _ | with_reducible refine Below.setCell ?_ (by first | (simp; done) | (simp; omega) | omega) _)) hc3
  have hst3 : Below w2.heap.size w2 w3 := bchain (by repeat' (first | with_reducible exact Below.refl _ _ | with_reducible refine Below.drew ?_ | with_reducible refine below_drewN ?_ _ | with_reducible refine Below.alloc ?_ (by first | (simp; done) | (simp; omega) | omega) _ | with_reducible refine Below.setCell ?_ (by first | (simp; done) | (simp; omega) | omega) _)) hc3
  replace k7 := k7.later hst3
  replace hXB7 := hXB7.later hst3
  clear hst3
  clear hc3 hb2
  obtain ⟨B9, hB9⟩ : ∃ B, w3.heap.size = B := ⟨_, rfl⟩
  go_upto_region 30 with fail
  try simp only [hB9]
  refine wp_facts' (fun Wx => Below w.heap.size w Wx ∧ Below w3.heap.size w3 Wx ∧ Blk Wx B9 27 [.int .i64 2, .int .i64 2, .int .i64 2, .int .i64 2, .int .i64 2, .int .i64 2, .int .i64 2, .int .i64 2, .int .i64 2, .int .u32 5, .slice a9 1 c9]) ⟨(by repeat' (first | with_reducible exact hb3 | with_reducible refine Below.drew ?_ | with_reducible refine below_drewN ?_ _ | with_reducible refine Below.alloc ?_ (by have := hb3.size; first | (simp; done) | (simp; omega) | omega) _ | with_reducible refine Below.setCell ?_ (by first | (simp; done) | (simp; omega) | omega) _)), (Below.refl _ _).alloc (Nat.le_refl _) _, Blk.newA w3 _ _ 27 [.int .i64 2, .int .i64 2, .int .i64 2, .int .i64 2, .int .i64 2, .int .i64 2, .int .i64 2, .int .i64 2, .int .i64 2, .int .u32 5, .slice a9 1 c9] hB9 rfl⟩ ?_
  rintro w4 ⟨hb4, hc4, hXB9⟩
  replace k7 := k7.later hc4
  replace hXB7 := hXB7.later hc4
  replace k9 := k9.later hc4
  clear hc4
  exact glue ‹_› (part30 w _ hb4 H_htab.out H_her.out B7 B9 c7 c9 a7 a9 ⟨hXB7.cellsAt2, k7⟩ ⟨hXB9.cellsAt2, k9⟩ _ _ _ _ _ _ _ _ _ _ _ _ _ _ _ _ _ _ _ _ _ _ _ _ _ _ _ _ _ _ _ _ _ _ _ _ _ _ _ _ _ _ _ _ _ _ _ _ _ _ _ _ _ _ _ _ _ _ _ _ _ _ _ _ _ _ _ _ _ _ _ _ _ _ _ _ _ _ _ _ _ _ _ _ _ _ _ _ _ _ _ _ _ _ _ _ _ _ _ _ _ _ _ _ _ _ _ _ _ _ _ _ _ _ _ _ _ _ _ _ _ _ _ _ _ _ _ _ _ _ _ _ _ _ _ _ _ _ _ _ _ _ _ _ _ _ _ _ _ _ _ _ _ _ _ _ _ _ _ _ _ _ _ _ _ _ _ _ _ _ _ _ _ _ _ _ _ _ _ _ _ _ _ _ _ _ _ _ _ _ _ _ _ _ _ _ _ _ _ _ _ _ _ _ _ _ _ _ _ _ _ _ _ _ _ _ _ _ _ _ _ _ _ _ _ _ _ _ _ _ _ _ _ _ _ _ _ _ _ _ _ _ _ _ _ _ _ _ _ _ _ _ _ _ _ _ _ _ _ _ _ _ _ _ _ _ _ _ _ _ _ _ _ _ _ _ _ _ _ _ _ _ _ _ _ _ _ _ _ _ _ _ _ _ _ _ _ _ _ _ _ _ _ _ _ _ _ _ _ _ _ _ _ _ _ _ _ _ _ _ _ _ _ _ _ _ _ _ _ _ _ _ _ _ _ _ _ _ _ _ _ _ _ _ _ _ _ _ _ _ _ _ _ _ _ _ _ _ _ _ _ _ _ _ _ _ _ _ _ _ _ _ _ _ _ _ _ _ _ _ _ _ _ _ _ _ _ _ _ _ _ _ _ _ _ _ _ _ _ _ _ _ _ _ _ _ _ _ _ _ _ _ _ _ _ _ _ _ _ _ _ _ _ _ _ _ _ _ _ _ _ _ _ _ _ _ _ _ _ _ _ _ _ _ _ _ _ _ _)
end Go.Proofs.YthdldmkeoglflaaDoor

/- ConfigNames: the law's walk. -/
namespace Go.Proofs.YthdldmkeoglflaaDoor
set_option linter.unusedSimpArgs false
set_option linter.unusedVariables false
set_option linter.unnecessarySimpa false
open Go.RowKit
set_option linter.unusedVariables false

open Go.Sort
theorem one9 (a b c d e f g h i : Int) : ∀ u ∈ ([.int .i64 a, .int .i64 b, .int .i64 c, .int .i64 d, .int .i64 e, .int .i64 f, .int .i64 g, .int .i64 h, .int .i64 i] : List Value), u.oneCell' = true := by
  intro u hu
  simp only [List.mem_cons, List.not_mem_nil, or_false] at hu
  rcases hu with rfl | rfl | rfl | rfl | rfl | rfl | rfl | rfl | rfl <;> rfl
theorem lim_yes (l0 l1 l2 l3 l4 l5 l6 l7 l8 : Int) (h : fitB (⟨l0, l1, l2, l3, l4, l5, l6, l7, l8⟩ : Lim) = true) (w : World) :
    Calls Tryd.prog 16 #[.agg #[.int .i64 l0, .int .i64 l1, .int .i64 l2, .int .i64 l3, .int .i64 l4, .int .i64 l5, .int .i64 l6, .int .i64 l7, .int .i64 l8]] w fun e w' =>
      e = .returned (.bool true) ∧ Below w.heap.size w w' := by
  have := limited_any l0 l1 l2 l3 l4 l5 l6 l7 l8 w
  rw [h] at this
  exact this
theorem lim_no (l0 l1 l2 l3 l4 l5 l6 l7 l8 : Int) (h : fitB (⟨l0, l1, l2, l3, l4, l5, l6, l7, l8⟩ : Lim) = false) (w : World) :
    Calls Tryd.prog 16 #[.agg #[.int .i64 l0, .int .i64 l1, .int .i64 l2, .int .i64 l3, .int .i64 l4, .int .i64 l5, .int .i64 l6, .int .i64 l7, .int .i64 l8]] w fun e w' =>
      e = .returned (.bool false) ∧ Below w.heap.size w w' := by
  have := limited_any l0 l1 l2 l3 l4 l5 l6 l7 l8 w
  rw [h] at this
  exact this
set_option maxRecDepth 100000 in
set_option maxHeartbeats 40000000 in
theorem names_walk (w : World) (htab : ∀ W, Below w.heap.size w W → Lib.TabIs Tryd.prog W "internal/strconv.uint64pow10" .u64 Lib.pow10Tab) (her : ∀ W, Below w.heap.size w W → ErrIn W) :
    Calls Tryd.prog 4 #[] w fun e w' =>
      e = .returned (.bool true) ∧ Below w.heap.size w w' := by
  have H_htab := Box.mk htab
  have H_her := Box.mk her
  clear htab her
  go_enter Tryd.func4, Tryd.ntmps4
  have hb0 := Below.refl w.heap.size w
  go_upto_region 3 with fail
  refine wp_facts' (fun Wx => Below w.heap.size w Wx ∧ Blk Wx w.heap.size 23 [.int .i64 1, .int .i64 1, .int .i64 1, .int .i64 1, .int .i64 1, .int .i64 1, .int .i64 1, .int .i64 1, .int .i64 1] ∧ Blk Wx (w.heap.size + 1) 23 [.int .i64 3, .int .i64 4, .int .i64 40, .int .i64 8, .int .i64 8, .int .i64 8, .int .i64 4, .int .i64 4, .int .i64 8]) ⟨(by repeat' (first | with_reducible exact hb0 | with_reducible refine Below.drew ?_ | with_reducible refine below_drewN ?_ _ | with_reducible refine Below.alloc ?_ (by have := hb0.size; first | (simp; done) | (simp; omega) | omega) _ | with_reducible refine Below.setCell ?_ (by first | (simp; done) | (simp; omega) | omega) _)), (Blk.newA w _ _ 23 [.int .i64 1, .int .i64 1, .int .i64 1, .int .i64 1, .int .i64 1, .int .i64 1, .int .i64 1, .int .i64 1, .int .i64 1] rfl rfl).alloc _, Blk.newA (w.alloc _) _ _ 23 [.int .i64 3, .int .i64 4, .int .i64 40, .int .i64 8, .int .i64 8, .int .i64 8, .int .i64 4, .int .i64 4, .int .i64 8] (by simp) rfl⟩ ?_
  rintro w0 ⟨hb1, X1, X2⟩
  go_wp2_with (refine wpList_load_blkG (by rfl) 23 _ rfl w.heap.size (by rfl) 23 _ _ X1 Tryd.underlying23 rfl infoC ?_)
  go_wp2_with fail
  with_reducible refine (lim_yes 1 1 1 1 1 1 1 1 1 (by decide) _).mono ?_
  rintro e w2 ⟨rfl, hc2⟩
  have hb2 : Below w.heap.size w w2 := bchain (by repeat' (first | with_reducible exact hb1 | with_reducible refine Below.drew ?_ | with_reducible refine below_drewN ?_ _ | with_reducible refine Below.alloc ?_ (by have := hb1.size; first | (simp; done) | (simp; omega) | omega) _ | with_reducible refine Below.setCell ?_ (by first | (simp; done) | (simp; omega) | omega) _)) hc2
  have hst2 : Below w0.heap.size w0 w2 := bchain (by repeat' (first | with_reducible exact Below.refl _ _ | with_reducible refine Below.drew ?_ | with_reducible refine below_drewN ?_ _ | with_reducible refine Below.alloc ?_ (by first | (simp; done) | (simp; omega) | omega) _ | with_reducible refine Below.setCell ?_ (by first | (simp; done) | (simp; omega) | omega) _)) hc2
  replace X1 := X1.later hst2
  replace X2 := X2.later hst2
  clear hst2
  clear hc2 hb1
  go_wp2_with (refine wpList_load_blkG (by rfl) 23 _ rfl (w.heap.size + 1) (by rfl) 23 _ _ X2 Tryd.underlying23 rfl infoC ?_)
  go_wp2_with fail
  with_reducible refine (lim_yes 3 4 40 8 8 8 4 4 8 (by decide) _).mono ?_
  rintro e w3 ⟨rfl, hc3⟩
  have hb3 : Below w.heap.size w w3 := bchain (by repeat' (first | with_reducible exact hb2 | with_reducible refine Below.drew ?_ | with_reducible refine below_drewN ?_ _ | with_reducible refine Below.alloc ?_ (by have := hb2.size; first | (simp; done) | (simp; omega) | omega) _ | with_reducible refine Below.setCell ?_ (by first | (simp; done) | (simp; omega) | omega) _)) hc3
  have hst3 : Below w2.heap.size w2 w3 := bchain (by repeat' (first | with_reducible exact Below.refl _ _ | with_reducible refine Below.drew ?_ | with_reducible refine below_drewN ?_ _ | with_reducible refine Below.alloc ?_ (by first | (simp; done) | (simp; omega) | omega) _ | with_reducible refine Below.setCell ?_ (by first | (simp; done) | (simp; omega) | omega) _)) hc3
  replace X1 := X1.later hst3
  replace X2 := X2.later hst3
  clear hst3
  clear hc3 hb2
  go_wp2_with fail
  go_loopw [3, 4] (fun l q wr => ∃ (k : Nat), k ≤ 9 ∧ q = .int .i64 k ∧ l = .bool true ∧ Below w.heap.size w wr ∧ Blk wr w.heap.size 23 [.int .i64 1, .int .i64 1, .int .i64 1, .int .i64 1, .int .i64 1, .int .i64 1, .int .i64 1, .int .i64 1, .int .i64 1] ∧ Blk wr (w.heap.size + 1) 23 [.int .i64 3, .int .i64 4, .int .i64 40, .int .i64 8, .int .i64 8, .int .i64 8, .int .i64 4, .int .i64 4, .int .i64 8]) (fun _ q _ => 9 - (intOf q).toNat)
  case atStart => exact ⟨0, by omega, rfl, rfl, hb3, X1, X2⟩
  case round =>
    clear X1 X2
    obtain ⟨k, hk, rfl, rfl, hbr, X1, X2⟩ := hrel
    by_cases hlt : k < 9
    · have hkI : (k : Int) < 9 := by omega
      have hkz : (0 : Int) ≤ (k : Int) := by omega
      have hB2 := X2.lt
      go_upto_region 7 with fail
      refine wp_region_frame (fun a0 listed act W => ∃ b5 b6, I7 a0 wr [.int .i64 1, .int .i64 1, .int .i64 1, .int .i64 1, .int .i64 1, .int .i64 1, .int .i64 1, .int .i64 1, .int .i64 1] [.int .i64 3, .int .i64 4, .int .i64 40, .int .i64 8, .int .i64 8, .int .i64 8, .int .i64 4, .int .i64 4, .int .i64 8] listed act W b5 b6) rfl ?_ ?_ ?_
      · exact ⟨0, 0, RegI.start _ _ _ _, Below.drew (Below.refl _ _), fun h => by simp at h, fun h => by simp at h, fun h => by simp at h, fun h => by simp at h, fun h => by simp at h, by simp⟩
      · intro listed act W i ⟨b5, b6, hI⟩ hi
        obtain ⟨hun, o, ho', hdep⟩ := mem_ready.1 hi
        have e1 : act.eval (.tmp 1) = .pointer (some ⟨w.heap.size, 0, none⟩) := (hI.fr.frame.off 1 (by decide)).trans rfl
        have e2 : act.eval (.tmp 2) = .pointer (some ⟨w.heap.size + 1, 0, none⟩) := (hI.fr.frame.off 2 (by decide)).trans rfl
        match i with
        | 0 =>
          clear hdep ho' hi
          refine wpOp_load rfl rfl 23 _ rfl w.heap.size e1 23 [.int .i64 1, .int .i64 1, .int .i64 1, .int .i64 1, .int .i64 1, .int .i64 1, .int .i64 1, .int .i64 1, .int .i64 1] _ (X1.later hI.bel) Tryd.underlying23 rfl infoC ?_
          exact ⟨b5, b6, hI.quiet rfl (by decide) (by simp) _ rfl⟩
        | 1 =>
          clear hdep ho' hi
          refine wpOp_load rfl rfl 23 _ rfl (w.heap.size + 1) e2 23 [.int .i64 3, .int .i64 4, .int .i64 40, .int .i64 8, .int .i64 8, .int .i64 8, .int .i64 4, .int .i64 4, .int .i64 8] _ (X2.later hI.bel) Tryd.underlying23 rfl infoC ?_
          exact ⟨b5, b6, hI.quiet rfl (by decide) (by simp) _ rfl⟩
        | 2 =>
          have hun2 : listed.getD 2 false = false := by
            cases e : listed.getD 2 false with
            | false => rfl
            | true => rw [getD_of_true e true] at hun; cases hun
          clear hdep ho' hi
          refine wpOp_gives (fun v W' => v = .pointer (some ⟨W.heap.size, 0, none⟩) ∧ W' = W.alloc (.cells zeros9.toArray 23)) rfl rfl ?_ ?_
          · unfold Oper.gives; go_simp
            rfl
          · rintro v W' ⟨rfl, rfl⟩
            exact ⟨_, b6, hI.alloc2 hun2 (by simp)⟩
        | 3 =>
          have hun3 : listed.getD 3 false = false := by
            cases e : listed.getD 3 false with
            | false => rfl
            | true => rw [getD_of_true e true] at hun; cases hun
          clear hdep ho' hi
          refine wpOp_gives (fun v W' => v = .pointer (some ⟨W.heap.size, 0, none⟩) ∧ W' = W.alloc (.cells zeros9.toArray 23)) rfl rfl ?_ ?_
          · unfold Oper.gives; go_simp
            rfl
          · rintro v W' ⟨rfl, rfl⟩
            exact ⟨b5, _, hI.alloc3 hun3 (by simp)⟩
        | 4 =>
          have hoo := Option.some.inj ho'
          subst hoo
          have hun4 : listed.getD 4 false = false := by
            cases e : listed.getD 4 false with
            | false => rfl
            | true => rw [getD_of_true e true] at hun; cases hun
          have la := hdep ⟨2, .data⟩ (by simp) (by rfl)
          have da := hI.fr.vals 2 5 rfl la
          have dl := hI.fr.vals 0 61 rfl (hdep ⟨0, .data⟩ (by simp) (by rfl))
          simp only [val7] at da dl
          have hp := (hI.p2 la).1
          rw [hun4] at hp
          clear hdep ho' hi
          refine wpOp_gives (fun v W' => v = undef ∧ W' = W.setCells b5 0 [.int .i64 1, .int .i64 1, .int .i64 1, .int .i64 1, .int .i64 1, .int .i64 1, .int .i64 1, .int .i64 1, .int .i64 1]) rfl rfl (gives_store_blk _ _ _ rfl b5 da 23 zeros9 [.int .i64 1, .int .i64 1, .int .i64 1, .int .i64 1, .int .i64 1, .int .i64 1, .int .i64 1, .int .i64 1, .int .i64 1] dl hp rfl infoC (one9 _ _ _ _ _ _ _ _ _) fun _ => ⟨rfl, rfl⟩) ?_
          rintro v W' ⟨rfl, rfl⟩
          exact ⟨b5, b6, hI.store4 la hun4 rfl _⟩
        | 5 =>
          have hoo := Option.some.inj ho'
          subst hoo
          have hun5 : listed.getD 5 false = false := by
            cases e : listed.getD 5 false with
            | false => rfl
            | true => rw [getD_of_true e true] at hun; cases hun
          have la := hdep ⟨3, .data⟩ (by simp) (by rfl)
          have da := hI.fr.vals 3 6 rfl la
          have dl := hI.fr.vals 1 62 rfl (hdep ⟨1, .data⟩ (by simp) (by rfl))
          simp only [val7] at da dl
          have hp := (hI.p3 la).1
          rw [hun5] at hp
          clear hdep ho' hi
          refine wpOp_gives (fun v W' => v = undef ∧ W' = W.setCells b6 0 [.int .i64 3, .int .i64 4, .int .i64 40, .int .i64 8, .int .i64 8, .int .i64 8, .int .i64 4, .int .i64 4, .int .i64 8]) rfl rfl (gives_store_blk _ _ _ rfl b6 da 23 zeros9 [.int .i64 3, .int .i64 4, .int .i64 40, .int .i64 8, .int .i64 8, .int .i64 8, .int .i64 4, .int .i64 4, .int .i64 8] dl hp rfl infoC (one9 _ _ _ _ _ _ _ _ _) fun _ => ⟨rfl, rfl⟩) ?_
          rintro v W' ⟨rfl, rfl⟩
          exact ⟨b5, b6, hI.store5 la hun5 rfl _⟩
        | j + 6 => simp at ho'
      rintro listed act w4 ⟨b5, b6, hI⟩ hr
      have hall := all_listed hr hI.sz (by kernel_rfl)
      obtain ⟨hact, hc4, X5, X6, hne, hz5, hz6⟩ := hI.done fun j hj => hall j hj
      clear hI hall hr
      subst hact
      simp only [putAll, sl7, List.range, List.range.loop, List.map_cons, List.map_nil, List.zip_cons_cons, List.zip_nil_right, val7, Act.put, List.setIfInBounds_toArray, List.set_cons_succ, List.set_cons_zero]
      have hb4 : Below w.heap.size w w4 := bchain hbr hc4
      have X1 := X1.later hc4
      have X2 := X2.later hc4
      have hw5 : w.heap.size ≤ b5 := Nat.le_trans hbr.size hz5
      have hw6 : w.heap.size ≤ b6 := Nat.le_trans hbr.size hz6
      have h15 : w.heap.size ≠ b5 := by omega
      have h16 : w.heap.size ≠ b6 := by omega
      have h25 : w.heap.size + 1 ≠ b5 := by omega
      have h26 : w.heap.size + 1 ≠ b6 := by omega
      have hl5 := X5.lt
      have hl6 := X6.lt
      clear hc4
      have hcase : k = 0 ∨ k = 1 ∨ k = 2 ∨ k = 3 ∨ k = 4 ∨ k = 5 ∨ k = 6 ∨ k = 7 ∨ k = 8 := by omega
      clear hk hlt hkI hkz
      rcases hcase with rfl | rfl | rfl | rfl | rfl | rfl | rfl | rfl | rfl
      · skip
        have v5 := X5.cell (j := 0) rfl
        have v6 := X6.cell (j := 0) rfl
        have u5 := X5.free 0
        have u6 := X6.free 0
        go_upto_region 27 with fail
        refine wp_facts' (fun Wx => Below w.heap.size w Wx ∧ Blk Wx w.heap.size 23 [.int .i64 1, .int .i64 1, .int .i64 1, .int .i64 1, .int .i64 1, .int .i64 1, .int .i64 1, .int .i64 1, .int .i64 1] ∧ Blk Wx (w.heap.size + 1) 23 [.int .i64 3, .int .i64 4, .int .i64 40, .int .i64 8, .int .i64 8, .int .i64 8, .int .i64 4, .int .i64 4, .int .i64 8] ∧ Blk Wx b5 23 [.int .i64 0, .int .i64 1, .int .i64 1, .int .i64 1, .int .i64 1, .int .i64 1, .int .i64 1, .int .i64 1, .int .i64 1] ∧ Blk Wx b6 23 [.int .i64 4, .int .i64 4, .int .i64 40, .int .i64 8, .int .i64 8, .int .i64 8, .int .i64 4, .int .i64 4, .int .i64 8]) ⟨(by repeat' (first | with_reducible exact hb4 | with_reducible refine Below.drew ?_ | with_reducible refine below_drewN ?_ _ | with_reducible refine Below.alloc ?_ (by have := hb4.size; first | (simp; done) | (simp; omega) | omega) _ | with_reducible refine Below.setCell ?_ (by first | (simp; done) | (simp; omega) | omega) _)), (X1.setFar (by simpa using h15) _).setFar (by simpa using h16) _, (X2.setFar (by simpa using h25) _).setFar (by simpa using h26) _, (X5.set 0 _).setFar (by simpa using hne) _, (X6.setFar (by simpa using hne.symm) _).set 0 _⟩ ?_
        clear v5 v6 u5 u6 X1 X2 X5 X6
        rintro w5 ⟨hb5, X1, X2, X5, X6⟩
        go_wp2_with (refine wpList_load_blkG (by rfl) 23 _ rfl b5 (by rfl) 23 _ _ X5 Tryd.underlying23 rfl infoC ?_)
        go_wp2_with fail
        with_reducible refine (lim_no 0 1 1 1 1 1 1 1 1 (by decide) _).mono ?_
        rintro e w6 ⟨rfl, hc6⟩
        have hb6 : Below w.heap.size w w6 := bchain (by repeat' (first | with_reducible exact hb5 | with_reducible refine Below.drew ?_ | with_reducible refine below_drewN ?_ _ | with_reducible refine Below.alloc ?_ (by have := hb5.size; first | (simp; done) | (simp; omega) | omega) _ | with_reducible refine Below.setCell ?_ (by first | (simp; done) | (simp; omega) | omega) _)) hc6
        have hst6 : Below w5.heap.size w5 w6 := bchain (by repeat' (first | with_reducible exact Below.refl _ _ | with_reducible refine Below.drew ?_ | with_reducible refine below_drewN ?_ _ | with_reducible refine Below.alloc ?_ (by first | (simp; done) | (simp; omega) | omega) _ | with_reducible refine Below.setCell ?_ (by first | (simp; done) | (simp; omega) | omega) _)) hc6
        replace X1 := X1.later hst6
        replace X2 := X2.later hst6
        replace X5 := X5.later hst6
        replace X6 := X6.later hst6
        clear hst6
        clear hc6 hb5
        go_wp2_with (refine wpList_load_blkG (by rfl) 23 _ rfl b6 (by rfl) 23 _ _ X6 Tryd.underlying23 rfl infoC ?_)
        go_wp2_with fail
        with_reducible refine (lim_no 4 4 40 8 8 8 4 4 8 (by decide) _).mono ?_
        rintro e w7 ⟨rfl, hc7⟩
        have hb7 : Below w.heap.size w w7 := bchain (by repeat' (first | with_reducible exact hb6 | with_reducible refine Below.drew ?_ | with_reducible refine below_drewN ?_ _ | with_reducible refine Below.alloc ?_ (by have := hb6.size; first | (simp; done) | (simp; omega) | omega) _ | with_reducible refine Below.setCell ?_ (by first | (simp; done) | (simp; omega) | omega) _)) hc7
        have hst7 : Below w6.heap.size w6 w7 := bchain (by repeat' (first | with_reducible exact Below.refl _ _ | with_reducible refine Below.drew ?_ | with_reducible refine below_drewN ?_ _ | with_reducible refine Below.alloc ?_ (by first | (simp; done) | (simp; omega) | omega) _ | with_reducible refine Below.setCell ?_ (by first | (simp; done) | (simp; omega) | omega) _)) hc7
        replace X1 := X1.later hst7
        replace X2 := X2.later hst7
        replace X5 := X5.later hst7
        replace X6 := X6.later hst7
        clear hst7
        clear hc7 hb6
        go_wp2_with fail
        go_roundw
        case rel => exact ⟨1, by omega, by first | rfl | go_num, rfl, hb7, X1, X2⟩
        case measure => simp [intOf]; try omega
      · skip
        have v5 := X5.cell (j := 1) rfl
        have v6 := X6.cell (j := 1) rfl
        have u5 := X5.free 1
        have u6 := X6.free 1
        go_upto_region 27 with fail
        refine wp_facts' (fun Wx => Below w.heap.size w Wx ∧ Blk Wx w.heap.size 23 [.int .i64 1, .int .i64 1, .int .i64 1, .int .i64 1, .int .i64 1, .int .i64 1, .int .i64 1, .int .i64 1, .int .i64 1] ∧ Blk Wx (w.heap.size + 1) 23 [.int .i64 3, .int .i64 4, .int .i64 40, .int .i64 8, .int .i64 8, .int .i64 8, .int .i64 4, .int .i64 4, .int .i64 8] ∧ Blk Wx b5 23 [.int .i64 1, .int .i64 0, .int .i64 1, .int .i64 1, .int .i64 1, .int .i64 1, .int .i64 1, .int .i64 1, .int .i64 1] ∧ Blk Wx b6 23 [.int .i64 3, .int .i64 5, .int .i64 40, .int .i64 8, .int .i64 8, .int .i64 8, .int .i64 4, .int .i64 4, .int .i64 8]) ⟨(by repeat' (first | with_reducible exact hb4 | with_reducible refine Below.drew ?_ | with_reducible refine below_drewN ?_ _ | with_reducible refine Below.alloc ?_ (by have := hb4.size; first | (simp; done) | (simp; omega) | omega) _ | with_reducible refine Below.setCell ?_ (by first | (simp; done) | (simp; omega) | omega) _)), (X1.setFar (by simpa using h15) _).setFar (by simpa using h16) _, (X2.setFar (by simpa using h25) _).setFar (by simpa using h26) _, (X5.set 1 _).setFar (by simpa using hne) _, (X6.setFar (by simpa using hne.symm) _).set 1 _⟩ ?_
        clear v5 v6 u5 u6 X1 X2 X5 X6
        rintro w5 ⟨hb5, X1, X2, X5, X6⟩
        go_wp2_with (refine wpList_load_blkG (by rfl) 23 _ rfl b5 (by rfl) 23 _ _ X5 Tryd.underlying23 rfl infoC ?_)
        go_wp2_with fail
        with_reducible refine (lim_no 1 0 1 1 1 1 1 1 1 (by decide) _).mono ?_
        rintro e w6 ⟨rfl, hc6⟩
        have hb6 : Below w.heap.size w w6 := bchain (by repeat' (first | with_reducible exact hb5 | with_reducible refine Below.drew ?_ | with_reducible refine below_drewN ?_ _ | with_reducible refine Below.alloc ?_ (by have := hb5.size; first | (simp; done) | (simp; omega) | omega) _ | with_reducible refine Below.setCell ?_ (by first | (simp; done) | (simp; omega) | omega) _)) hc6
        have hst6 : Below w5.heap.size w5 w6 := bchain (by repeat' (first | with_reducible exact Below.refl _ _ | with_reducible refine Below.drew ?_ | with_reducible refine below_drewN ?_ _ | with_reducible refine Below.alloc ?_ (by first | (simp; done) | (simp; omega) | omega) _ | with_reducible refine Below.setCell ?_ (by first | (simp; done) | (simp; omega) | omega) _)) hc6
        replace X1 := X1.later hst6
        replace X2 := X2.later hst6
        replace X5 := X5.later hst6
        replace X6 := X6.later hst6
        clear hst6
        clear hc6 hb5
        go_wp2_with (refine wpList_load_blkG (by rfl) 23 _ rfl b6 (by rfl) 23 _ _ X6 Tryd.underlying23 rfl infoC ?_)
        go_wp2_with fail
        with_reducible refine (lim_no 3 5 40 8 8 8 4 4 8 (by decide) _).mono ?_
        rintro e w7 ⟨rfl, hc7⟩
        have hb7 : Below w.heap.size w w7 := bchain (by repeat' (first | with_reducible exact hb6 | with_reducible refine Below.drew ?_ | with_reducible refine below_drewN ?_ _ | with_reducible refine Below.alloc ?_ (by have := hb6.size; first | (simp; done) | (simp; omega) | omega) _ | with_reducible refine Below.setCell ?_ (by first | (simp; done) | (simp; omega) | omega) _)) hc7
        have hst7 : Below w6.heap.size w6 w7 := bchain (by repeat' (first | with_reducible exact Below.refl _ _ | with_reducible refine Below.drew ?_ | with_reducible refine below_drewN ?_ _ | with_reducible refine Below.alloc ?_ (by first | (simp; done) | (simp; omega) | omega) _ | with_reducible refine Below.setCell ?_ (by first | (simp; done) | (simp; omega) | omega) _)) hc7
        replace X1 := X1.later hst7
        replace X2 := X2.later hst7
        replace X5 := X5.later hst7
        replace X6 := X6.later hst7
        clear hst7
        clear hc7 hb6
        go_wp2_with fail
        go_roundw
        case rel => exact ⟨2, by omega, by first | rfl | go_num, rfl, hb7, X1, X2⟩
        case measure => simp [intOf]; try omega
      · skip
        have v5 := X5.cell (j := 2) rfl
        have v6 := X6.cell (j := 2) rfl
        have u5 := X5.free 2
        have u6 := X6.free 2
        go_upto_region 27 with fail
        refine wp_facts' (fun Wx => Below w.heap.size w Wx ∧ Blk Wx w.heap.size 23 [.int .i64 1, .int .i64 1, .int .i64 1, .int .i64 1, .int .i64 1, .int .i64 1, .int .i64 1, .int .i64 1, .int .i64 1] ∧ Blk Wx (w.heap.size + 1) 23 [.int .i64 3, .int .i64 4, .int .i64 40, .int .i64 8, .int .i64 8, .int .i64 8, .int .i64 4, .int .i64 4, .int .i64 8] ∧ Blk Wx b5 23 [.int .i64 1, .int .i64 1, .int .i64 0, .int .i64 1, .int .i64 1, .int .i64 1, .int .i64 1, .int .i64 1, .int .i64 1] ∧ Blk Wx b6 23 [.int .i64 3, .int .i64 4, .int .i64 41, .int .i64 8, .int .i64 8, .int .i64 8, .int .i64 4, .int .i64 4, .int .i64 8]) ⟨(by repeat' (first | with_reducible exact hb4 | with_reducible refine Below.drew ?_ | with_reducible refine below_drewN ?_ _ | with_reducible refine Below.alloc ?_ (by have := hb4.size; first | (simp; done) | (simp; omega) | omega) _ | with_reducible refine Below.setCell ?_ (by first | (simp; done) | (simp; omega) | omega) _)), (X1.setFar (by simpa using h15) _).setFar (by simpa using h16) _, (X2.setFar (by simpa using h25) _).setFar (by simpa using h26) _, (X5.set 2 _).setFar (by simpa using hne) _, (X6.setFar (by simpa using hne.symm) _).set 2 _⟩ ?_
        clear v5 v6 u5 u6 X1 X2 X5 X6
        rintro w5 ⟨hb5, X1, X2, X5, X6⟩
        go_wp2_with (refine wpList_load_blkG (by rfl) 23 _ rfl b5 (by rfl) 23 _ _ X5 Tryd.underlying23 rfl infoC ?_)
        go_wp2_with fail
        with_reducible refine (lim_no 1 1 0 1 1 1 1 1 1 (by decide) _).mono ?_
        rintro e w6 ⟨rfl, hc6⟩
        have hb6 : Below w.heap.size w w6 := bchain (by repeat' (first | with_reducible exact hb5 | with_reducible refine Below.drew ?_ | with_reducible refine below_drewN ?_ _ | with_reducible refine Below.alloc ?_ (by have := hb5.size; first | (simp; done) | (simp; omega) | omega) _ | with_reducible refine Below.setCell ?_ (by first | (simp; done) | (simp; omega) | omega) _)) hc6
        have hst6 : Below w5.heap.size w5 w6 := bchain (by repeat' (first | with_reducible exact Below.refl _ _ | with_reducible refine Below.drew ?_ | with_reducible refine below_drewN ?_ _ | with_reducible refine Below.alloc ?_ (by first | (simp; done) | (simp; omega) | omega) _ | with_reducible refine Below.setCell ?_ (by first | (simp; done) | (simp; omega) | omega) _)) hc6
        replace X1 := X1.later hst6
        replace X2 := X2.later hst6
        replace X5 := X5.later hst6
        replace X6 := X6.later hst6
        clear hst6
        clear hc6 hb5
        go_wp2_with (refine wpList_load_blkG (by rfl) 23 _ rfl b6 (by rfl) 23 _ _ X6 Tryd.underlying23 rfl infoC ?_)
        go_wp2_with fail
        with_reducible refine (lim_no 3 4 41 8 8 8 4 4 8 (by decide) _).mono ?_
        rintro e w7 ⟨rfl, hc7⟩
        have hb7 : Below w.heap.size w w7 := bchain (by repeat' (first | with_reducible exact hb6 | with_reducible refine Below.drew ?_ | with_reducible refine below_drewN ?_ _ | with_reducible refine Below.alloc ?_ (by have := hb6.size; first | (simp; done) | (simp; omega) | omega) _ | with_reducible refine Below.setCell ?_ (by first | (simp; done) | (simp; omega) | omega) _)) hc7
        have hst7 : Below w6.heap.size w6 w7 := bchain (by repeat' (first | with_reducible exact Below.refl _ _ | with_reducible refine Below.drew ?_ | with_reducible refine below_drewN ?_ _ | with_reducible refine Below.alloc ?_ (by first | (simp; done) | (simp; omega) | omega) _ | with_reducible refine Below.setCell ?_ (by first | (simp; done) | (simp; omega) | omega) _)) hc7
        replace X1 := X1.later hst7
        replace X2 := X2.later hst7
        replace X5 := X5.later hst7
        replace X6 := X6.later hst7
        clear hst7
        clear hc7 hb6
        go_wp2_with fail
        go_roundw
        case rel => exact ⟨3, by omega, by first | rfl | go_num, rfl, hb7, X1, X2⟩
        case measure => simp [intOf]; try omega
      · skip
        have v5 := X5.cell (j := 3) rfl
        have v6 := X6.cell (j := 3) rfl
        have u5 := X5.free 3
        have u6 := X6.free 3
        go_upto_region 27 with fail
        refine wp_facts' (fun Wx => Below w.heap.size w Wx ∧ Blk Wx w.heap.size 23 [.int .i64 1, .int .i64 1, .int .i64 1, .int .i64 1, .int .i64 1, .int .i64 1, .int .i64 1, .int .i64 1, .int .i64 1] ∧ Blk Wx (w.heap.size + 1) 23 [.int .i64 3, .int .i64 4, .int .i64 40, .int .i64 8, .int .i64 8, .int .i64 8, .int .i64 4, .int .i64 4, .int .i64 8] ∧ Blk Wx b5 23 [.int .i64 1, .int .i64 1, .int .i64 1, .int .i64 0, .int .i64 1, .int .i64 1, .int .i64 1, .int .i64 1, .int .i64 1] ∧ Blk Wx b6 23 [.int .i64 3, .int .i64 4, .int .i64 40, .int .i64 9, .int .i64 8, .int .i64 8, .int .i64 4, .int .i64 4, .int .i64 8]) ⟨(by repeat' (first | with_reducible exact hb4 | with_reducible refine Below.drew ?_ | with_reducible refine below_drewN ?_ _ | with_reducible refine Below.alloc ?_ (by have := hb4.size; first | (simp; done) | (simp; omega) | omega) _ | with_reducible refine Below.setCell ?_ (by first | (simp; done) | (simp; omega) | omega) _)), (X1.setFar (by simpa using h15) _).setFar (by simpa using h16) _, (X2.setFar (by simpa using h25) _).setFar (by simpa using h26) _, (X5.set 3 _).setFar (by simpa using hne) _, (X6.setFar (by simpa using hne.symm) _).set 3 _⟩ ?_
        clear v5 v6 u5 u6 X1 X2 X5 X6
        rintro w5 ⟨hb5, X1, X2, X5, X6⟩
        go_wp2_with (refine wpList_load_blkG (by rfl) 23 _ rfl b5 (by rfl) 23 _ _ X5 Tryd.underlying23 rfl infoC ?_)
        go_wp2_with fail
        with_reducible refine (lim_no 1 1 1 0 1 1 1 1 1 (by decide) _).mono ?_
        rintro e w6 ⟨rfl, hc6⟩
        have hb6 : Below w.heap.size w w6 := bchain (by repeat' (first | with_reducible exact hb5 | with_reducible refine Below.drew ?_ | with_reducible refine below_drewN ?_ _ | with_reducible refine Below.alloc ?_ (by have := hb5.size; first | (simp; done) | (simp; omega) | omega) _ | with_reducible refine Below.setCell ?_ (by first | (simp; done) | (simp; omega) | omega) _)) hc6
        have hst6 : Below w5.heap.size w5 w6 := bchain (by repeat' (first | with_reducible exact Below.refl _ _ | with_reducible refine Below.drew ?_ | with_reducible refine below_drewN ?_ _ | with_reducible refine Below.alloc ?_ (by first | (simp; done) | (simp; omega) | omega) _ | with_reducible refine Below.setCell ?_ (by first | (simp; done) | (simp; omega) | omega) _)) hc6
        replace X1 := X1.later hst6
        replace X2 := X2.later hst6
        replace X5 := X5.later hst6
        replace X6 := X6.later hst6
        clear hst6
        clear hc6 hb5
        go_wp2_with (refine wpList_load_blkG (by rfl) 23 _ rfl b6 (by rfl) 23 _ _ X6 Tryd.underlying23 rfl infoC ?_)
        go_wp2_with fail
        with_reducible refine (lim_no 3 4 40 9 8 8 4 4 8 (by decide) _).mono ?_
        rintro e w7 ⟨rfl, hc7⟩
        have hb7 : Below w.heap.size w w7 := bchain (by repeat' (first | with_reducible exact hb6 | with_reducible refine Below.drew ?_ | with_reducible refine below_drewN ?_ _ | with_reducible refine Below.alloc ?_ (by have := hb6.size; first | (simp; done) | (simp; omega) | omega) _ | with_reducible refine Below.setCell ?_ (by first | (simp; done) | (simp; omega) | omega) _)) hc7
        have hst7 : Below w6.heap.size w6 w7 := bchain (by repeat' (first | with_reducible exact Below.refl _ _ | with_reducible refine Below.drew ?_ | with_reducible refine below_drewN ?_ _ | with_reducible refine Below.alloc ?_ (by first | (simp; done) | (simp; omega) | omega) _ | with_reducible refine Below.setCell ?_ (by first | (simp; done) | (simp; omega) | omega) _)) hc7
        replace X1 := X1.later hst7
        replace X2 := X2.later hst7
        replace X5 := X5.later hst7
        replace X6 := X6.later hst7
        clear hst7
        clear hc7 hb6
        go_wp2_with fail
        go_roundw
        case rel => exact ⟨4, by omega, by first | rfl | go_num, rfl, hb7, X1, X2⟩
        case measure => simp [intOf]; try omega
      · skip
        have v5 := X5.cell (j := 4) rfl
        have v6 := X6.cell (j := 4) rfl
        have u5 := X5.free 4
        have u6 := X6.free 4
        go_upto_region 27 with fail
        refine wp_facts' (fun Wx => Below w.heap.size w Wx ∧ Blk Wx w.heap.size 23 [.int .i64 1, .int .i64 1, .int .i64 1, .int .i64 1, .int .i64 1, .int .i64 1, .int .i64 1, .int .i64 1, .int .i64 1] ∧ Blk Wx (w.heap.size + 1) 23 [.int .i64 3, .int .i64 4, .int .i64 40, .int .i64 8, .int .i64 8, .int .i64 8, .int .i64 4, .int .i64 4, .int .i64 8] ∧ Blk Wx b5 23 [.int .i64 1, .int .i64 1, .int .i64 1, .int .i64 1, .int .i64 0, .int .i64 1, .int .i64 1, .int .i64 1, .int .i64 1] ∧ Blk Wx b6 23 [.int .i64 3, .int .i64 4, .int .i64 40, .int .i64 8, .int .i64 9, .int .i64 8, .int .i64 4, .int .i64 4, .int .i64 8]) ⟨(by repeat' (first | with_reducible exact hb4 | with_reducible refine Below.drew ?_ | with_reducible refine below_drewN ?_ _ | with_reducible refine Below.alloc ?_ (by have := hb4.size; first | (simp; done) | (simp; omega) | omega) _ | with_reducible refine Below.setCell ?_ (by first | (simp; done) | (simp; omega) | omega) _)), (X1.setFar (by simpa using h15) _).setFar (by simpa using h16) _, (X2.setFar (by simpa using h25) _).setFar (by simpa using h26) _, (X5.set 4 _).setFar (by simpa using hne) _, (X6.setFar (by simpa using hne.symm) _).set 4 _⟩ ?_
        clear v5 v6 u5 u6 X1 X2 X5 X6
        rintro w5 ⟨hb5, X1, X2, X5, X6⟩
        go_wp2_with (refine wpList_load_blkG (by rfl) 23 _ rfl b5 (by rfl) 23 _ _ X5 Tryd.underlying23 rfl infoC ?_)
        go_wp2_with fail
        with_reducible refine (lim_no 1 1 1 1 0 1 1 1 1 (by decide) _).mono ?_
        rintro e w6 ⟨rfl, hc6⟩
        have hb6 : Below w.heap.size w w6 := bchain (by repeat' (first | with_reducible exact hb5 | with_reducible refine Below.drew ?_ | with_reducible refine below_drewN ?_ _ | with_reducible refine Below.alloc ?_ (by have := hb5.size; first | (simp; done) | (simp; omega) | omega) _ | with_reducible refine Below.setCell ?_ (by first | (simp; done) | (simp; omega) | omega) _)) hc6
        have hst6 : Below w5.heap.size w5 w6 := bchain (by repeat' (first | with_reducible exact Below.refl _ _ | with_reducible refine Below.drew ?_ | with_reducible refine below_drewN ?_ _ | with_reducible refine Below.alloc ?_ (by first | (simp; done) | (simp; omega) | omega) _ | with_reducible refine Below.setCell ?_ (by first | (simp; done) | (simp; omega) | omega) _)) hc6
        replace X1 := X1.later hst6
        replace X2 := X2.later hst6
        replace X5 := X5.later hst6
        replace X6 := X6.later hst6
        clear hst6
        clear hc6 hb5
        go_wp2_with (refine wpList_load_blkG (by rfl) 23 _ rfl b6 (by rfl) 23 _ _ X6 Tryd.underlying23 rfl infoC ?_)
        go_wp2_with fail
        with_reducible refine (lim_no 3 4 40 8 9 8 4 4 8 (by decide) _).mono ?_
        rintro e w7 ⟨rfl, hc7⟩
        have hb7 : Below w.heap.size w w7 := bchain (by repeat' (first | with_reducible exact hb6 | with_reducible refine Below.drew ?_ | with_reducible refine below_drewN ?_ _ | with_reducible refine Below.alloc ?_ (by have := hb6.size; first | (simp; done) | (simp; omega) | omega) _ | with_reducible refine Below.setCell ?_ (by first | (simp; done) | (simp; omega) | omega) _)) hc7
        have hst7 : Below w6.heap.size w6 w7 := bchain (by repeat' (first | with_reducible exact Below.refl _ _ | with_reducible refine Below.drew ?_ | with_reducible refine below_drewN ?_ _ | with_reducible refine Below.alloc ?_ (by first | (simp; done) | (simp; omega) | omega) _ | with_reducible refine Below.setCell ?_ (by first | (simp; done) | (simp; omega) | omega) _)) hc7
        replace X1 := X1.later hst7
        replace X2 := X2.later hst7
        replace X5 := X5.later hst7
        replace X6 := X6.later hst7
        clear hst7
        clear hc7 hb6
        go_wp2_with fail
        go_roundw
        case rel => exact ⟨5, by omega, by first | rfl | go_num, rfl, hb7, X1, X2⟩
        case measure => simp [intOf]; try omega
      · skip
        have v5 := X5.cell (j := 5) rfl
        have v6 := X6.cell (j := 5) rfl
        have u5 := X5.free 5
        have u6 := X6.free 5
        go_upto_region 27 with fail
        refine wp_facts' (fun Wx => Below w.heap.size w Wx ∧ Blk Wx w.heap.size 23 [.int .i64 1, .int .i64 1, .int .i64 1, .int .i64 1, .int .i64 1, .int .i64 1, .int .i64 1, .int .i64 1, .int .i64 1] ∧ Blk Wx (w.heap.size + 1) 23 [.int .i64 3, .int .i64 4, .int .i64 40, .int .i64 8, .int .i64 8, .int .i64 8, .int .i64 4, .int .i64 4, .int .i64 8] ∧ Blk Wx b5 23 [.int .i64 1, .int .i64 1, .int .i64 1, .int .i64 1, .int .i64 1, .int .i64 0, .int .i64 1, .int .i64 1, .int .i64 1] ∧ Blk Wx b6 23 [.int .i64 3, .int .i64 4, .int .i64 40, .int .i64 8, .int .i64 8, .int .i64 9, .int .i64 4, .int .i64 4, .int .i64 8]) ⟨(by repeat' (first | with_reducible exact hb4 | with_reducible refine Below.drew ?_ | with_reducible refine below_drewN ?_ _ | with_reducible refine Below.alloc ?_ (by have := hb4.size; first | (simp; done) | (simp; omega) | omega) _ | with_reducible refine Below.setCell ?_ (by first | (simp; done) | (simp; omega) | omega) _)), (X1.setFar (by simpa using h15) _).setFar (by simpa using h16) _, (X2.setFar (by simpa using h25) _).setFar (by simpa using h26) _, (X5.set 5 _).setFar (by simpa using hne) _, (X6.setFar (by simpa using hne.symm) _).set 5 _⟩ ?_
        clear v5 v6 u5 u6 X1 X2 X5 X6
        rintro w5 ⟨hb5, X1, X2, X5, X6⟩
        go_wp2_with (refine wpList_load_blkG (by rfl) 23 _ rfl b5 (by rfl) 23 _ _ X5 Tryd.underlying23 rfl infoC ?_)
        go_wp2_with fail
        with_reducible refine (lim_no 1 1 1 1 1 0 1 1 1 (by decide) _).mono ?_
        rintro e w6 ⟨rfl, hc6⟩
        have hb6 : Below w.heap.size w w6 := bchain (by repeat' (first | with_reducible exact hb5 | with_reducible refine Below.drew ?_ | with_reducible refine below_drewN ?_ _ | with_reducible refine Below.alloc ?_ (by have := hb5.size; first | (simp; done) | (simp; omega) | omega) _ | with_reducible refine Below.setCell ?_ (by first | (simp; done) | (simp; omega) | omega) _)) hc6
        have hst6 : Below w5.heap.size w5 w6 := bchain (by repeat' (first | with_reducible exact Below.refl _ _ | with_reducible refine Below.drew ?_ | with_reducible refine below_drewN ?_ _ | with_reducible refine Below.alloc ?_ (by first | (simp; done) | (simp; omega) | omega) _ | with_reducible refine Below.setCell ?_ (by first | (simp; done) | (simp; omega) | omega) _)) hc6
        replace X1 := X1.later hst6
        replace X2 := X2.later hst6
        replace X5 := X5.later hst6
        replace X6 := X6.later hst6
        clear hst6
        clear hc6 hb5
        go_wp2_with (refine wpList_load_blkG (by rfl) 23 _ rfl b6 (by rfl) 23 _ _ X6 Tryd.underlying23 rfl infoC ?_)
        go_wp2_with fail
        with_reducible refine (lim_no 3 4 40 8 8 9 4 4 8 (by decide) _).mono ?_
        rintro e w7 ⟨rfl, hc7⟩
        have hb7 : Below w.heap.size w w7 := bchain (by repeat' (first | with_reducible exact hb6 | with_reducible refine Below.drew ?_ | with_reducible refine below_drewN ?_ _ | with_reducible refine Below.alloc ?_ (by have := hb6.size; first | (simp; done) | (simp; omega) | omega) _ | with_reducible refine Below.setCell ?_ (by first | (simp; done) | (simp; omega) | omega) _)) hc7
        have hst7 : Below w6.heap.size w6 w7 := bchain (by repeat' (first | with_reducible exact Below.refl _ _ | with_reducible refine Below.drew ?_ | with_reducible refine below_drewN ?_ _ | with_reducible refine Below.alloc ?_ (by first | (simp; done) | (simp; omega) | omega) _ | with_reducible refine Below.setCell ?_ (by first | (simp; done) | (simp; omega) | omega) _)) hc7
        replace X1 := X1.later hst7
        replace X2 := X2.later hst7
        replace X5 := X5.later hst7
        replace X6 := X6.later hst7
        clear hst7
        clear hc7 hb6
        go_wp2_with fail
        go_roundw
        case rel => exact ⟨6, by omega, by first | rfl | go_num, rfl, hb7, X1, X2⟩
        case measure => simp [intOf]; try omega
      · skip
        have v5 := X5.cell (j := 6) rfl
        have v6 := X6.cell (j := 6) rfl
        have u5 := X5.free 6
        have u6 := X6.free 6
        go_upto_region 27 with fail
        refine wp_facts' (fun Wx => Below w.heap.size w Wx ∧ Blk Wx w.heap.size 23 [.int .i64 1, .int .i64 1, .int .i64 1, .int .i64 1, .int .i64 1, .int .i64 1, .int .i64 1, .int .i64 1, .int .i64 1] ∧ Blk Wx (w.heap.size + 1) 23 [.int .i64 3, .int .i64 4, .int .i64 40, .int .i64 8, .int .i64 8, .int .i64 8, .int .i64 4, .int .i64 4, .int .i64 8] ∧ Blk Wx b5 23 [.int .i64 1, .int .i64 1, .int .i64 1, .int .i64 1, .int .i64 1, .int .i64 1, .int .i64 0, .int .i64 1, .int .i64 1] ∧ Blk Wx b6 23 [.int .i64 3, .int .i64 4, .int .i64 40, .int .i64 8, .int .i64 8, .int .i64 8, .int .i64 5, .int .i64 4, .int .i64 8]) ⟨(by repeat' (first | with_reducible exact hb4 | with_reducible refine Below.drew ?_ | with_reducible refine below_drewN ?_ _ | with_reducible refine Below.alloc ?_ (by have := hb4.size; first | (simp; done) | (simp; omega) | omega) _ | with_reducible refine Below.setCell ?_ (by first | (simp; done) | (simp; omega) | omega) _)), (X1.setFar (by simpa using h15) _).setFar (by simpa using h16) _, (X2.setFar (by simpa using h25) _).setFar (by simpa using h26) _, (X5.set 6 _).setFar (by simpa using hne) _, (X6.setFar (by simpa using hne.symm) _).set 6 _⟩ ?_
        clear v5 v6 u5 u6 X1 X2 X5 X6
        rintro w5 ⟨hb5, X1, X2, X5, X6⟩
        go_wp2_with (refine wpList_load_blkG (by rfl) 23 _ rfl b5 (by rfl) 23 _ _ X5 Tryd.underlying23 rfl infoC ?_)
        go_wp2_with fail
        with_reducible refine (lim_no 1 1 1 1 1 1 0 1 1 (by decide) _).mono ?_
        rintro e w6 ⟨rfl, hc6⟩
        have hb6 : Below w.heap.size w w6 := bchain (by repeat' (first | with_reducible exact hb5 | with_reducible refine Below.drew ?_ | with_reducible refine below_drewN ?_ _ | with_reducible refine Below.alloc ?_ (by have := hb5.size; first | (simp; done) | (simp; omega) | omega) _ | with_reducible refine Below.setCell ?_ (by first | (simp; done) | (simp; omega) | omega) _)) hc6
        have hst6 : Below w5.heap.size w5 w6 := bchain (by repeat' (first | with_reducible exact Below.refl _ _ | with_reducible refine Below.drew ?_ | with_reducible refine below_drewN ?_ _ | with_reducible refine Below.alloc ?_ (by first | (simp; done) | (simp; omega) | omega) _ | with_reducible refine Below.setCell ?_ (by first | (simp; done) | (simp; omega) | omega) _)) hc6
        replace X1 := X1.later hst6
        replace X2 := X2.later hst6
        replace X5 := X5.later hst6
        replace X6 := X6.later hst6
        clear hst6
        clear hc6 hb5
        go_wp2_with (refine wpList_load_blkG (by rfl) 23 _ rfl b6 (by rfl) 23 _ _ X6 Tryd.underlying23 rfl infoC ?_)
        go_wp2_with fail
        with_reducible refine (lim_no 3 4 40 8 8 8 5 4 8 (by decide) _).mono ?_
        rintro e w7 ⟨rfl, hc7⟩
        have hb7 : Below w.heap.size w w7 := bchain (by repeat' (first | with_reducible exact hb6 | with_reducible refine Below.drew ?_ | with_reducible refine below_drewN ?_ _ | with_reducible refine Below.alloc ?_ (by have := hb6.size; first | (simp; done) | (simp; omega) | omega) _ | with_reducible refine Below.setCell ?_ (by first | (simp; done) | (simp; omega) | omega) _)) hc7
        have hst7 : Below w6.heap.size w6 w7 := bchain (by repeat' (first | with_reducible exact Below.refl _ _ | with_reducible refine Below.drew ?_ | with_reducible refine below_drewN ?_ _ | with_reducible refine Below.alloc ?_ (by first | (simp; done) | (simp; omega) | omega) _ | with_reducible refine Below.setCell ?_ (by first | (simp; done) | (simp; omega) | omega) _)) hc7
        replace X1 := X1.later hst7
        replace X2 := X2.later hst7
        replace X5 := X5.later hst7
        replace X6 := X6.later hst7
        clear hst7
        clear hc7 hb6
        go_wp2_with fail
        go_roundw
        case rel => exact ⟨7, by omega, by first | rfl | go_num, rfl, hb7, X1, X2⟩
        case measure => simp [intOf]; try omega
      · skip
        have v5 := X5.cell (j := 7) rfl
        have v6 := X6.cell (j := 7) rfl
        have u5 := X5.free 7
        have u6 := X6.free 7
        go_upto_region 27 with fail
        refine wp_facts' (fun Wx => Below w.heap.size w Wx ∧ Blk Wx w.heap.size 23 [.int .i64 1, .int .i64 1, .int .i64 1, .int .i64 1, .int .i64 1, .int .i64 1, .int .i64 1, .int .i64 1, .int .i64 1] ∧ Blk Wx (w.heap.size + 1) 23 [.int .i64 3, .int .i64 4, .int .i64 40, .int .i64 8, .int .i64 8, .int .i64 8, .int .i64 4, .int .i64 4, .int .i64 8] ∧ Blk Wx b5 23 [.int .i64 1, .int .i64 1, .int .i64 1, .int .i64 1, .int .i64 1, .int .i64 1, .int .i64 1, .int .i64 0, .int .i64 1] ∧ Blk Wx b6 23 [.int .i64 3, .int .i64 4, .int .i64 40, .int .i64 8, .int .i64 8, .int .i64 8, .int .i64 4, .int .i64 5, .int .i64 8]) ⟨(by repeat' (first | with_reducible exact hb4 | with_reducible refine Below.drew ?_ | with_reducible refine below_drewN ?_ _ | with_reducible refine Below.alloc ?_ (by have := hb4.size; first | (simp; done) | (simp; omega) | omega) _ | with_reducible refine Below.setCell ?_ (by first | (simp; done) | (simp; omega) | omega) _)), (X1.setFar (by simpa using h15) _).setFar (by simpa using h16) _, (X2.setFar (by simpa using h25) _).setFar (by simpa using h26) _, (X5.set 7 _).setFar (by simpa using hne) _, (X6.setFar (by simpa using hne.symm) _).set 7 _⟩ ?_
        clear v5 v6 u5 u6 X1 X2 X5 X6
        rintro w5 ⟨hb5, X1, X2, X5, X6⟩
        go_wp2_with (refine wpList_load_blkG (by rfl) 23 _ rfl b5 (by rfl) 23 _ _ X5 Tryd.underlying23 rfl infoC ?_)
        go_wp2_with fail
        with_reducible refine (lim_no 1 1 1 1 1 1 1 0 1 (by decide) _).mono ?_
        rintro e w6 ⟨rfl, hc6⟩
        have hb6 : Below w.heap.size w w6 := bchain (by repeat' (first | with_reducible exact hb5 | with_reducible refine Below.drew ?_ | with_reducible refine below_drewN ?_ _ | with_reducible refine Below.alloc ?_ (by have := hb5.size; first | (simp; done) | (simp; omega) | omega) _ | with_reducible refine Below.setCell ?_ (by first | (simp; done) | (simp; omega) | omega) _)) hc6
        have hst6 : Below w5.heap.size w5 w6 := bchain (by repeat' (first | with_reducible exact Below.refl _ _ | with_reducible refine Below.drew ?_ | with_reducible refine below_drewN ?_ _ | with_reducible refine Below.alloc ?_ (by first | (simp; done) | (simp; omega) | omega) _ | with_reducible refine Below.setCell ?_ (by first | (simp; done) | (simp; omega) | omega) _)) hc6
        replace X1 := X1.later hst6
        replace X2 := X2.later hst6
        replace X5 := X5.later hst6
        replace X6 := X6.later hst6
        clear hst6
        clear hc6 hb5
        go_wp2_with (refine wpList_load_blkG (by rfl) 23 _ rfl b6 (by rfl) 23 _ _ X6 Tryd.underlying23 rfl infoC ?_)
        go_wp2_with fail
        with_reducible refine (lim_no 3 4 40 8 8 8 4 5 8 (by decide) _).mono ?_
        rintro e w7 ⟨rfl, hc7⟩
        have hb7 : Below w.heap.size w w7 := bchain (by repeat' (first | with_reducible exact hb6 | with_reducible refine Below.drew ?_ | with_reducible refine below_drewN ?_ _ | with_reducible refine Below.alloc ?_ (by have := hb6.size; first | (simp; done) | (simp; omega) | omega) _ | with_reducible refine Below.setCell ?_ (by first | (simp; done) | (simp; omega) | omega) _)) hc7
        have hst7 : Below w6.heap.size w6 w7 := bchain (by repeat' (first | with_reducible exact Below.refl _ _ | with_reducible refine Below.drew ?_ | with_reducible refine below_drewN ?_ _ | with_reducible refine Below.alloc ?_ (by first | (simp; done) | (simp; omega) | omega) _ | with_reducible refine Below.setCell ?_ (by first | (simp; done) | (simp; omega) | omega) _)) hc7
        replace X1 := X1.later hst7
        replace X2 := X2.later hst7
        replace X5 := X5.later hst7
        replace X6 := X6.later hst7
        clear hst7
        clear hc7 hb6
        go_wp2_with fail
        go_roundw
        case rel => exact ⟨8, by omega, by first | rfl | go_num, rfl, hb7, X1, X2⟩
        case measure => simp [intOf]; try omega
      · skip
        have v5 := X5.cell (j := 8) rfl
        have v6 := X6.cell (j := 8) rfl
        have u5 := X5.free 8
        have u6 := X6.free 8
        go_upto_region 27 with fail
        refine wp_facts' (fun Wx => Below w.heap.size w Wx ∧ Blk Wx w.heap.size 23 [.int .i64 1, .int .i64 1, .int .i64 1, .int .i64 1, .int .i64 1, .int .i64 1, .int .i64 1, .int .i64 1, .int .i64 1] ∧ Blk Wx (w.heap.size + 1) 23 [.int .i64 3, .int .i64 4, .int .i64 40, .int .i64 8, .int .i64 8, .int .i64 8, .int .i64 4, .int .i64 4, .int .i64 8] ∧ Blk Wx b5 23 [.int .i64 1, .int .i64 1, .int .i64 1, .int .i64 1, .int .i64 1, .int .i64 1, .int .i64 1, .int .i64 1, .int .i64 0] ∧ Blk Wx b6 23 [.int .i64 3, .int .i64 4, .int .i64 40, .int .i64 8, .int .i64 8, .int .i64 8, .int .i64 4, .int .i64 4, .int .i64 9]) ⟨(by repeat' (first | with_reducible exact hb4 | with_reducible refine Below.drew ?_ | with_reducible refine below_drewN ?_ _ | with_reducible refine Below.alloc ?_ (by have := hb4.size; first | (simp; done) | (simp; omega) | omega) _ | with_reducible refine Below.setCell ?_ (by first | (simp; done) | (simp; omega) | omega) _)), (X1.setFar (by simpa using h15) _).setFar (by simpa using h16) _, (X2.setFar (by simpa using h25) _).setFar (by simpa using h26) _, (X5.set 8 _).setFar (by simpa using hne) _, (X6.setFar (by simpa using hne.symm) _).set 8 _⟩ ?_
        clear v5 v6 u5 u6 X1 X2 X5 X6
        rintro w5 ⟨hb5, X1, X2, X5, X6⟩
        go_wp2_with (refine wpList_load_blkG (by rfl) 23 _ rfl b5 (by rfl) 23 _ _ X5 Tryd.underlying23 rfl infoC ?_)
        go_wp2_with fail
        with_reducible refine (lim_no 1 1 1 1 1 1 1 1 0 (by decide) _).mono ?_
        rintro e w6 ⟨rfl, hc6⟩
        have hb6 : Below w.heap.size w w6 := bchain (by repeat' (first | with_reducible exact hb5 | with_reducible refine Below.drew ?_ | with_reducible refine below_drewN ?_ _ | with_reducible refine Below.alloc ?_ (by have := hb5.size; first | (simp; done) | (simp; omega) | omega) _ | with_reducible refine Below.setCell ?_ (by first | (simp; done) | (simp; omega) | omega) _)) hc6
        have hst6 : Below w5.heap.size w5 w6 := bchain (by repeat' (first | with_reducible exact Below.refl _ _ | with_reducible refine Below.drew ?_ | with_reducible refine below_drewN ?_ _ | with_reducible refine Below.alloc ?_ (by first | (simp; done) | (simp; omega) | omega) _ | with_reducible refine Below.setCell ?_ (by first | (simp; done) | (simp; omega) | omega) _)) hc6
        replace X1 := X1.later hst6
        replace X2 := X2.later hst6
        replace X5 := X5.later hst6
        replace X6 := X6.later hst6
        clear hst6
        clear hc6 hb5
        go_wp2_with (refine wpList_load_blkG (by rfl) 23 _ rfl b6 (by rfl) 23 _ _ X6 Tryd.underlying23 rfl infoC ?_)
        go_wp2_with fail
        with_reducible refine (lim_no 3 4 40 8 8 8 4 4 9 (by decide) _).mono ?_
        rintro e w7 ⟨rfl, hc7⟩
        have hb7 : Below w.heap.size w w7 := bchain (by repeat' (first | with_reducible exact hb6 | with_reducible refine Below.drew ?_ | with_reducible refine below_drewN ?_ _ | with_reducible refine Below.alloc ?_ (by have := hb6.size; first | (simp; done) | (simp; omega) | omega) _ | with_reducible refine Below.setCell ?_ (by first | (simp; done) | (simp; omega) | omega) _)) hc7
        have hst7 : Below w6.heap.size w6 w7 := bchain (by repeat' (first | with_reducible exact Below.refl _ _ | with_reducible refine Below.drew ?_ | with_reducible refine below_drewN ?_ _ | with_reducible refine Below.alloc ?_ (by first | (simp; done) | (simp; omega) | omega) _ | with_reducible refine Below.setCell ?_ (by first | (simp; done) | (simp; omega) | omega) _)) hc7
        replace X1 := X1.later hst7
        replace X2 := X2.later hst7
        replace X5 := X5.later hst7
        replace X6 := X6.later hst7
        clear hst7
        clear hc7 hb6
        go_wp2_with fail
        go_roundw
        case rel => exact ⟨9, by omega, by first | rfl | go_num, rfl, hb7, X1, X2⟩
        case measure => simp [intOf]; try omega
    · obtain rfl : k = 9 := by omega
      clear X1 X2
      go_upto_region 28 with (fail)
      refine wp_gen fun w11 hc11 => ?_
      have hb11 : Below w.heap.size w w11 := bchain (by repeat' (first | with_reducible exact hbr | with_reducible refine Below.drew ?_ | with_reducible refine below_drewN ?_ _ | with_reducible refine Below.alloc ?_ (by have := hbr.size; first | (simp; done) | (simp; omega) | omega) _ | with_reducible refine Below.setCell ?_ (by first | (simp; done) | (simp; omega) | omega) _)) hc11
      clear hc11 hbr
      exact glue ‹_› (part28 w _ hb11 H_htab.out H_her.out _ _ _ _ _ _ _ _ _ _ _ _ _ _ _ _ _ _ _ _ _ _ _ _ _ _ _ _ _ _ _ _ _ _ _ _ _ _ _ _ _ _ _ _ _ _ _ _ _ _ _ _ _ _ _ _ _ _ _ _ _ _ _ _ _ _ _ _ _ _ _ _ _ _ _ _ _ _ _ _ _ _ _ _ _ _ _ _ _ _ _ _ _ _ _ _ _ _ _ _ _ _ _ _ _ _ _ _ _ _ _ _ _ _ _ _ _ _ _ _ _ _ _ _ _ _ _ _ _ _ _ _ _ _ _ _ _ _ _ _ _ _ _ _ _ _ _ _ _ _ _ _ _ _ _ _ _ _ _ _ _ _ _ _ _ _ _ _ _ _ _ _ _ _ _ _ _ _ _ _ _ _ _ _ _ _ _ _ _ _ _ _ _ _ _ _ _ _ _ _ _ _ _ _ _ _ _ _ _ _ _ _ _ _ _ _ _ _ _ _ _ _ _ _ _ _ _ _ _ _ _ _ _ _ _ _ _ _ _ _ _ _ _ _ _ _ _ _ _ _ _ _ _ _ _ _ _ _ _ _ _ _ _ _ _ _ _ _ _ _ _ _ _ _ _ _ _ _ _ _ _ _ _ _ _ _ _ _ _ _ _ _ _ _ _ _ _ _ _ _ _ _ _ _ _ _ _ _ _ _ _ _ _ _ _ _ _ _ _ _ _ _ _ _ _ _ _ _ _ _ _ _ _ _ _ _ _ _ _ _ _ _ _ _ _ _ _ _ _ _ _ _ _ _ _ _ _ _ _ _ _ _ _ _ _ _ _ _ _ _ _ _ _ _ _ _ _ _ _ _ _ _ _ _ _ _ _ _ _ _ _ _ _ _ _ _ _ _ _ _ _ _ _ _ _ _ _ _ _ _ _ _ _ _ _ _ _ _ _ _ _ _ _ _ _ _ _ _ _ _ _ _ _ _ _ _ _ _ _ _ _ _ _ _ _ _ _ _ _ _ _ _ _)
end Go.Proofs.YthdldmkeoglflaaDoor

/- The law ConfigNames, as its frame wants it. -/
namespace Go.Proofs.YthdldmkeoglflaaDoor
set_option linter.unusedSimpArgs false
set_option linter.unusedVariables false
set_option linter.unnecessarySimpa false
open Go.RowKit
set_option linter.unusedVariables false

theorem names_full (w : World) (hL : LaidIn w) :
    Calls Tryd.prog 4 #[] w fun e w' =>
      e = .returned (.bool true) ∧ Below w.heap.size w w' := names_walk w hL.tab (fun _ hb => hL.err.later hb)
end Go.Proofs.YthdldmkeoglflaaDoor
