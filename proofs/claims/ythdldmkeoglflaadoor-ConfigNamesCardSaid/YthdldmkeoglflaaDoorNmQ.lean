/- NmQ: CfgNm5, CfgNm4, CfgNm3. -/
import Derived.Test.YthdldmkeoglflaaDoorNmA
import Derived.Test.YthdldmkeoglflaaDoorNmP
import Derived.Test.YthdldmkeoglflaaDoorOwnAt
/- ConfigNames, regions 42 to 53. -/
namespace Go.Proofs.YthdldmkeoglflaaDoor
set_option linter.unusedSimpArgs false
set_option linter.unusedVariables false
set_option linter.unnecessarySimpa false
open Go.RowKit
set_option linter.unusedVariables false


set_option maxRecDepth 100000 in
set_option maxHeartbeats 20000000 in
theorem part42 (w wz : World) (hb : Below w.heap.size w wz) (htab : ∀ W, Below w.heap.size w W → Lib.TabIs Tryd.prog W "internal/strconv.uint64pow10" .u64 Lib.pow10Tab) (her : ∀ W, Below w.heap.size w W → ErrIn W)
    (B7 B9 c7 c9 : Nat) (a7 a9 : Option Addr) (g7 : GAt wz B7 [] a7 c7) (g9 : GAt wz B9 [(⟨#[98]⟩, 16)] a9 c9)
    (u0 u1 u2 u4 u5 u6 u12 u13 u14 u15 u16 u18 u19 u20 u21 u22 u23 u24 u25 u26 u27 u28 u29 u30 u31 u32 u33 u34 u35 u36 u37 u38 u39 u40 u41 u42 u43 u44 u45 u46 u47 u48 u49 u50 u51 u52 u53 u54 u55 u56 u57 u58 u59 u60 u61 u62 u63 u64 u65 u66 u67 u68 u69 u70 u71 u72 u73 u74 u75 u76 u77 u78 u79 u80 u81 u82 u83 u84 u85 u86 u87 u88 u89 u90 u91 u92 u93 u94 u95 u96 u97 u98 u99 u100 u101 u102 u103 u104 u105 u106 u107 u108 u109 u110 u111 u112 u113 u114 u115 u116 u117 u118 u119 u120 u121 u122 u123 u124 u125 u126 u127 u128 u129 u130 u131 u132 u133 u134 u135 u136 u137 u138 u139 u140 u141 u142 u143 u144 u145 u146 u147 u148 u149 u150 u151 u152 u153 u154 u155 u156 u157 u158 u159 u160 u161 u162 u163 u164 u165 u166 u167 u168 u169 u170 u171 u172 u173 u174 u175 u176 u177 u178 u179 u180 u181 u182 u183 u184 u185 u186 u187 u188 u189 u190 u191 u192 u193 u194 u195 u196 u197 u198 u199 u200 u201 u202 u203 u204 u205 u206 u207 u208 u209 u210 u211 u212 u213 u214 u215 u216 u217 u218 u219 u220 u221 u222 u223 u224 u225 u226 u227 u228 u229 u230 u231 u232 u233 u234 u235 u236 u237 u238 u239 u240 u241 u242 u243 u244 u245 u246 u247 u248 u249 u250 u251 u252 u253 u254 u255 u256 u257 u258 u259 u260 u261 u262 u263 u264 u265 u266 u267 u268 u269 u270 u271 u272 u273 u274 u275 u276 u277 u278 u279 u280 u281 u282 u283 u284 u285 u286 u287 u288 u289 u290 u291 u292 u293 u294 u295 u296 u297 u298 u299 u300 u301 u302 u303 u304 u305 u306 u307 u308 u309 u310 u311 u312 u313 u314 u315 u316 u317 u318 u319 u320 u321 u322 u323 u324 u325 u326 u327 u328 u329 u330 u331 u332 u333 u334 u335 u336 u337 u338 u339 u340 u341 u342 u343 u344 u345 u346 u347 u348 u349 u350 u351 u352 u353 u354 u355 u356 u357 u358 u359 u360 u361 u362 u363 u364 u365 u366 u367 u368 u369 u370 u371 u372 u373 u374 u375 u376 u377 u378 u379 u380 u381 u382 u383 u384 u385 u386 u387 u388 u389 u390 u391 u392 u393 u394 u395 u396 u397 u398 u399 u400 u401 u402 u403 u404 u405 u406 u407 u408 u409 u410 u411 u412 u413 u414 u415 u416 u417 u418 u419 u420 u421 u422 u423 u424 u425 u426 u427 u428 u429 u430 u431 u432 u433 u434 u435 u436 u437 u438 u439 u440 u441 u442 u443 u444 u445 u446 u447 u448 u449 u450 u451 u452 u453 : Value) :
    Part w 42 { tmps := #[u0, u1, u2, .bool true, u4, u5, u6, .pointer (some ⟨B7, 0, none⟩), .int .i64 0, .pointer (some ⟨B9, 0, none⟩), .int .i64 0, .bool true, u12, u13, u14, u15, u16, .bool true, u18, u19, u20, u21, u22, u23, u24, u25, u26, u27, u28, u29, u30, u31, u32, u33, u34, u35, u36, u37, u38, u39, u40, u41, u42, u43, u44, u45, u46, u47, u48, u49, u50, u51, u52, u53, u54, u55, u56, u57, u58, u59, u60, u61, u62, u63, u64, u65, u66, u67, u68, u69, u70, u71, u72, u73, u74, u75, u76, u77, u78, u79, u80, u81, u82, u83, u84, u85, u86, u87, u88, u89, u90, u91, u92, u93, u94, u95, u96, u97, u98, u99, u100, u101, u102, u103, u104, u105, u106, u107, u108, u109, u110, u111, u112, u113, u114, u115, u116, u117, u118, u119, u120, u121, u122, u123, u124, u125, u126, u127, u128, u129, u130, u131, u132, u133, u134, u135, u136, u137, u138, u139, u140, u141, u142, u143, u144, u145, u146, u147, u148, u149, u150, u151, u152, u153, u154, u155, u156, u157, u158, u159, u160, u161, u162, u163, u164, u165, u166, u167, u168, u169, u170, u171, u172, u173, u174, u175, u176, u177, u178, u179, u180, u181, u182, u183, u184, u185, u186, u187, u188, u189, u190, u191, u192, u193, u194, u195, u196, u197, u198, u199, u200, u201, u202, u203, u204, u205, u206, u207, u208, u209, u210, u211, u212, u213, u214, u215, u216, u217, u218, u219, u220, u221, u222, u223, u224, u225, u226, u227, u228, u229, u230, u231, u232, u233, u234, u235, u236, u237, u238, u239, u240, u241, u242, u243, u244, u245, u246, u247, u248, u249, u250, u251, u252, u253, u254, u255, u256, u257, u258, u259, u260, u261, u262, u263, u264, u265, u266, u267, u268, u269, u270, u271, u272, u273, u274, u275, u276, u277, u278, u279, u280, u281, u282, u283, u284, u285, u286, u287, u288, u289, u290, u291, u292, u293, u294, u295, u296, u297, u298, u299, u300, u301, u302, u303, u304, u305, u306, u307, u308, u309, u310, u311, u312, u313, u314, u315, u316, u317, u318, u319, u320, u321, u322, u323, u324, u325, u326, u327, u328, u329, u330, u331, u332, u333, u334, u335, u336, u337, u338, u339, u340, u341, u342, u343, u344, u345, u346, u347, u348, u349, u350, u351, u352, u353, u354, u355, u356, u357, u358, u359, u360, u361, u362, u363, u364, u365, u366, u367, u368, u369, u370, u371, u372, u373, u374, u375, u376, u377, u378, u379, u380, u381, u382, u383, u384, u385, u386, u387, u388, u389, u390, u391, u392, u393, u394, u395, u396, u397, u398, u399, u400, u401, u402, u403, u404, u405, u406, u407, u408, u409, u410, u411, u412, u413, u414, u415, u416, u417, u418, u419, u420, u421, u422, u423, u424, u425, u426, u427, u428, u429, u430, u431, u432, u433, u434, u435, u436, u437, u438, u439, u440, u441, u442, u443, u444, u445, u446, u447, u448, u449, u450, u451, u452, u453], defers := [] } wz := by
  unfold Part
  conv => arg 2; whnf
  have H_htab := Box.mk htab
  have H_her := Box.mk her
  clear htab her
  go_wp2_with fail
  refine Calls_gen2 fun w1 hc1 => ?_
  have kb : CellsAt w1 (some ⟨wz.heap.size, 0, none⟩) (cel pB) := ((Blk.newA wz _ _ 46 [.string ⟨#[98]⟩, .int .u32 16] rfl rfl).cellsAt2).later hc1
  have hb1 : Below w.heap.size w w1 := bchain (by repeat' (first | with_reducible exact hb | with_reducible refine Below.drew ?_ | with_reducible refine below_drewN ?_ _ | with_reducible refine Below.alloc ?_ (by have := hb.size; first | (simp; done) | (simp; omega) | omega) _ | with_reducible refine Below.setCell ?_ (by first | (simp; done) | (simp; omega) | omega) _)) hc1
  have hst1 : Below wz.heap.size wz w1 := bchain (by repeat' (first | with_reducible exact Below.refl _ _ | with_reducible refine Below.drew ?_ | with_reducible refine below_drewN ?_ _ | with_reducible refine Below.alloc ?_ (by first | (simp; done) | (simp; omega) | omega) _ | with_reducible refine Below.setCell ?_ (by first | (simp; done) | (simp; omega) | omega) _)) hc1
  replace g7 := g7.later hst1
  replace g9 := g9.later hst1
  clear hst1
  clear hc1
  go_wp2_with fail
  with_reducible refine (given_any _ 1 1 _).mono ?_
  rintro e w2 ⟨rfl, hc2⟩
  have hb2 : Below w.heap.size w w2 := bchain (by repeat' (first | with_reducible exact hb1 | with_reducible refine Below.drew ?_ | with_reducible refine below_drewN ?_ _ | with_reducible refine Below.alloc ?_ (by have := hb1.size; first | (simp; done) | (simp; omega) | omega) _ | with_reducible refine Below.setCell ?_ (by first | (simp; done) | (simp; omega) | omega) _)) hc2
  have hst2 : Below w1.heap.size w1 w2 := bchain (by repeat' (first | with_reducible exact Below.refl _ _ | with_reducible refine Below.drew ?_ | with_reducible refine below_drewN ?_ _ | with_reducible refine Below.alloc ?_ (by first | (simp; done) | (simp; omega) | omega) _ | with_reducible refine Below.setCell ?_ (by first | (simp; done) | (simp; omega) | omega) _)) hc2
  replace g7 := g7.later hst2
  replace g9 := g9.later hst2
  replace kb := kb.later hst2
  clear hst2
  clear hc2 hb1
  obtain ⟨B18, hB18⟩ : ∃ B, w2.heap.size = B := ⟨_, rfl⟩
  go_wp2_with fail
  try simp only [hB18]
  conv => arg 2; whnf
  refine wp_facts' (fun Wx => Below w.heap.size w Wx ∧ Below w2.heap.size w2 Wx ∧ Blk Wx B18 27 [.int .i64 2, .int .i64 2, .int .i64 2, .int .i64 2, .int .i64 2, .int .i64 2, .int .i64 2, .int .i64 2, .int .i64 2, .int .u32 5, .slice (some ⟨wz.heap.size, 0, none⟩) 1 1]) ⟨(by repeat' (first | with_reducible exact hb2 | with_reducible refine Below.drew ?_ | with_reducible refine below_drewN ?_ _ | with_reducible refine Below.alloc ?_ (by have := hb2.size; first | (simp; done) | (simp; omega) | omega) _ | with_reducible refine Below.setCell ?_ (by first | (simp; done) | (simp; omega) | omega) _)), (Below.refl _ _).alloc (Nat.le_refl _) _, Blk.newA w2 _ _ 27 [.int .i64 2, .int .i64 2, .int .i64 2, .int .i64 2, .int .i64 2, .int .i64 2, .int .i64 2, .int .i64 2, .int .i64 2, .int .u32 5, .slice (some ⟨wz.heap.size, 0, none⟩) 1 1] hB18 rfl⟩ ?_
  rintro w3 ⟨hb3, hc3, hXB18⟩
  replace g7 := g7.later hc3
  replace g9 := g9.later hc3
  replace kb := kb.later hc3
  clear hc3
  have hX := hXB18
  clear hXB18
  have hS : SIn w3 5 pB (some ⟨wz.heap.size, 0, none⟩) := ⟨by decide, by decide, kb, pB_ok.keys, by decide⟩
  go_wp2_with (refine wpList_load_blk rfl 27 _ rfl B18 (by rfl) 27 _ _ hX Tryd.underlying27 rfl infoS ?_)
  go_wp2_with fail
  with_reducible refine (xfind _ _ _ hS).mono ?_
  rintro e w4 ⟨rfl, hc4⟩
  have hb4 : Below w.heap.size w w4 := bchain (by repeat' (first | with_reducible exact hb3 | with_reducible refine Below.drew ?_ | with_reducible refine below_drewN ?_ _ | with_reducible refine Below.alloc ?_ (by have := hb3.size; first | (simp; done) | (simp; omega) | omega) _ | with_reducible refine Below.setCell ?_ (by first | (simp; done) | (simp; omega) | omega) _)) hc4
  have hst4 : Below w3.heap.size w3 w4 := bchain (by repeat' (first | with_reducible exact Below.refl _ _ | with_reducible refine Below.drew ?_ | with_reducible refine below_drewN ?_ _ | with_reducible refine Below.alloc ?_ (by first | (simp; done) | (simp; omega) | omega) _ | with_reducible refine Below.setCell ?_ (by first | (simp; done) | (simp; omega) | omega) _)) hc4
  replace g7 := g7.later hst4
  replace g9 := g9.later hst4
  replace kb := kb.later hst4
  replace hX := hX.later hst4
  replace hS := hS.later hst4
  clear hst4
  clear hc4 hb3
  go_wp2_with (refine wpList_load_blk rfl 27 _ rfl B18 (by rfl) 27 _ _ hX Tryd.underlying27 rfl infoS ?_)
  go_wp2_with fail
  with_reducible refine (xwho4 _ _ _ hS).mono ?_
  rintro e w5 ⟨rfl, hc5⟩
  have hb5 : Below w.heap.size w w5 := bchain (by repeat' (first | with_reducible exact hb4 | with_reducible refine Below.drew ?_ | with_reducible refine below_drewN ?_ _ | with_reducible refine Below.alloc ?_ (by have := hb4.size; first | (simp; done) | (simp; omega) | omega) _ | with_reducible refine Below.setCell ?_ (by first | (simp; done) | (simp; omega) | omega) _)) hc5
  have hst5 : Below w4.heap.size w4 w5 := bchain (by repeat' (first | with_reducible exact Below.refl _ _ | with_reducible refine Below.drew ?_ | with_reducible refine below_drewN ?_ _ | with_reducible refine Below.alloc ?_ (by first | (simp; done) | (simp; omega) | omega) _ | with_reducible refine Below.setCell ?_ (by first | (simp; done) | (simp; omega) | omega) _)) hc5
  replace g7 := g7.later hst5
  replace g9 := g9.later hst5
  replace kb := kb.later hst5
  replace hX := hX.later hst5
  replace hS := hS.later hst5
  clear hst5
  clear hc5 hb4
  go_wp2_with (refine wpList_load_blk rfl 27 _ rfl B18 (by rfl) 27 _ _ hX Tryd.underlying27 rfl infoS ?_)
  go_wp2_with fail
  with_reducible refine (xwhoO _ _ _ hS).mono ?_
  rintro e w6 ⟨rfl, hc6⟩
  have hb6 : Below w.heap.size w w6 := bchain (by repeat' (first | with_reducible exact hb5 | with_reducible refine Below.drew ?_ | with_reducible refine below_drewN ?_ _ | with_reducible refine Below.alloc ?_ (by have := hb5.size; first | (simp; done) | (simp; omega) | omega) _ | with_reducible refine Below.setCell ?_ (by first | (simp; done) | (simp; omega) | omega) _)) hc6
  have hst6 : Below w5.heap.size w5 w6 := bchain (by repeat' (first | with_reducible exact Below.refl _ _ | with_reducible refine Below.drew ?_ | with_reducible refine below_drewN ?_ _ | with_reducible refine Below.alloc ?_ (by first | (simp; done) | (simp; omega) | omega) _ | with_reducible refine Below.setCell ?_ (by first | (simp; done) | (simp; omega) | omega) _)) hc6
  replace g7 := g7.later hst6
  replace g9 := g9.later hst6
  replace kb := kb.later hst6
  replace hX := hX.later hst6
  replace hS := hS.later hst6
  clear hst6
  clear hc6 hb5
  go_wp2_with (refine wpList_load_blk rfl 27 _ rfl B18 (by rfl) 27 _ _ hX Tryd.underlying27 rfl infoS ?_)
  go_wp2_with fail
  with_reducible refine (xwc0 _ _ _ hS).mono ?_
  rintro e w7 ⟨⟨_, _, rfl⟩, hc7⟩
  have hb7 : Below w.heap.size w w7 := bchain (by repeat' (first | with_reducible exact hb6 | with_reducible refine Below.drew ?_ | with_reducible refine below_drewN ?_ _ | with_reducible refine Below.alloc ?_ (by have := hb6.size; first | (simp; done) | (simp; omega) | omega) _ | with_reducible refine Below.setCell ?_ (by first | (simp; done) | (simp; omega) | omega) _)) hc7
  have hst7 : Below w6.heap.size w6 w7 := bchain (by repeat' (first | with_reducible exact Below.refl _ _ | with_reducible refine Below.drew ?_ | with_reducible refine below_drewN ?_ _ | with_reducible refine Below.alloc ?_ (by first | (simp; done) | (simp; omega) | omega) _ | with_reducible refine Below.setCell ?_ (by first | (simp; done) | (simp; omega) | omega) _)) hc7
  replace g7 := g7.later hst7
  replace g9 := g9.later hst7
  replace kb := kb.later hst7
  replace hX := hX.later hst7
  replace hS := hS.later hst7
  clear hst7
  clear hc7 hb6
  go_upto_region 47 with (fail)
  refine wp_gen fun w8 hc8 => ?_
  have hb8 : Below w.heap.size w w8 := bchain (by repeat' (first | with_reducible exact hb7 | with_reducible refine Below.drew ?_ | with_reducible refine below_drewN ?_ _ | with_reducible refine Below.alloc ?_ (by have := hb7.size; first | (simp; done) | (simp; omega) | omega) _ | with_reducible refine Below.setCell ?_ (by first | (simp; done) | (simp; omega) | omega) _)) hc8
  have hst8 : Below w7.heap.size w7 w8 := bchain (by repeat' (first | with_reducible exact Below.refl _ _ | with_reducible refine Below.drew ?_ | with_reducible refine below_drewN ?_ _ | with_reducible refine Below.alloc ?_ (by first | (simp; done) | (simp; omega) | omega) _ | with_reducible refine Below.setCell ?_ (by first | (simp; done) | (simp; omega) | omega) _)) hc8
  replace g7 := g7.later hst8
  replace g9 := g9.later hst8
  replace kb := kb.later hst8
  replace hX := hX.later hst8
  replace hS := hS.later hst8
  clear hst8
  clear hc8 hb7
  go_wp2_with (refine wpList_load_blk rfl 27 _ rfl B18 (by rfl) 27 _ _ hX Tryd.underlying27 rfl infoS ?_)
  go_wp2_with fail
  with_reducible refine (xwb4 _ _ _ hS).mono ?_
  rintro e w9 ⟨⟨_, _, rfl⟩, hc9⟩
  have hb9 : Below w.heap.size w w9 := bchain (by repeat' (first | with_reducible exact hb8 | with_reducible refine Below.drew ?_ | with_reducible refine below_drewN ?_ _ | with_reducible refine Below.alloc ?_ (by have := hb8.size; first | (simp; done) | (simp; omega) | omega) _ | with_reducible refine Below.setCell ?_ (by first | (simp; done) | (simp; omega) | omega) _)) hc9
  have hst9 : Below w8.heap.size w8 w9 := bchain (by repeat' (first | with_reducible exact Below.refl _ _ | with_reducible refine Below.drew ?_ | with_reducible refine below_drewN ?_ _ | with_reducible refine Below.alloc ?_ (by first | (simp; done) | (simp; omega) | omega) _ | with_reducible refine Below.setCell ?_ (by first | (simp; done) | (simp; omega) | omega) _)) hc9
  replace g7 := g7.later hst9
  replace g9 := g9.later hst9
  replace kb := kb.later hst9
  replace hX := hX.later hst9
  replace hS := hS.later hst9
  clear hst9
  clear hc9 hb8
  go_upto_region 48 with (fail)
  refine wp_gen fun w10 hc10 => ?_
  have hb10 : Below w.heap.size w w10 := bchain (by repeat' (first | with_reducible exact hb9 | with_reducible refine Below.drew ?_ | with_reducible refine below_drewN ?_ _ | with_reducible refine Below.alloc ?_ (by have := hb9.size; first | (simp; done) | (simp; omega) | omega) _ | with_reducible refine Below.setCell ?_ (by first | (simp; done) | (simp; omega) | omega) _)) hc10
  have hst10 : Below w9.heap.size w9 w10 := bchain (by repeat' (first | with_reducible exact Below.refl _ _ | with_reducible refine Below.drew ?_ | with_reducible refine below_drewN ?_ _ | with_reducible refine Below.alloc ?_ (by first | (simp; done) | (simp; omega) | omega) _ | with_reducible refine Below.setCell ?_ (by first | (simp; done) | (simp; omega) | omega) _)) hc10
  replace g7 := g7.later hst10
  replace g9 := g9.later hst10
  replace kb := kb.later hst10
  replace hX := hX.later hst10
  replace hS := hS.later hst10
  clear hst10
  clear hc10 hb9
  go_wp2_with (refine wpList_load_blk rfl 27 _ rfl B18 (by rfl) 27 _ _ hX Tryd.underlying27 rfl infoS ?_)
  go_wp2_with fail
  with_reducible refine (xwc16 _ _ _ hS).mono ?_
  rintro e w11 ⟨⟨_, _, rfl⟩, hc11⟩
  have hb11 : Below w.heap.size w w11 := bchain (by repeat' (first | with_reducible exact hb10 | with_reducible refine Below.drew ?_ | with_reducible refine below_drewN ?_ _ | with_reducible refine Below.alloc ?_ (by have := hb10.size; first | (simp; done) | (simp; omega) | omega) _ | with_reducible refine Below.setCell ?_ (by first | (simp; done) | (simp; omega) | omega) _)) hc11
  have hst11 : Below w10.heap.size w10 w11 := bchain (by repeat' (first | with_reducible exact Below.refl _ _ | with_reducible refine Below.drew ?_ | with_reducible refine below_drewN ?_ _ | with_reducible refine Below.alloc ?_ (by first | (simp; done) | (simp; omega) | omega) _ | with_reducible refine Below.setCell ?_ (by first | (simp; done) | (simp; omega) | omega) _)) hc11
  replace g7 := g7.later hst11
  replace g9 := g9.later hst11
  replace kb := kb.later hst11
  replace hX := hX.later hst11
  replace hS := hS.later hst11
  clear hst11
  clear hc11 hb10
  go_upto_region 49 with (fail)
  refine wp_gen fun w12 hc12 => ?_
  have hb12 : Below w.heap.size w w12 := bchain (by repeat' (first | with_reducible exact hb11 | with_reducible refine Below.drew ?_ | with_reducible refine below_drewN ?_ _ | with_reducible refine Below.alloc ?_ (by have := hb11.size; first | (simp; done) | (simp; omega) | omega) _ | with_reducible refine Below.setCell ?_ (by first | (simp; done) | (simp; omega) | omega) _)) hc12
  have hst12 : Below w11.heap.size w11 w12 := bchain (by repeat' (first | with_reducible exact Below.refl _ _ | with_reducible refine Below.drew ?_ | with_reducible refine below_drewN ?_ _ | with_reducible refine Below.alloc ?_ (by first | (simp; done) | (simp; omega) | omega) _ | with_reducible refine Below.setCell ?_ (by first | (simp; done) | (simp; omega) | omega) _)) hc12
  replace g7 := g7.later hst12
  replace g9 := g9.later hst12
  replace kb := kb.later hst12
  replace hX := hX.later hst12
  replace hS := hS.later hst12
  clear hst12
  clear hc12 hb11
  go_wp2_with (refine wpList_load_blk rfl 27 _ rfl B18 (by rfl) 27 _ _ hX Tryd.underlying27 rfl infoS ?_)
  go_wp2_with fail
  with_reducible refine (xwcO _ _ _ hS).mono ?_
  rintro e w13 ⟨⟨_, _, rfl⟩, hc13⟩
  have hb13 : Below w.heap.size w w13 := bchain (by repeat' (first | with_reducible exact hb12 | with_reducible refine Below.drew ?_ | with_reducible refine below_drewN ?_ _ | with_reducible refine Below.alloc ?_ (by have := hb12.size; first | (simp; done) | (simp; omega) | omega) _ | with_reducible refine Below.setCell ?_ (by first | (simp; done) | (simp; omega) | omega) _)) hc13
  have hst13 : Below w12.heap.size w12 w13 := bchain (by repeat' (first | with_reducible exact Below.refl _ _ | with_reducible refine Below.drew ?_ | with_reducible refine below_drewN ?_ _ | with_reducible refine Below.alloc ?_ (by first | (simp; done) | (simp; omega) | omega) _ | with_reducible refine Below.setCell ?_ (by first | (simp; done) | (simp; omega) | omega) _)) hc13
  replace g7 := g7.later hst13
  replace g9 := g9.later hst13
  replace kb := kb.later hst13
  replace hX := hX.later hst13
  replace hS := hS.later hst13
  clear hst13
  clear hc13 hb12
  go_upto_region 50 with (fail)
  refine wp_gen fun w14 hc14 => ?_
  have hb14 : Below w.heap.size w w14 := bchain (by repeat' (first | with_reducible exact hb13 | with_reducible refine Below.drew ?_ | with_reducible refine below_drewN ?_ _ | with_reducible refine Below.alloc ?_ (by have := hb13.size; first | (simp; done) | (simp; omega) | omega) _ | with_reducible refine Below.setCell ?_ (by first | (simp; done) | (simp; omega) | omega) _)) hc14
  have hst14 : Below w13.heap.size w13 w14 := bchain (by repeat' (first | with_reducible exact Below.refl _ _ | with_reducible refine Below.drew ?_ | with_reducible refine below_drewN ?_ _ | with_reducible refine Below.alloc ?_ (by first | (simp; done) | (simp; omega) | omega) _ | with_reducible refine Below.setCell ?_ (by first | (simp; done) | (simp; omega) | omega) _)) hc14
  replace g7 := g7.later hst14
  replace g9 := g9.later hst14
  replace kb := kb.later hst14
  replace hX := hX.later hst14
  replace hS := hS.later hst14
  clear hst14
  clear hc14 hb13
  go_wp2_with (refine wpList_load_blk rfl 27 _ rfl B18 (by rfl) 27 _ _ hX Tryd.underlying27 rfl infoS ?_)
  go_wp2_with fail
  with_reducible refine (xwa4 _ _ _ hS).mono ?_
  rintro e w15 ⟨⟨a33, c33, rfl, k33⟩, hc15⟩
  have hb15 : Below w.heap.size w w15 := bchain (by repeat' (first | with_reducible exact hb14 | with_reducible refine Below.drew ?_ | with_reducible refine below_drewN ?_ _ | with_reducible refine Below.alloc ?_ (by have := hb14.size; first | (simp; done) | (simp; omega) | omega) _ | with_reducible refine Below.setCell ?_ (by first | (simp; done) | (simp; omega) | omega) _)) hc15
  have hst15 : Below w14.heap.size w14 w15 := bchain (by repeat' (first | with_reducible exact Below.refl _ _ | with_reducible refine Below.drew ?_ | with_reducible refine below_drewN ?_ _ | with_reducible refine Below.alloc ?_ (by first | (simp; done) | (simp; omega) | omega) _ | with_reducible refine Below.setCell ?_ (by first | (simp; done) | (simp; omega) | omega) _)) hc15
  replace g7 := g7.later hst15
  replace g9 := g9.later hst15
  replace kb := kb.later hst15
  replace hX := hX.later hst15
  replace hS := hS.later hst15
  clear hst15
  clear hc15 hb14
  obtain ⟨B33, hB33⟩ : ∃ B, w15.heap.size = B := ⟨_, rfl⟩
  go_upto_region 51 with fail
  try simp only [hB33]
  refine wp_facts' (fun Wx => Below w.heap.size w Wx ∧ Below w15.heap.size w15 Wx ∧ Blk Wx B33 27 [.int .i64 2, .int .i64 2, .int .i64 2, .int .i64 2, .int .i64 2, .int .i64 2, .int .i64 2, .int .i64 2, .int .i64 2, .int .u32 5, .slice a33 2 c33]) ⟨(by repeat' (first | with_reducible exact hb15 | with_reducible refine Below.drew ?_ | with_reducible refine below_drewN ?_ _ | with_reducible refine Below.alloc ?_ (by have := hb15.size; first | (simp; done) | (simp; omega) | omega) _ | with_reducible refine Below.setCell ?_ (by first | (simp; done) | (simp; omega) | omega) _)), (Below.refl _ _).alloc (Nat.le_refl _) _, Blk.newA w15 _ _ 27 [.int .i64 2, .int .i64 2, .int .i64 2, .int .i64 2, .int .i64 2, .int .i64 2, .int .i64 2, .int .i64 2, .int .i64 2, .int .u32 5, .slice a33 2 c33] hB33 rfl⟩ ?_
  rintro w16 ⟨hb16, hc16, hXB33⟩
  replace g7 := g7.later hc16
  replace g9 := g9.later hc16
  replace kb := kb.later hc16
  replace hX := hX.later hc16
  replace hS := hS.later hc16
  replace k33 := k33.later hc16
  clear hc16
  go_wp2_with (refine wpList_load_blk rfl 27 _ rfl B18 (by rfl) 27 _ _ hX Tryd.underlying27 rfl infoS ?_)
  go_wp2_with fail
  with_reducible refine (xoc _ _ _ hS).mono ?_
  rintro e w17 ⟨⟨_, _, rfl⟩, hc17⟩
  have hb17 : Below w.heap.size w w17 := bchain (by repeat' (first | with_reducible exact hb16 | with_reducible refine Below.drew ?_ | with_reducible refine below_drewN ?_ _ | with_reducible refine Below.alloc ?_ (by have := hb16.size; first | (simp; done) | (simp; omega) | omega) _ | with_reducible refine Below.setCell ?_ (by first | (simp; done) | (simp; omega) | omega) _)) hc17
  have hst17 : Below w16.heap.size w16 w17 := bchain (by repeat' (first | with_reducible exact Below.refl _ _ | with_reducible refine Below.drew ?_ | with_reducible refine below_drewN ?_ _ | with_reducible refine Below.alloc ?_ (by first | (simp; done) | (simp; omega) | omega) _ | with_reducible refine Below.setCell ?_ (by first | (simp; done) | (simp; omega) | omega) _)) hc17
  replace g7 := g7.later hst17
  replace g9 := g9.later hst17
  replace kb := kb.later hst17
  replace hX := hX.later hst17
  replace hS := hS.later hst17
  replace k33 := k33.later hst17
  replace hXB33 := hXB33.later hst17
  clear hst17
  clear hc17 hb16
  go_upto_region 52 with (fail)
  refine wp_gen fun w18 hc18 => ?_
  have hb18 : Below w.heap.size w w18 := bchain (by repeat' (first | with_reducible exact hb17 | with_reducible refine Below.drew ?_ | with_reducible refine below_drewN ?_ _ | with_reducible refine Below.alloc ?_ (by have := hb17.size; first | (simp; done) | (simp; omega) | omega) _ | with_reducible refine Below.setCell ?_ (by first | (simp; done) | (simp; omega) | omega) _)) hc18
  have hst18 : Below w17.heap.size w17 w18 := bchain (by repeat' (first | with_reducible exact Below.refl _ _ | with_reducible refine Below.drew ?_ | with_reducible refine below_drewN ?_ _ | with_reducible refine Below.alloc ?_ (by first | (simp; done) | (simp; omega) | omega) _ | with_reducible refine Below.setCell ?_ (by first | (simp; done) | (simp; omega) | omega) _)) hc18
  replace g7 := g7.later hst18
  replace g9 := g9.later hst18
  replace kb := kb.later hst18
  replace hX := hX.later hst18
  replace hS := hS.later hst18
  replace k33 := k33.later hst18
  replace hXB33 := hXB33.later hst18
  clear hst18
  clear hc18 hb17
  go_wp2_with (refine wpList_load_blk rfl 27 _ rfl B18 (by rfl) 27 _ _ hX Tryd.underlying27 rfl infoS ?_)
  go_wp2_with fail
  with_reducible refine (xob _ _ _ hS).mono ?_
  rintro e w19 ⟨⟨a37, c37, rfl, k37⟩, hc19⟩
  have hb19 : Below w.heap.size w w19 := bchain (by repeat' (first | with_reducible exact hb18 | with_reducible refine Below.drew ?_ | with_reducible refine below_drewN ?_ _ | with_reducible refine Below.alloc ?_ (by have := hb18.size; first | (simp; done) | (simp; omega) | omega) _ | with_reducible refine Below.setCell ?_ (by first | (simp; done) | (simp; omega) | omega) _)) hc19
  have hst19 : Below w18.heap.size w18 w19 := bchain (by repeat' (first | with_reducible exact Below.refl _ _ | with_reducible refine Below.drew ?_ | with_reducible refine below_drewN ?_ _ | with_reducible refine Below.alloc ?_ (by first | (simp; done) | (simp; omega) | omega) _ | with_reducible refine Below.setCell ?_ (by first | (simp; done) | (simp; omega) | omega) _)) hc19
  replace g7 := g7.later hst19
  replace g9 := g9.later hst19
  replace kb := kb.later hst19
  replace hX := hX.later hst19
  replace hS := hS.later hst19
  replace k33 := k33.later hst19
  replace hXB33 := hXB33.later hst19
  clear hst19
  clear hc19 hb18
  obtain ⟨B37, hB37⟩ : ∃ B, w19.heap.size = B := ⟨_, rfl⟩
  go_upto_region 53 with fail
  try simp only [hB37]
  refine wp_facts' (fun Wx => Below w.heap.size w Wx ∧ Below w19.heap.size w19 Wx ∧ Blk Wx B37 27 [.int .i64 2, .int .i64 2, .int .i64 2, .int .i64 2, .int .i64 2, .int .i64 2, .int .i64 2, .int .i64 2, .int .i64 2, .int .u32 5, .slice a37 0 c37]) ⟨(by repeat' (first | with_reducible exact hb19 | with_reducible refine Below.drew ?_ | with_reducible refine below_drewN ?_ _ | with_reducible refine Below.alloc ?_ (by have := hb19.size; first | (simp; done) | (simp; omega) | omega) _ | with_reducible refine Below.setCell ?_ (by first | (simp; done) | (simp; omega) | omega) _)), (Below.refl _ _).alloc (Nat.le_refl _) _, Blk.newA w19 _ _ 27 [.int .i64 2, .int .i64 2, .int .i64 2, .int .i64 2, .int .i64 2, .int .i64 2, .int .i64 2, .int .i64 2, .int .i64 2, .int .u32 5, .slice a37 0 c37] hB37 rfl⟩ ?_
  rintro w20 ⟨hb20, hc20, hXB37⟩
  replace g7 := g7.later hc20
  replace g9 := g9.later hc20
  replace kb := kb.later hc20
  replace hX := hX.later hc20
  replace hS := hS.later hc20
  replace k33 := k33.later hc20
  replace hXB33 := hXB33.later hc20
  replace k37 := k37.later hc20
  clear hc20
  clear hS
  obtain ⟨i0, hi, hz0, hz1, hz2⟩ := info_parts info_u8x
  obtain ⟨zb, hzb⟩ : ∃ zb, (⟨(List.replicate 1001 (0 : UInt8)).toArray⟩ : ByteArray) = zb := ⟨_, rfl⟩
  have hzs : zb.size = 1001 := by rw [← hzb]; exact List.length_replicate
  go_wp2_with (refine wpList_makeN rfl 43 _ _ rfl 1001 (by rfl) (by rfl) 5 i0 (.int .u8 0) Tryd.underlying43 hi hz0 hz1 (by rw [hz2]; omega) (by omega) rfl ?_; intro b21 w21 hc21 k21; have hcv := conv_zeros w21 b21 1001 k21; rw [hzb] at hcv)
  have hb21 : Below w.heap.size w w21 := bchain (by repeat' (first | with_reducible exact hb20 | with_reducible refine Below.drew ?_ | with_reducible refine below_drewN ?_ _ | with_reducible refine Below.alloc ?_ (by have := hb20.size; first | (simp; done) | (simp; omega) | omega) _ | with_reducible refine Below.setCell ?_ (by first | (simp; done) | (simp; omega) | omega) _)) hc21
  have hst21 : Below w20.heap.size w20 w21 := bchain (by repeat' (first | with_reducible exact Below.refl _ _ | with_reducible refine Below.drew ?_ | with_reducible refine below_drewN ?_ _ | with_reducible refine Below.alloc ?_ (by first | (simp; done) | (simp; omega) | omega) _ | with_reducible refine Below.setCell ?_ (by first | (simp; done) | (simp; omega) | omega) _)) hc21
  replace g7 := g7.later hst21
  replace g9 := g9.later hst21
  replace kb := kb.later hst21
  replace hX := hX.later hst21
  replace k33 := k33.later hst21
  replace hXB33 := hXB33.later hst21
  replace k37 := k37.later hst21
  replace hXB37 := hXB37.later hst21
  clear hst21
  clear hc21 k21 hzb
  go_wp2_with fail
  with_reducible refine (parse_long zb _ (by omega) (by omega) (H_her.out _ hb21) (fun W hb' => H_htab.out W (bchain hb21 hb'))).mono ?_
  rintro e w22 ⟨⟨_, _, rfl⟩, hc22⟩
  have hb22 : Below w.heap.size w w22 := bchain (by repeat' (first | with_reducible exact hb21 | with_reducible refine Below.drew ?_ | with_reducible refine below_drewN ?_ _ | with_reducible refine Below.alloc ?_ (by have := hb21.size; first | (simp; done) | (simp; omega) | omega) _ | with_reducible refine Below.setCell ?_ (by first | (simp; done) | (simp; omega) | omega) _)) hc22
  have hst22 : Below w21.heap.size w21 w22 := bchain (by repeat' (first | with_reducible exact Below.refl _ _ | with_reducible refine Below.drew ?_ | with_reducible refine below_drewN ?_ _ | with_reducible refine Below.alloc ?_ (by first | (simp; done) | (simp; omega) | omega) _ | with_reducible refine Below.setCell ?_ (by first | (simp; done) | (simp; omega) | omega) _)) hc22
  replace g7 := g7.later hst22
  replace g9 := g9.later hst22
  replace kb := kb.later hst22
  replace hX := hX.later hst22
  replace k33 := k33.later hst22
  replace hXB33 := hXB33.later hst22
  replace k37 := k37.later hst22
  replace hXB37 := hXB37.later hst22
  clear hst22
  clear hc22 hb21
  go_upto_region 54 with (fail)
  refine wp_gen fun w23 hc23 => ?_
  have hb23 : Below w.heap.size w w23 := bchain (by repeat' (first | with_reducible exact hb22 | with_reducible refine Below.drew ?_ | with_reducible refine below_drewN ?_ _ | with_reducible refine Below.alloc ?_ (by have := hb22.size; first | (simp; done) | (simp; omega) | omega) _ | with_reducible refine Below.setCell ?_ (by first | (simp; done) | (simp; omega) | omega) _)) hc23
  have hst23 : Below w22.heap.size w22 w23 := bchain (by repeat' (first | with_reducible exact Below.refl _ _ | with_reducible refine Below.drew ?_ | with_reducible refine below_drewN ?_ _ | with_reducible refine Below.alloc ?_ (by first | (simp; done) | (simp; omega) | omega) _ | with_reducible refine Below.setCell ?_ (by first | (simp; done) | (simp; omega) | omega) _)) hc23
  replace g7 := g7.later hst23
  replace g9 := g9.later hst23
  replace kb := kb.later hst23
  replace hX := hX.later hst23
  replace k33 := k33.later hst23
  replace hXB33 := hXB33.later hst23
  replace k37 := k37.later hst23
  replace hXB37 := hXB37.later hst23
  clear hst23
  clear hc23 hb22
  exact glue ‹_› (part54 w _ hb23 H_htab.out B7 B9 B18 B33 B37 c7 c9 1 c33 c37 a7 a9 (some ⟨wz.heap.size, 0, none⟩) a33 a37 g7 g9 ⟨hX.cellsAt2, kb⟩ ⟨hXB33.cellsAt2, k33⟩ ⟨hXB37.cellsAt2, k37⟩ _ _ _ _ _ _ _ _ _ _ _ _ _ _ _ _ _ _ _ _ _ _ _ _ _ _ _ _ _ _ _ _ _ _ _ _ _ _ _ _ _ _ _ _ _ _ _ _ _ _ _ _ _ _ _ _ _ _ _ _ _ _ _ _ _ _ _ _ _ _ _ _ _ _ _ _ _ _ _ _ _ _ _ _ _ _ _ _ _ _ _ _ _ _ _ _ _ _ _ _ _ _ _ _ _ _ _ _ _ _ _ _ _ _ _ _ _ _ _ _ _ _ _ _ _ _ _ _ _ _ _ _ _ _ _ _ _ _ _ _ _ _ _ _ _ _ _ _ _ _ _ _ _ _ _ _ _ _ _ _ _ _ _ _ _ _ _ _ _ _ _ _ _ _ _ _ _ _ _ _ _ _ _ _ _ _ _ _ _ _ _ _ _ _ _ _ _ _ _ _ _ _ _ _ _ _ _ _ _ _ _ _ _ _ _ _ _ _ _ _ _ _ _ _ _ _ _ _ _ _ _ _ _ _ _ _ _ _ _ _ _ _ _ _ _ _ _ _ _ _ _ _ _ _ _ _ _ _ _ _ _ _ _ _ _ _ _ _ _ _ _ _ _ _ _ _ _ _ _ _ _ _ _ _ _ _ _ _ _ _ _ _ _ _ _ _ _ _ _ _ _ _ _ _ _ _ _ _ _ _ _ _ _ _ _ _ _ _ _ _ _ _ _ _ _ _ _ _ _ _ _ _ _ _ _ _ _ _ _ _ _ _ _ _ _ _ _ _ _ _ _ _ _ _ _ _ _ _ _ _ _ _ _ _ _ _ _ _ _ _ _ _ _ _ _ _ _ _ _ _ _ _ _ _ _ _ _ _ _ _ _ _ _ _ _ _ _ _ _ _ _ _ _ _ _ _ _ _ _ _ _ _ _ _ _ _ _ _ _ _ _ _ _ _ _ _ _ _ _ _ _ _)
end Go.Proofs.YthdldmkeoglflaaDoor

/- ConfigNames, region 41: ten checks. -/
namespace Go.Proofs.YthdldmkeoglflaaDoor
set_option linter.unusedSimpArgs false
set_option linter.unusedVariables false
set_option linter.unnecessarySimpa false
open Go.RowKit
set_option linter.unusedVariables false


theorem cut41 : (cutAt ((Tryd.f4).body.getD .skip) 41).2 = .seq (cutAt ((Tryd.f4).body.getD .skip) 42).1 (cutAt ((Tryd.f4).body.getD .skip) 42).2 := by kernel_rfl
set_option maxRecDepth 100000 in
set_option maxHeartbeats 20000000 in
theorem part41 (w wz : World) (hb : Below w.heap.size w wz) (htab : ∀ W, Below w.heap.size w W → Lib.TabIs Tryd.prog W "internal/strconv.uint64pow10" .u64 Lib.pow10Tab) (her : ∀ W, Below w.heap.size w W → ErrIn W)
    (B7 B9 c7 c9 B12 B13 B14 c15 : Nat) (a7 a9 a15 : Option Addr) (g7 : GAt wz B7 [] a7 c7) (g9 : GAt wz B9 [(⟨#[98]⟩, 16)] a9 c9)
    (X12 : Blk wz B12 27 [.int .i64 2, .int .i64 2, .int .i64 2, .int .i64 2, .int .i64 2, .int .i64 2, .int .i64 2, .int .i64 2, .int .i64 2, .int .u32 500000002, .slice none 0 0]) (X13 : Blk wz B13 27 [.int .i64 2, .int .i64 2, .int .i64 2, .int .i64 2, .int .i64 2, .int .i64 2, .int .i64 2, .int .i64 2, .int .i64 2, .int .u32 500000003, .slice none 0 0]) (X14 : Blk wz B14 27 [.int .i64 2, .int .i64 2, .int .i64 2, .int .i64 2, .int .i64 2, .int .i64 2, .int .i64 2, .int .i64 2, .int .i64 2, .int .u32 0, .slice none 0 0]) (h15 : CellsAt wz a15 (cel (nameP 9))) (hc15 : 9 ≤ c15)
    (u0 u1 u2 u4 u5 u6 u16 u17 u18 u19 u20 u21 u22 u23 u24 u25 u26 u27 u28 u29 u30 u31 u32 u33 u34 u35 u36 u37 u38 u39 u40 u41 u42 u43 u44 u45 u46 u47 u48 u49 u50 u51 u52 u53 u54 u55 u56 u57 u58 u59 u60 u61 u62 u63 u64 u65 u66 u67 u68 u69 u70 u71 u72 u73 u74 u75 u76 u77 u78 u79 u80 u81 u82 u83 u84 u85 u86 u87 u88 u89 u90 u91 u92 u93 u94 u95 u96 u97 u98 u99 u100 u101 u102 u103 u104 u105 u106 u107 u108 u109 u110 u111 u112 u113 u114 u115 u116 u117 u118 u119 u120 u121 u122 u123 u124 u125 u126 u127 u128 u129 u130 u131 u132 u133 u134 u135 u136 u137 u138 u139 u140 u141 u142 u143 u144 u145 u146 u147 u148 u149 u150 u151 u152 u153 u154 u155 u156 u157 u158 u159 u160 u161 u162 u163 u164 u165 u166 u167 u168 u169 u170 u171 u172 u173 u174 u175 u176 u177 u178 u179 u180 u181 u182 u183 u184 u185 u186 u187 u188 u189 u190 u191 u192 u193 u194 u195 u196 u197 u198 u199 u200 u201 u202 u203 u204 u205 u206 u207 u208 u209 u210 u211 u212 u213 u214 u215 u216 u217 u218 u219 u220 u221 u222 u223 u224 u225 u226 u227 u228 u229 u230 u231 u232 u233 u234 u235 u236 u237 u238 u239 u240 u241 u242 u243 u244 u245 u246 u247 u248 u249 u250 u251 u252 u253 u254 u255 u256 u257 u258 u259 u260 u261 u262 u263 u264 u265 u266 u267 u268 u269 u270 u271 u272 u273 u274 u275 u276 u277 u278 u279 u280 u281 u282 u283 u284 u285 u286 u287 u288 u289 u290 u291 u292 u293 u294 u295 u296 u297 u298 u299 u300 u301 u302 u303 u304 u305 u306 u307 u308 u309 u310 u311 u312 u313 u314 u315 u316 u317 u318 u319 u320 u321 u322 u323 u324 u325 u326 u327 u328 u329 u330 u331 u332 u333 u334 u335 u336 u337 u338 u339 u340 u341 u342 u343 u344 u345 u346 u347 u348 u349 u350 u351 u352 u353 u354 u355 u356 u357 u358 u359 u360 u361 u362 u363 u364 u365 u366 u367 u368 u369 u370 u371 u372 u373 u374 u375 u376 u377 u378 u379 u380 u381 u382 u383 u384 u385 u386 u387 u388 u389 u390 u391 u392 u393 u394 u395 u396 u397 u398 u399 u400 u401 u402 u403 u404 u405 u406 u407 u408 u409 u410 u411 u412 u413 u414 u415 u416 u417 u418 u419 u420 u421 u422 u423 u424 u425 u426 u427 u428 u429 u430 u431 u432 u433 u434 u435 u436 u437 u438 u439 u440 u441 u442 u443 u444 u445 u446 u447 u448 u449 u450 u451 u452 u453 : Value) :
    Part w 41 { tmps := #[u0, u1, u2, .bool true, u4, u5, u6, .pointer (some ⟨B7, 0, none⟩), .int .i64 0, .pointer (some ⟨B9, 0, none⟩), .int .i64 0, .bool true, .pointer (some ⟨B12, 0, none⟩), .pointer (some ⟨B13, 0, none⟩), .pointer (some ⟨B14, 0, none⟩), .slice a15 9 c15, u16, u17, u18, u19, u20, u21, u22, u23, u24, u25, u26, u27, u28, u29, u30, u31, u32, u33, u34, u35, u36, u37, u38, u39, u40, u41, u42, u43, u44, u45, u46, u47, u48, u49, u50, u51, u52, u53, u54, u55, u56, u57, u58, u59, u60, u61, u62, u63, u64, u65, u66, u67, u68, u69, u70, u71, u72, u73, u74, u75, u76, u77, u78, u79, u80, u81, u82, u83, u84, u85, u86, u87, u88, u89, u90, u91, u92, u93, u94, u95, u96, u97, u98, u99, u100, u101, u102, u103, u104, u105, u106, u107, u108, u109, u110, u111, u112, u113, u114, u115, u116, u117, u118, u119, u120, u121, u122, u123, u124, u125, u126, u127, u128, u129, u130, u131, u132, u133, u134, u135, u136, u137, u138, u139, u140, u141, u142, u143, u144, u145, u146, u147, u148, u149, u150, u151, u152, u153, u154, u155, u156, u157, u158, u159, u160, u161, u162, u163, u164, u165, u166, u167, u168, u169, u170, u171, u172, u173, u174, u175, u176, u177, u178, u179, u180, u181, u182, u183, u184, u185, u186, u187, u188, u189, u190, u191, u192, u193, u194, u195, u196, u197, u198, u199, u200, u201, u202, u203, u204, u205, u206, u207, u208, u209, u210, u211, u212, u213, u214, u215, u216, u217, u218, u219, u220, u221, u222, u223, u224, u225, u226, u227, u228, u229, u230, u231, u232, u233, u234, u235, u236, u237, u238, u239, u240, u241, u242, u243, u244, u245, u246, u247, u248, u249, u250, u251, u252, u253, u254, u255, u256, u257, u258, u259, u260, u261, u262, u263, u264, u265, u266, u267, u268, u269, u270, u271, u272, u273, u274, u275, u276, u277, u278, u279, u280, u281, u282, u283, u284, u285, u286, u287, u288, u289, u290, u291, u292, u293, u294, u295, u296, u297, u298, u299, u300, u301, u302, u303, u304, u305, u306, u307, u308, u309, u310, u311, u312, u313, u314, u315, u316, u317, u318, u319, u320, u321, u322, u323, u324, u325, u326, u327, u328, u329, u330, u331, u332, u333, u334, u335, u336, u337, u338, u339, u340, u341, u342, u343, u344, u345, u346, u347, u348, u349, u350, u351, u352, u353, u354, u355, u356, u357, u358, u359, u360, u361, u362, u363, u364, u365, u366, u367, u368, u369, u370, u371, u372, u373, u374, u375, u376, u377, u378, u379, u380, u381, u382, u383, u384, u385, u386, u387, u388, u389, u390, u391, u392, u393, u394, u395, u396, u397, u398, u399, u400, u401, u402, u403, u404, u405, u406, u407, u408, u409, u410, u411, u412, u413, u414, u415, u416, u417, u418, u419, u420, u421, u422, u423, u424, u425, u426, u427, u428, u429, u430, u431, u432, u433, u434, u435, u436, u437, u438, u439, u440, u441, u442, u443, u444, u445, u446, u447, u448, u449, u450, u451, u452, u453], defers := [] } wz := by
  unfold Part
  conv => arg 2; whnf
  have H_htab := Box.mk htab
  have H_her := Box.mk her
  clear htab her
  go_wp2_with (refine wpList_load_blkG (by rfl) 27 _ rfl B12 (by rfl) 27 _ _ X12 Tryd.underlying27 rfl infoS ?_)
  go_wp2_with fail
  with_reducible refine (c_s2 _ _ _ (ca_nil _ _)).mono ?_
  rintro e w1 ⟨rfl, hc1⟩
  have hb1 : Below w.heap.size w w1 := bchain (by repeat' (first | with_reducible exact hb | with_reducible refine Below.drew ?_ | with_reducible refine below_drewN ?_ _ | with_reducible refine Below.alloc ?_ (by have := hb.size; first | (simp; done) | (simp; omega) | omega) _ | with_reducible refine Below.setCell ?_ (by first | (simp; done) | (simp; omega) | omega) _)) hc1
  have hst1 : Below wz.heap.size wz w1 := bchain (by repeat' (first | with_reducible exact Below.refl _ _ | with_reducible refine Below.drew ?_ | with_reducible refine below_drewN ?_ _ | with_reducible refine Below.alloc ?_ (by first | (simp; done) | (simp; omega) | omega) _ | with_reducible refine Below.setCell ?_ (by first | (simp; done) | (simp; omega) | omega) _)) hc1
  replace g7 := g7.later hst1
  replace g9 := g9.later hst1
  replace h15 := h15.later hst1
  replace X12 := X12.later hst1
  replace X13 := X13.later hst1
  replace X14 := X14.later hst1
  clear hst1
  clear hc1 hb
  go_wp2_with (refine wpList_load_blkG (by rfl) 27 _ rfl B13 (by rfl) 27 _ _ X13 Tryd.underlying27 rfl infoS ?_)
  go_wp2_with fail
  with_reducible refine (c_s3 _ _ _ (ca_nil _ _)).mono ?_
  rintro e w2 ⟨rfl, hc2⟩
  have hb2 : Below w.heap.size w w2 := bchain (by repeat' (first | with_reducible exact hb1 | with_reducible refine Below.drew ?_ | with_reducible refine below_drewN ?_ _ | with_reducible refine Below.alloc ?_ (by have := hb1.size; first | (simp; done) | (simp; omega) | omega) _ | with_reducible refine Below.setCell ?_ (by first | (simp; done) | (simp; omega) | omega) _)) hc2
  have hst2 : Below w1.heap.size w1 w2 := bchain (by repeat' (first | with_reducible exact Below.refl _ _ | with_reducible refine Below.drew ?_ | with_reducible refine below_drewN ?_ _ | with_reducible refine Below.alloc ?_ (by first | (simp; done) | (simp; omega) | omega) _ | with_reducible refine Below.setCell ?_ (by first | (simp; done) | (simp; omega) | omega) _)) hc2
  replace g7 := g7.later hst2
  replace g9 := g9.later hst2
  replace h15 := h15.later hst2
  replace X12 := X12.later hst2
  replace X13 := X13.later hst2
  replace X14 := X14.later hst2
  clear hst2
  clear hc2 hb1
  go_wp2_with (refine wpList_load_blkG (by rfl) 27 _ rfl B14 (by rfl) 27 _ _ X14 Tryd.underlying27 rfl infoS ?_)
  go_wp2_with fail
  with_reducible refine (c_s0 _ _ _ (ca_nil _ _)).mono ?_
  rintro e w3 ⟨rfl, hc3⟩
  have hb3 : Below w.heap.size w w3 := bchain (by repeat' (first | with_reducible exact hb2 | with_reducible refine Below.drew ?_ | with_reducible refine below_drewN ?_ _ | with_reducible refine Below.alloc ?_ (by have := hb2.size; first | (simp; done) | (simp; omega) | omega) _ | with_reducible refine Below.setCell ?_ (by first | (simp; done) | (simp; omega) | omega) _)) hc3
  have hst3 : Below w2.heap.size w2 w3 := bchain (by repeat' (first | with_reducible exact Below.refl _ _ | with_reducible refine Below.drew ?_ | with_reducible refine below_drewN ?_ _ | with_reducible refine Below.alloc ?_ (by first | (simp; done) | (simp; omega) | omega) _ | with_reducible refine Below.setCell ?_ (by first | (simp; done) | (simp; omega) | omega) _)) hc3
  replace g7 := g7.later hst3
  replace g9 := g9.later hst3
  replace h15 := h15.later hst3
  replace X12 := X12.later hst3
  replace X13 := X13.later hst3
  replace X14 := X14.later hst3
  clear hst3
  clear hc3 hb2
  go_wp2_with fail
  with_reducible refine (given_any _ 9 _ _).mono ?_
  rintro e w4 ⟨rfl, hc4⟩
  have hb4 : Below w.heap.size w w4 := bchain (by repeat' (first | with_reducible exact hb3 | with_reducible refine Below.drew ?_ | with_reducible refine below_drewN ?_ _ | with_reducible refine Below.alloc ?_ (by have := hb3.size; first | (simp; done) | (simp; omega) | omega) _ | with_reducible refine Below.setCell ?_ (by first | (simp; done) | (simp; omega) | omega) _)) hc4
  have hst4 : Below w3.heap.size w3 w4 := bchain (by repeat' (first | with_reducible exact Below.refl _ _ | with_reducible refine Below.drew ?_ | with_reducible refine below_drewN ?_ _ | with_reducible refine Below.alloc ?_ (by first | (simp; done) | (simp; omega) | omega) _ | with_reducible refine Below.setCell ?_ (by first | (simp; done) | (simp; omega) | omega) _)) hc4
  replace g7 := g7.later hst4
  replace g9 := g9.later hst4
  replace h15 := h15.later hst4
  replace X12 := X12.later hst4
  replace X13 := X13.later hst4
  replace X14 := X14.later hst4
  clear hst4
  clear hc4 hb3
  go_wp2_with fail
  with_reducible refine (c_n9 _ _ _ h15).mono ?_
  rintro e w5 ⟨rfl, hc5⟩
  have hb5 : Below w.heap.size w w5 := bchain (by repeat' (first | with_reducible exact hb4 | with_reducible refine Below.drew ?_ | with_reducible refine below_drewN ?_ _ | with_reducible refine Below.alloc ?_ (by have := hb4.size; first | (simp; done) | (simp; omega) | omega) _ | with_reducible refine Below.setCell ?_ (by first | (simp; done) | (simp; omega) | omega) _)) hc5
  have hst5 : Below w4.heap.size w4 w5 := bchain (by repeat' (first | with_reducible exact Below.refl _ _ | with_reducible refine Below.drew ?_ | with_reducible refine below_drewN ?_ _ | with_reducible refine Below.alloc ?_ (by first | (simp; done) | (simp; omega) | omega) _ | with_reducible refine Below.setCell ?_ (by first | (simp; done) | (simp; omega) | omega) _)) hc5
  replace g7 := g7.later hst5
  replace g9 := g9.later hst5
  replace h15 := h15.later hst5
  replace X12 := X12.later hst5
  replace X13 := X13.later hst5
  replace X14 := X14.later hst5
  clear hst5
  clear hc5 hb4
  have h8 : CellsAt w5 a15 (cel (nameP 8)) := h15.takeK 16
  go_wp2_with fail
  with_reducible refine (given_any _ 8 _ _).mono ?_
  rintro e w6 ⟨rfl, hc6⟩
  have hb6 : Below w.heap.size w w6 := bchain (by repeat' (first | with_reducible exact hb5 | with_reducible refine Below.drew ?_ | with_reducible refine below_drewN ?_ _ | with_reducible refine Below.alloc ?_ (by have := hb5.size; first | (simp; done) | (simp; omega) | omega) _ | with_reducible refine Below.setCell ?_ (by first | (simp; done) | (simp; omega) | omega) _)) hc6
  have hst6 : Below w5.heap.size w5 w6 := bchain (by repeat' (first | with_reducible exact Below.refl _ _ | with_reducible refine Below.drew ?_ | with_reducible refine below_drewN ?_ _ | with_reducible refine Below.alloc ?_ (by first | (simp; done) | (simp; omega) | omega) _ | with_reducible refine Below.setCell ?_ (by first | (simp; done) | (simp; omega) | omega) _)) hc6
  replace g7 := g7.later hst6
  replace g9 := g9.later hst6
  replace h15 := h15.later hst6
  replace X12 := X12.later hst6
  replace X13 := X13.later hst6
  replace X14 := X14.later hst6
  replace h8 := h8.later hst6
  clear hst6
  clear hc6 hb5
  go_wp2_with fail
  with_reducible refine (c_n8 _ _ _ h8).mono ?_
  rintro e w7 ⟨rfl, hc7⟩
  have hb7 : Below w.heap.size w w7 := bchain (by repeat' (first | with_reducible exact hb6 | with_reducible refine Below.drew ?_ | with_reducible refine below_drewN ?_ _ | with_reducible refine Below.alloc ?_ (by have := hb6.size; first | (simp; done) | (simp; omega) | omega) _ | with_reducible refine Below.setCell ?_ (by first | (simp; done) | (simp; omega) | omega) _)) hc7
  have hst7 : Below w6.heap.size w6 w7 := bchain (by repeat' (first | with_reducible exact Below.refl _ _ | with_reducible refine Below.drew ?_ | with_reducible refine below_drewN ?_ _ | with_reducible refine Below.alloc ?_ (by first | (simp; done) | (simp; omega) | omega) _ | with_reducible refine Below.setCell ?_ (by first | (simp; done) | (simp; omega) | omega) _)) hc7
  replace g7 := g7.later hst7
  replace g9 := g9.later hst7
  replace h15 := h15.later hst7
  replace X12 := X12.later hst7
  replace X13 := X13.later hst7
  replace X14 := X14.later hst7
  replace h8 := h8.later hst7
  clear hst7
  clear hc7 hb6
  go_wp2_with fail
  refine Calls_gen2 fun w8 hc8 => ?_
  have k8 : CellsAt w8 (some ⟨w7.heap.size, 0, none⟩) (cel [(⟨#[97]⟩, 0)]) := ((Blk.newA w7 _ _ 46 [.string ⟨#[97]⟩, .int .u32 0] rfl rfl).cellsAt2).later hc8
  have hb8 : Below w.heap.size w w8 := bchain (by repeat' (first | with_reducible exact hb7 | with_reducible refine Below.drew ?_ | with_reducible refine below_drewN ?_ _ | with_reducible refine Below.alloc ?_ (by have := hb7.size; first | (simp; done) | (simp; omega) | omega) _ | with_reducible refine Below.setCell ?_ (by first | (simp; done) | (simp; omega) | omega) _)) hc8
  have hst8 : Below w7.heap.size w7 w8 := bchain (by repeat' (first | with_reducible exact Below.refl _ _ | with_reducible refine Below.drew ?_ | with_reducible refine below_drewN ?_ _ | with_reducible refine Below.alloc ?_ (by first | (simp; done) | (simp; omega) | omega) _ | with_reducible refine Below.setCell ?_ (by first | (simp; done) | (simp; omega) | omega) _)) hc8
  replace g7 := g7.later hst8
  replace g9 := g9.later hst8
  replace h15 := h15.later hst8
  replace X12 := X12.later hst8
  replace X13 := X13.later hst8
  replace X14 := X14.later hst8
  replace h8 := h8.later hst8
  clear hst8
  clear hc8
  go_wp2_with fail
  with_reducible refine (given_any _ 1 1 _).mono ?_
  rintro e w9 ⟨rfl, hc9⟩
  have hb9 : Below w.heap.size w w9 := bchain (by repeat' (first | with_reducible exact hb8 | with_reducible refine Below.drew ?_ | with_reducible refine below_drewN ?_ _ | with_reducible refine Below.alloc ?_ (by have := hb8.size; first | (simp; done) | (simp; omega) | omega) _ | with_reducible refine Below.setCell ?_ (by first | (simp; done) | (simp; omega) | omega) _)) hc9
  have hst9 : Below w8.heap.size w8 w9 := bchain (by repeat' (first | with_reducible exact Below.refl _ _ | with_reducible refine Below.drew ?_ | with_reducible refine below_drewN ?_ _ | with_reducible refine Below.alloc ?_ (by first | (simp; done) | (simp; omega) | omega) _ | with_reducible refine Below.setCell ?_ (by first | (simp; done) | (simp; omega) | omega) _)) hc9
  replace g7 := g7.later hst9
  replace g9 := g9.later hst9
  replace h15 := h15.later hst9
  replace X12 := X12.later hst9
  replace X13 := X13.later hst9
  replace X14 := X14.later hst9
  replace h8 := h8.later hst9
  replace k8 := k8.later hst9
  clear hst9
  clear hc9 hb8
  go_wp2_with fail
  with_reducible refine (c_a0 _ _ _ k8).mono ?_
  rintro e w10 ⟨rfl, hc10⟩
  have hb10 : Below w.heap.size w w10 := bchain (by repeat' (first | with_reducible exact hb9 | with_reducible refine Below.drew ?_ | with_reducible refine below_drewN ?_ _ | with_reducible refine Below.alloc ?_ (by have := hb9.size; first | (simp; done) | (simp; omega) | omega) _ | with_reducible refine Below.setCell ?_ (by first | (simp; done) | (simp; omega) | omega) _)) hc10
  have hst10 : Below w9.heap.size w9 w10 := bchain (by repeat' (first | with_reducible exact Below.refl _ _ | with_reducible refine Below.drew ?_ | with_reducible refine below_drewN ?_ _ | with_reducible refine Below.alloc ?_ (by first | (simp; done) | (simp; omega) | omega) _ | with_reducible refine Below.setCell ?_ (by first | (simp; done) | (simp; omega) | omega) _)) hc10
  replace g7 := g7.later hst10
  replace g9 := g9.later hst10
  replace h15 := h15.later hst10
  replace X12 := X12.later hst10
  replace X13 := X13.later hst10
  replace X14 := X14.later hst10
  replace h8 := h8.later hst10
  replace k8 := k8.later hst10
  clear hst10
  clear hc10 hb9
  clear k8
  go_wp2_with fail
  refine Calls_gen2 fun w11 hc11 => ?_
  have k11 : CellsAt w11 (some ⟨w10.heap.size, 0, none⟩) (cel [(⟨#[]⟩, 16)]) := ((Blk.newA w10 _ _ 46 [.string ⟨#[]⟩, .int .u32 16] rfl rfl).cellsAt2).later hc11
  have hb11 : Below w.heap.size w w11 := bchain (by repeat' (first | with_reducible exact hb10 | with_reducible refine Below.drew ?_ | with_reducible refine below_drewN ?_ _ | with_reducible refine Below.alloc ?_ (by have := hb10.size; first | (simp; done) | (simp; omega) | omega) _ | with_reducible refine Below.setCell ?_ (by first | (simp; done) | (simp; omega) | omega) _)) hc11
  have hst11 : Below w10.heap.size w10 w11 := bchain (by repeat' (first | with_reducible exact Below.refl _ _ | with_reducible refine Below.drew ?_ | with_reducible refine below_drewN ?_ _ | with_reducible refine Below.alloc ?_ (by first | (simp; done) | (simp; omega) | omega) _ | with_reducible refine Below.setCell ?_ (by first | (simp; done) | (simp; omega) | omega) _)) hc11
  replace g7 := g7.later hst11
  replace g9 := g9.later hst11
  replace h15 := h15.later hst11
  replace X12 := X12.later hst11
  replace X13 := X13.later hst11
  replace X14 := X14.later hst11
  replace h8 := h8.later hst11
  clear hst11
  clear hc11
  go_wp2_with fail
  with_reducible refine (given_any _ 1 1 _).mono ?_
  rintro e w12 ⟨rfl, hc12⟩
  have hb12 : Below w.heap.size w w12 := bchain (by repeat' (first | with_reducible exact hb11 | with_reducible refine Below.drew ?_ | with_reducible refine below_drewN ?_ _ | with_reducible refine Below.alloc ?_ (by have := hb11.size; first | (simp; done) | (simp; omega) | omega) _ | with_reducible refine Below.setCell ?_ (by first | (simp; done) | (simp; omega) | omega) _)) hc12
  have hst12 : Below w11.heap.size w11 w12 := bchain (by repeat' (first | with_reducible exact Below.refl _ _ | with_reducible refine Below.drew ?_ | with_reducible refine below_drewN ?_ _ | with_reducible refine Below.alloc ?_ (by first | (simp; done) | (simp; omega) | omega) _ | with_reducible refine Below.setCell ?_ (by first | (simp; done) | (simp; omega) | omega) _)) hc12
  replace g7 := g7.later hst12
  replace g9 := g9.later hst12
  replace h15 := h15.later hst12
  replace X12 := X12.later hst12
  replace X13 := X13.later hst12
  replace X14 := X14.later hst12
  replace h8 := h8.later hst12
  replace k11 := k11.later hst12
  clear hst12
  clear hc12 hb11
  go_wp2_with fail
  with_reducible refine (c_e16 _ _ _ k11).mono ?_
  rintro e w13 ⟨rfl, hc13⟩
  have hb13 : Below w.heap.size w w13 := bchain (by repeat' (first | with_reducible exact hb12 | with_reducible refine Below.drew ?_ | with_reducible refine below_drewN ?_ _ | with_reducible refine Below.alloc ?_ (by have := hb12.size; first | (simp; done) | (simp; omega) | omega) _ | with_reducible refine Below.setCell ?_ (by first | (simp; done) | (simp; omega) | omega) _)) hc13
  have hst13 : Below w12.heap.size w12 w13 := bchain (by repeat' (first | with_reducible exact Below.refl _ _ | with_reducible refine Below.drew ?_ | with_reducible refine below_drewN ?_ _ | with_reducible refine Below.alloc ?_ (by first | (simp; done) | (simp; omega) | omega) _ | with_reducible refine Below.setCell ?_ (by first | (simp; done) | (simp; omega) | omega) _)) hc13
  replace g7 := g7.later hst13
  replace g9 := g9.later hst13
  replace h15 := h15.later hst13
  replace X12 := X12.later hst13
  replace X13 := X13.later hst13
  replace X14 := X14.later hst13
  replace h8 := h8.later hst13
  replace k11 := k11.later hst13
  clear hst13
  clear hc13 hb12
  clear k11
  go_wp2_with fail
  refine Calls_gen2 fun w14 hc14 => ?_
  have k14 : CellsAt w14 (some ⟨w13.heap.size, 0, none⟩) (cel [(⟨#[98]⟩, 16), (⟨#[97]⟩, 16)]) := ((Blk.newA w13 _ _ 46 [.string ⟨#[98]⟩, .int .u32 16, .string ⟨#[97]⟩, .int .u32 16] rfl rfl).cellsAt2).later hc14
  have hb14 : Below w.heap.size w w14 := bchain (by repeat' (first | with_reducible exact hb13 | with_reducible refine Below.drew ?_ | with_reducible refine below_drewN ?_ _ | with_reducible refine Below.alloc ?_ (by have := hb13.size; first | (simp; done) | (simp; omega) | omega) _ | with_reducible refine Below.setCell ?_ (by first | (simp; done) | (simp; omega) | omega) _)) hc14
  have hst14 : Below w13.heap.size w13 w14 := bchain (by repeat' (first | with_reducible exact Below.refl _ _ | with_reducible refine Below.drew ?_ | with_reducible refine below_drewN ?_ _ | with_reducible refine Below.alloc ?_ (by first | (simp; done) | (simp; omega) | omega) _ | with_reducible refine Below.setCell ?_ (by first | (simp; done) | (simp; omega) | omega) _)) hc14
  replace g7 := g7.later hst14
  replace g9 := g9.later hst14
  replace h15 := h15.later hst14
  replace X12 := X12.later hst14
  replace X13 := X13.later hst14
  replace X14 := X14.later hst14
  replace h8 := h8.later hst14
  clear hst14
  clear hc14
  go_wp2_with fail
  with_reducible refine (given_any _ 2 2 _).mono ?_
  rintro e w15 ⟨rfl, hc15⟩
  have hb15 : Below w.heap.size w w15 := bchain (by repeat' (first | with_reducible exact hb14 | with_reducible refine Below.drew ?_ | with_reducible refine below_drewN ?_ _ | with_reducible refine Below.alloc ?_ (by have := hb14.size; first | (simp; done) | (simp; omega) | omega) _ | with_reducible refine Below.setCell ?_ (by first | (simp; done) | (simp; omega) | omega) _)) hc15
  have hst15 : Below w14.heap.size w14 w15 := bchain (by repeat' (first | with_reducible exact Below.refl _ _ | with_reducible refine Below.drew ?_ | with_reducible refine below_drewN ?_ _ | with_reducible refine Below.alloc ?_ (by first | (simp; done) | (simp; omega) | omega) _ | with_reducible refine Below.setCell ?_ (by first | (simp; done) | (simp; omega) | omega) _)) hc15
  replace g7 := g7.later hst15
  replace g9 := g9.later hst15
  replace h15 := h15.later hst15
  replace X12 := X12.later hst15
  replace X13 := X13.later hst15
  replace X14 := X14.later hst15
  replace h8 := h8.later hst15
  replace k14 := k14.later hst15
  clear hst15
  clear hc15 hb14
  go_wp2_with fail
  with_reducible refine (c_ba _ _ _ k14).mono ?_
  rintro e w16 ⟨rfl, hc16⟩
  have hb16 : Below w.heap.size w w16 := bchain (by repeat' (first | with_reducible exact hb15 | with_reducible refine Below.drew ?_ | with_reducible refine below_drewN ?_ _ | with_reducible refine Below.alloc ?_ (by have := hb15.size; first | (simp; done) | (simp; omega) | omega) _ | with_reducible refine Below.setCell ?_ (by first | (simp; done) | (simp; omega) | omega) _)) hc16
  have hst16 : Below w15.heap.size w15 w16 := bchain (by repeat' (first | with_reducible exact Below.refl _ _ | with_reducible refine Below.drew ?_ | with_reducible refine below_drewN ?_ _ | with_reducible refine Below.alloc ?_ (by first | (simp; done) | (simp; omega) | omega) _ | with_reducible refine Below.setCell ?_ (by first | (simp; done) | (simp; omega) | omega) _)) hc16
  replace g7 := g7.later hst16
  replace g9 := g9.later hst16
  replace h15 := h15.later hst16
  replace X12 := X12.later hst16
  replace X13 := X13.later hst16
  replace X14 := X14.later hst16
  replace h8 := h8.later hst16
  replace k14 := k14.later hst16
  clear hst16
  clear hc16 hb15
  clear k14
  go_wp2_with fail
  refine Calls_gen2 fun w17 hc17 => ?_
  have k17 : CellsAt w17 (some ⟨w16.heap.size, 0, none⟩) (cel [(⟨#[97]⟩, 16), (⟨#[97]⟩, 4)]) := ((Blk.newA w16 _ _ 46 [.string ⟨#[97]⟩, .int .u32 16, .string ⟨#[97]⟩, .int .u32 4] rfl rfl).cellsAt2).later hc17
  have hb17 : Below w.heap.size w w17 := bchain (by repeat' (first | with_reducible exact hb16 | with_reducible refine Below.drew ?_ | with_reducible refine below_drewN ?_ _ | with_reducible refine Below.alloc ?_ (by have := hb16.size; first | (simp; done) | (simp; omega) | omega) _ | with_reducible refine Below.setCell ?_ (by first | (simp; done) | (simp; omega) | omega) _)) hc17
  have hst17 : Below w16.heap.size w16 w17 := bchain (by repeat' (first | with_reducible exact Below.refl _ _ | with_reducible refine Below.drew ?_ | with_reducible refine below_drewN ?_ _ | with_reducible refine Below.alloc ?_ (by first | (simp; done) | (simp; omega) | omega) _ | with_reducible refine Below.setCell ?_ (by first | (simp; done) | (simp; omega) | omega) _)) hc17
  replace g7 := g7.later hst17
  replace g9 := g9.later hst17
  replace h15 := h15.later hst17
  replace X12 := X12.later hst17
  replace X13 := X13.later hst17
  replace X14 := X14.later hst17
  replace h8 := h8.later hst17
  clear hst17
  clear hc17
  go_wp2_with fail
  with_reducible refine (given_any _ 2 2 _).mono ?_
  rintro e w18 ⟨rfl, hc18⟩
  have hb18 : Below w.heap.size w w18 := bchain (by repeat' (first | with_reducible exact hb17 | with_reducible refine Below.drew ?_ | with_reducible refine below_drewN ?_ _ | with_reducible refine Below.alloc ?_ (by have := hb17.size; first | (simp; done) | (simp; omega) | omega) _ | with_reducible refine Below.setCell ?_ (by first | (simp; done) | (simp; omega) | omega) _)) hc18
  have hst18 : Below w17.heap.size w17 w18 := bchain (by repeat' (first | with_reducible exact Below.refl _ _ | with_reducible refine Below.drew ?_ | with_reducible refine below_drewN ?_ _ | with_reducible refine Below.alloc ?_ (by first | (simp; done) | (simp; omega) | omega) _ | with_reducible refine Below.setCell ?_ (by first | (simp; done) | (simp; omega) | omega) _)) hc18
  replace g7 := g7.later hst18
  replace g9 := g9.later hst18
  replace h15 := h15.later hst18
  replace X12 := X12.later hst18
  replace X13 := X13.later hst18
  replace X14 := X14.later hst18
  replace h8 := h8.later hst18
  replace k17 := k17.later hst18
  clear hst18
  clear hc18 hb17
  go_wp2_with fail
  with_reducible refine (c_aa _ _ _ k17).mono ?_
  rintro e w19 ⟨rfl, hc19⟩
  have hb19 : Below w.heap.size w w19 := bchain (by repeat' (first | with_reducible exact hb18 | with_reducible refine Below.drew ?_ | with_reducible refine below_drewN ?_ _ | with_reducible refine Below.alloc ?_ (by have := hb18.size; first | (simp; done) | (simp; omega) | omega) _ | with_reducible refine Below.setCell ?_ (by first | (simp; done) | (simp; omega) | omega) _)) hc19
  have hst19 : Below w18.heap.size w18 w19 := bchain (by repeat' (first | with_reducible exact Below.refl _ _ | with_reducible refine Below.drew ?_ | with_reducible refine below_drewN ?_ _ | with_reducible refine Below.alloc ?_ (by first | (simp; done) | (simp; omega) | omega) _ | with_reducible refine Below.setCell ?_ (by first | (simp; done) | (simp; omega) | omega) _)) hc19
  replace g7 := g7.later hst19
  replace g9 := g9.later hst19
  replace h15 := h15.later hst19
  replace X12 := X12.later hst19
  replace X13 := X13.later hst19
  replace X14 := X14.later hst19
  replace h8 := h8.later hst19
  replace k17 := k17.later hst19
  clear hst19
  clear hc19 hb18
  clear k17
  go_wp2_with fail
  refine Calls_gen2 fun w20 hc20 => ?_
  have k20 : CellsAt w20 (some ⟨w19.heap.size, 0, none⟩) (cel [(⟨#[48, 49, 50, 51, 52, 53, 54, 55, 56, 57, 97, 122]⟩, 1)]) := ((Blk.newA w19 _ _ 46 [.string ⟨#[48, 49, 50, 51, 52, 53, 54, 55, 56, 57, 97, 122]⟩, .int .u32 1] rfl rfl).cellsAt2).later hc20
  have hb20 : Below w.heap.size w w20 := bchain (by repeat' (first | with_reducible exact hb19 | with_reducible refine Below.drew ?_ | with_reducible refine below_drewN ?_ _ | with_reducible refine Below.alloc ?_ (by have := hb19.size; first | (simp; done) | (simp; omega) | omega) _ | with_reducible refine Below.setCell ?_ (by first | (simp; done) | (simp; omega) | omega) _)) hc20
  have hst20 : Below w19.heap.size w19 w20 := bchain (by repeat' (first | with_reducible exact Below.refl _ _ | with_reducible refine Below.drew ?_ | with_reducible refine below_drewN ?_ _ | with_reducible refine Below.alloc ?_ (by first | (simp; done) | (simp; omega) | omega) _ | with_reducible refine Below.setCell ?_ (by first | (simp; done) | (simp; omega) | omega) _)) hc20
  replace g7 := g7.later hst20
  replace g9 := g9.later hst20
  replace h15 := h15.later hst20
  replace X12 := X12.later hst20
  replace X13 := X13.later hst20
  replace X14 := X14.later hst20
  replace h8 := h8.later hst20
  clear hst20
  clear hc20
  go_wp2_with fail
  with_reducible refine (given_any _ 1 1 _).mono ?_
  rintro e w21 ⟨rfl, hc21⟩
  have hb21 : Below w.heap.size w w21 := bchain (by repeat' (first | with_reducible exact hb20 | with_reducible refine Below.drew ?_ | with_reducible refine below_drewN ?_ _ | with_reducible refine Below.alloc ?_ (by have := hb20.size; first | (simp; done) | (simp; omega) | omega) _ | with_reducible refine Below.setCell ?_ (by first | (simp; done) | (simp; omega) | omega) _)) hc21
  have hst21 : Below w20.heap.size w20 w21 := bchain (by repeat' (first | with_reducible exact Below.refl _ _ | with_reducible refine Below.drew ?_ | with_reducible refine below_drewN ?_ _ | with_reducible refine Below.alloc ?_ (by first | (simp; done) | (simp; omega) | omega) _ | with_reducible refine Below.setCell ?_ (by first | (simp; done) | (simp; omega) | omega) _)) hc21
  replace g7 := g7.later hst21
  replace g9 := g9.later hst21
  replace h15 := h15.later hst21
  replace X12 := X12.later hst21
  replace X13 := X13.later hst21
  replace X14 := X14.later hst21
  replace h8 := h8.later hst21
  replace k20 := k20.later hst21
  clear hst21
  clear hc21 hb20
  go_wp2_with fail
  with_reducible refine (c_lo _ _ _ k20).mono ?_
  rintro e w22 ⟨rfl, hc22⟩
  have hb22 : Below w.heap.size w w22 := bchain (by repeat' (first | with_reducible exact hb21 | with_reducible refine Below.drew ?_ | with_reducible refine below_drewN ?_ _ | with_reducible refine Below.alloc ?_ (by have := hb21.size; first | (simp; done) | (simp; omega) | omega) _ | with_reducible refine Below.setCell ?_ (by first | (simp; done) | (simp; omega) | omega) _)) hc22
  have hst22 : Below w21.heap.size w21 w22 := bchain (by repeat' (first | with_reducible exact Below.refl _ _ | with_reducible refine Below.drew ?_ | with_reducible refine below_drewN ?_ _ | with_reducible refine Below.alloc ?_ (by first | (simp; done) | (simp; omega) | omega) _ | with_reducible refine Below.setCell ?_ (by first | (simp; done) | (simp; omega) | omega) _)) hc22
  replace g7 := g7.later hst22
  replace g9 := g9.later hst22
  replace h15 := h15.later hst22
  replace X12 := X12.later hst22
  replace X13 := X13.later hst22
  replace X14 := X14.later hst22
  replace h8 := h8.later hst22
  replace k20 := k20.later hst22
  clear hst22
  clear hc22 hb21
  clear k20
  go_upto_region 42 with (fail)
  refine wp_gen fun w23 hc23 => ?_
  have hb23 : Below w.heap.size w w23 := bchain (by repeat' (first | with_reducible exact hb22 | with_reducible refine Below.drew ?_ | with_reducible refine below_drewN ?_ _ | with_reducible refine Below.alloc ?_ (by have := hb22.size; first | (simp; done) | (simp; omega) | omega) _ | with_reducible refine Below.setCell ?_ (by first | (simp; done) | (simp; omega) | omega) _)) hc23
  have hst23 : Below w22.heap.size w22 w23 := bchain (by repeat' (first | with_reducible exact Below.refl _ _ | with_reducible refine Below.drew ?_ | with_reducible refine below_drewN ?_ _ | with_reducible refine Below.alloc ?_ (by first | (simp; done) | (simp; omega) | omega) _ | with_reducible refine Below.setCell ?_ (by first | (simp; done) | (simp; omega) | omega) _)) hc23
  replace g7 := g7.later hst23
  replace g9 := g9.later hst23
  replace h15 := h15.later hst23
  replace X12 := X12.later hst23
  replace X13 := X13.later hst23
  replace X14 := X14.later hst23
  replace h8 := h8.later hst23
  clear hst23
  clear hc23 hb22
  rw [cut41]
  exact wp_seq (part42 w _ hb23 H_htab.out H_her.out B7 B9 c7 c9 a7 a9 g7 g9 _ _ _ _ _ _ _ _ _ _ _ _ _ _ _ _ _ _ _ _ _ _ _ _ _ _ _ _ _ _ _ _ _ _ _ _ _ _ _ _ _ _ _ _ _ _ _ _ _ _ _ _ _ _ _ _ _ _ _ _ _ _ _ _ _ _ _ _ _ _ _ _ _ _ _ _ _ _ _ _ _ _ _ _ _ _ _ _ _ _ _ _ _ _ _ _ _ _ _ _ _ _ _ _ _ _ _ _ _ _ _ _ _ _ _ _ _ _ _ _ _ _ _ _ _ _ _ _ _ _ _ _ _ _ _ _ _ _ _ _ _ _ _ _ _ _ _ _ _ _ _ _ _ _ _ _ _ _ _ _ _ _ _ _ _ _ _ _ _ _ _ _ _ _ _ _ _ _ _ _ _ _ _ _ _ _ _ _ _ _ _ _ _ _ _ _ _ _ _ _ _ _ _ _ _ _ _ _ _ _ _ _ _ _ _ _ _ _ _ _ _ _ _ _ _ _ _ _ _ _ _ _ _ _ _ _ _ _ _ _ _ _ _ _ _ _ _ _ _ _ _ _ _ _ _ _ _ _ _ _ _ _ _ _ _ _ _ _ _ _ _ _ _ _ _ _ _ _ _ _ _ _ _ _ _ _ _ _ _ _ _ _ _ _ _ _ _ _ _ _ _ _ _ _ _ _ _ _ _ _ _ _ _ _ _ _ _ _ _ _ _ _ _ _ _ _ _ _ _ _ _ _ _ _ _ _ _ _ _ _ _ _ _ _ _ _ _ _ _ _ _ _ _ _ _ _ _ _ _ _ _ _ _ _ _ _ _ _ _ _ _ _ _ _ _ _ _ _ _ _ _ _ _ _ _ _ _ _ _ _ _ _ _ _ _ _ _ _ _ _ _ _ _ _ _ _ _ _ _ _ _ _ _ _ _ _ _ _ _ _ _ _ _ _ _ _ _ _ _ _ _ _ _ _ _ _ _ _ _ _ _ _ _ _ _ _ _)
end Go.Proofs.YthdldmkeoglflaaDoor

/- ConfigNames, regions 31 to 40. -/
namespace Go.Proofs.YthdldmkeoglflaaDoor
set_option linter.unusedSimpArgs false
set_option linter.unusedVariables false
set_option linter.unnecessarySimpa false
open Go.RowKit
set_option linter.unusedVariables false


theorem conv_new (W : World) (k : Nat) (hk : k < 9) : (convert 43 9 (.slice (some ⟨W.heap.size, 0, none⟩) 1 1)).run Tryd.prog (W.alloc (.cells #[.int .u8 (97 + (k : Int))] 5)) = .ok (.string ⟨#[UInt8.ofNat (97 + k)]⟩) (W.alloc (.cells #[.int .u8 (97 + (k : Int))] 5)) := by
  refine run_convert_bytes_back (P := Tryd.prog) _ _ _ 5 ⟨W.heap.size, 0, none⟩ 1 [UInt8.ofNat (97 + k)] Tryd.underlying43 Tryd.underlying5 Tryd.underlying9 fun j hj => ?_
  obtain rfl : j = 0 := by simp at hj; omega
  have e : (([UInt8.ofNat (97 + k)][0]'hj).toNat : Int) = 97 + (k : Int) := by
    show ((UInt8.ofNat (97 + k)).toNat : Int) = _
    rw [UInt8.toNat_ofNat_of_lt' (by show 97 + k < 256; omega)]; omega
  rw [e]
  go_simp
set_option maxRecDepth 100000 in
set_option maxHeartbeats 20000000 in
theorem part31 (w wz : World) (hb : Below w.heap.size w wz) (htab : ∀ W, Below w.heap.size w W → Lib.TabIs Tryd.prog W "internal/strconv.uint64pow10" .u64 Lib.pow10Tab) (her : ∀ W, Below w.heap.size w W → ErrIn W)
    (B7 B9 c7 c9 : Nat) (a7 a9 : Option Addr) (g7 : GAt wz B7 [] a7 c7) (g9 : GAt wz B9 [(⟨#[98]⟩, 16)] a9 c9)
    (u0 u1 u2 u4 u5 u6 u12 u13 u14 u15 u16 u17 u18 u19 u20 u21 u22 u23 u24 u25 u26 u27 u28 u29 u30 u31 u32 u33 u34 u35 u36 u37 u38 u39 u40 u41 u42 u43 u44 u45 u46 u47 u48 u49 u50 u51 u52 u53 u54 u55 u56 u57 u58 u59 u60 u61 u62 u63 u64 u65 u66 u67 u68 u69 u70 u71 u72 u73 u74 u75 u76 u77 u78 u79 u80 u81 u82 u83 u84 u85 u86 u87 u88 u89 u90 u91 u92 u93 u94 u95 u96 u97 u98 u99 u100 u101 u102 u103 u104 u105 u106 u107 u108 u109 u110 u111 u112 u113 u114 u115 u116 u117 u118 u119 u120 u121 u122 u123 u124 u125 u126 u127 u128 u129 u130 u131 u132 u133 u134 u135 u136 u137 u138 u139 u140 u141 u142 u143 u144 u145 u146 u147 u148 u149 u150 u151 u152 u153 u154 u155 u156 u157 u158 u159 u160 u161 u162 u163 u164 u165 u166 u167 u168 u169 u170 u171 u172 u173 u174 u175 u176 u177 u178 u179 u180 u181 u182 u183 u184 u185 u186 u187 u188 u189 u190 u191 u192 u193 u194 u195 u196 u197 u198 u199 u200 u201 u202 u203 u204 u205 u206 u207 u208 u209 u210 u211 u212 u213 u214 u215 u216 u217 u218 u219 u220 u221 u222 u223 u224 u225 u226 u227 u228 u229 u230 u231 u232 u233 u234 u235 u236 u237 u238 u239 u240 u241 u242 u243 u244 u245 u246 u247 u248 u249 u250 u251 u252 u253 u254 u255 u256 u257 u258 u259 u260 u261 u262 u263 u264 u265 u266 u267 u268 u269 u270 u271 u272 u273 u274 u275 u276 u277 u278 u279 u280 u281 u282 u283 u284 u285 u286 u287 u288 u289 u290 u291 u292 u293 u294 u295 u296 u297 u298 u299 u300 u301 u302 u303 u304 u305 u306 u307 u308 u309 u310 u311 u312 u313 u314 u315 u316 u317 u318 u319 u320 u321 u322 u323 u324 u325 u326 u327 u328 u329 u330 u331 u332 u333 u334 u335 u336 u337 u338 u339 u340 u341 u342 u343 u344 u345 u346 u347 u348 u349 u350 u351 u352 u353 u354 u355 u356 u357 u358 u359 u360 u361 u362 u363 u364 u365 u366 u367 u368 u369 u370 u371 u372 u373 u374 u375 u376 u377 u378 u379 u380 u381 u382 u383 u384 u385 u386 u387 u388 u389 u390 u391 u392 u393 u394 u395 u396 u397 u398 u399 u400 u401 u402 u403 u404 u405 u406 u407 u408 u409 u410 u411 u412 u413 u414 u415 u416 u417 u418 u419 u420 u421 u422 u423 u424 u425 u426 u427 u428 u429 u430 u431 u432 u433 u434 u435 u436 u437 u438 u439 u440 u441 u442 u443 u444 u445 u446 u447 u448 u449 u450 u451 u452 u453 : Value) :
    Part w 31 { tmps := #[u0, u1, u2, .bool true, u4, u5, u6, .pointer (some ⟨B7, 0, none⟩), .int .i64 0, .pointer (some ⟨B9, 0, none⟩), .int .i64 0, .bool true, u12, u13, u14, u15, u16, u17, u18, u19, u20, u21, u22, u23, u24, u25, u26, u27, u28, u29, u30, u31, u32, u33, u34, u35, u36, u37, u38, u39, u40, u41, u42, u43, u44, u45, u46, u47, u48, u49, u50, u51, u52, u53, u54, u55, u56, u57, u58, u59, u60, u61, u62, u63, u64, u65, u66, u67, u68, u69, u70, u71, u72, u73, u74, u75, u76, u77, u78, u79, u80, u81, u82, u83, u84, u85, u86, u87, u88, u89, u90, u91, u92, u93, u94, u95, u96, u97, u98, u99, u100, u101, u102, u103, u104, u105, u106, u107, u108, u109, u110, u111, u112, u113, u114, u115, u116, u117, u118, u119, u120, u121, u122, u123, u124, u125, u126, u127, u128, u129, u130, u131, u132, u133, u134, u135, u136, u137, u138, u139, u140, u141, u142, u143, u144, u145, u146, u147, u148, u149, u150, u151, u152, u153, u154, u155, u156, u157, u158, u159, u160, u161, u162, u163, u164, u165, u166, u167, u168, u169, u170, u171, u172, u173, u174, u175, u176, u177, u178, u179, u180, u181, u182, u183, u184, u185, u186, u187, u188, u189, u190, u191, u192, u193, u194, u195, u196, u197, u198, u199, u200, u201, u202, u203, u204, u205, u206, u207, u208, u209, u210, u211, u212, u213, u214, u215, u216, u217, u218, u219, u220, u221, u222, u223, u224, u225, u226, u227, u228, u229, u230, u231, u232, u233, u234, u235, u236, u237, u238, u239, u240, u241, u242, u243, u244, u245, u246, u247, u248, u249, u250, u251, u252, u253, u254, u255, u256, u257, u258, u259, u260, u261, u262, u263, u264, u265, u266, u267, u268, u269, u270, u271, u272, u273, u274, u275, u276, u277, u278, u279, u280, u281, u282, u283, u284, u285, u286, u287, u288, u289, u290, u291, u292, u293, u294, u295, u296, u297, u298, u299, u300, u301, u302, u303, u304, u305, u306, u307, u308, u309, u310, u311, u312, u313, u314, u315, u316, u317, u318, u319, u320, u321, u322, u323, u324, u325, u326, u327, u328, u329, u330, u331, u332, u333, u334, u335, u336, u337, u338, u339, u340, u341, u342, u343, u344, u345, u346, u347, u348, u349, u350, u351, u352, u353, u354, u355, u356, u357, u358, u359, u360, u361, u362, u363, u364, u365, u366, u367, u368, u369, u370, u371, u372, u373, u374, u375, u376, u377, u378, u379, u380, u381, u382, u383, u384, u385, u386, u387, u388, u389, u390, u391, u392, u393, u394, u395, u396, u397, u398, u399, u400, u401, u402, u403, u404, u405, u406, u407, u408, u409, u410, u411, u412, u413, u414, u415, u416, u417, u418, u419, u420, u421, u422, u423, u424, u425, u426, u427, u428, u429, u430, u431, u432, u433, u434, u435, u436, u437, u438, u439, u440, u441, u442, u443, u444, u445, u446, u447, u448, u449, u450, u451, u452, u453], defers := [] } wz := by
  unfold Part
  conv => arg 2; whnf
  have H_htab := Box.mk htab
  have H_her := Box.mk her
  clear htab her
  go_wp2_with fail
  with_reducible refine (given_any none 0 0 _).mono ?_
  rintro e w1 ⟨rfl, hc1⟩
  have hb1 : Below w.heap.size w w1 := bchain (by repeat' (first | with_reducible exact hb | with_reducible refine Below.drew ?_ | with_reducible refine below_drewN ?_ _ | with_reducible refine Below.alloc ?_ (by have := hb.size; first | (simp; done) | (simp; omega) | omega) _ | with_reducible refine Below.setCell ?_ (by first | (simp; done) | (simp; omega) | omega) _)) hc1
  have hst1 : Below wz.heap.size wz w1 := bchain (by repeat' (first | with_reducible exact Below.refl _ _ | with_reducible refine Below.drew ?_ | with_reducible refine below_drewN ?_ _ | with_reducible refine Below.alloc ?_ (by first | (simp; done) | (simp; omega) | omega) _ | with_reducible refine Below.setCell ?_ (by first | (simp; done) | (simp; omega) | omega) _)) hc1
  replace g7 := g7.later hst1
  replace g9 := g9.later hst1
  clear hst1
  clear hc1 hb
  obtain ⟨B12, hB12⟩ : ∃ B, w1.heap.size = B := ⟨_, rfl⟩
  go_wp2_with fail
  try simp only [hB12]
  conv => arg 2; whnf
  go_upto_region 33 with fail
  refine wp_facts' (fun Wx => Below w.heap.size w Wx ∧ Below w1.heap.size w1 Wx ∧ Blk Wx B12 27 [.int .i64 2, .int .i64 2, .int .i64 2, .int .i64 2, .int .i64 2, .int .i64 2, .int .i64 2, .int .i64 2, .int .i64 2, .int .u32 500000002, .slice none 0 0]) ⟨(by repeat' (first | with_reducible exact hb1 | with_reducible refine Below.drew ?_ | with_reducible refine below_drewN ?_ _ | with_reducible refine Below.alloc ?_ (by have := hb1.size; first | (simp; done) | (simp; omega) | omega) _ | with_reducible refine Below.setCell ?_ (by first | (simp; done) | (simp; omega) | omega) _)), (Below.refl _ _).alloc (Nat.le_refl _) _, Blk.newA w1 _ _ 27 [.int .i64 2, .int .i64 2, .int .i64 2, .int .i64 2, .int .i64 2, .int .i64 2, .int .i64 2, .int .i64 2, .int .i64 2, .int .u32 500000002, .slice none 0 0] hB12 rfl⟩ ?_
  rintro w2 ⟨hb2, hc2, X12⟩
  replace g7 := g7.later hc2
  replace g9 := g9.later hc2
  clear hc2
  go_wp2_with fail
  with_reducible refine (given_any none 0 0 _).mono ?_
  rintro e w3 ⟨rfl, hc3⟩
  have hb3 : Below w.heap.size w w3 := bchain (by repeat' (first | with_reducible exact hb2 | with_reducible refine Below.drew ?_ | with_reducible refine below_drewN ?_ _ | with_reducible refine Below.alloc ?_ (by have := hb2.size; first | (simp; done) | (simp; omega) | omega) _ | with_reducible refine Below.setCell ?_ (by first | (simp; done) | (simp; omega) | omega) _)) hc3
  have hst3 : Below w2.heap.size w2 w3 := bchain (by repeat' (first | with_reducible exact Below.refl _ _ | with_reducible refine Below.drew ?_ | with_reducible refine below_drewN ?_ _ | with_reducible refine Below.alloc ?_ (by first | (simp; done) | (simp; omega) | omega) _ | with_reducible refine Below.setCell ?_ (by first | (simp; done) | (simp; omega) | omega) _)) hc3
  replace g7 := g7.later hst3
  replace g9 := g9.later hst3
  replace X12 := X12.later hst3
  clear hst3
  clear hc3 hb2
  go_wp2_with fail
  with_reducible refine (given_any none 0 0 _).mono ?_
  rintro e w4 ⟨rfl, hc4⟩
  have hb4 : Below w.heap.size w w4 := bchain (by repeat' (first | with_reducible exact hb3 | with_reducible refine Below.drew ?_ | with_reducible refine below_drewN ?_ _ | with_reducible refine Below.alloc ?_ (by have := hb3.size; first | (simp; done) | (simp; omega) | omega) _ | with_reducible refine Below.setCell ?_ (by first | (simp; done) | (simp; omega) | omega) _)) hc4
  have hst4 : Below w3.heap.size w3 w4 := bchain (by repeat' (first | with_reducible exact Below.refl _ _ | with_reducible refine Below.drew ?_ | with_reducible refine below_drewN ?_ _ | with_reducible refine Below.alloc ?_ (by first | (simp; done) | (simp; omega) | omega) _ | with_reducible refine Below.setCell ?_ (by first | (simp; done) | (simp; omega) | omega) _)) hc4
  replace g7 := g7.later hst4
  replace g9 := g9.later hst4
  replace X12 := X12.later hst4
  clear hst4
  clear hc4 hb3
  obtain ⟨B13, hB13⟩ : ∃ B, w4.heap.size = B := ⟨_, rfl⟩
  go_upto_region 36 with fail
  try simp only [hB13]
  refine wp_facts' (fun Wx => Below w.heap.size w Wx ∧ Below w4.heap.size w4 Wx ∧ Blk Wx B13 27 [.int .i64 2, .int .i64 2, .int .i64 2, .int .i64 2, .int .i64 2, .int .i64 2, .int .i64 2, .int .i64 2, .int .i64 2, .int .u32 500000003, .slice none 0 0] ∧ Blk Wx (B13 + 1) 27 [.int .i64 2, .int .i64 2, .int .i64 2, .int .i64 2, .int .i64 2, .int .i64 2, .int .i64 2, .int .i64 2, .int .i64 2, .int .u32 0, .slice none 0 0]) ⟨(by repeat' (first | with_reducible exact hb4 | with_reducible refine Below.drew ?_ | with_reducible refine below_drewN ?_ _ | with_reducible refine Below.alloc ?_ (by have := hb4.size; first | (simp; done) | (simp; omega) | omega) _ | with_reducible refine Below.setCell ?_ (by first | (simp; done) | (simp; omega) | omega) _)), ((Below.refl _ _).alloc (Nat.le_refl _) _).alloc (by simp) _, (Blk.newA w4 _ _ 27 [.int .i64 2, .int .i64 2, .int .i64 2, .int .i64 2, .int .i64 2, .int .i64 2, .int .i64 2, .int .i64 2, .int .i64 2, .int .u32 500000003, .slice none 0 0] hB13 rfl).alloc _, Blk.newA (w4.alloc _) _ _ 27 [.int .i64 2, .int .i64 2, .int .i64 2, .int .i64 2, .int .i64 2, .int .i64 2, .int .i64 2, .int .i64 2, .int .i64 2, .int .u32 0, .slice none 0 0] (by simp [hB13]) rfl⟩ ?_
  rintro w5 ⟨hb5, hc5, X13, X14⟩
  replace g7 := g7.later hc5
  replace g9 := g9.later hc5
  replace X12 := X12.later hc5
  clear hc5
  obtain ⟨i0, hi, hz0, hz1, hz2⟩ := info_parts info_peer
  have X13' := X13
  go_wp2_with fail
  go_loopw [15, 16] (fun s q wr => ∃ (k : Nat) (av : Option Addr) (cv : Nat), k ≤ 9 ∧ q = .int .i64 k ∧ s = .slice av k cv ∧ Below w.heap.size w wr ∧ Below w5.heap.size w5 wr ∧ OwnX wr w5.heap.size 46 2 (.slice av k cv) k (cel (nameP k))) (fun _ q _ => 9 - (intOf q).toNat)
  case atStart => exact ⟨0, none, 0, by omega, rfl, rfl, hb5, Below.refl _ _, OwnX.nil _ _ _ _⟩
  case round =>
    obtain ⟨k, av, cv, hk, rfl, rfl, hbr, hb5r, ow⟩ := hrel
    by_cases hlt : k < 9
    · have hkI : (k : Int) < 9 := by omega
      have hkz : (0 : Int) ≤ (k : Int) := by omega
      obtain ⟨y, hy⟩ : ∃ y, (⟨#[UInt8.ofNat (97 + k)]⟩ : ByteArray) = y := ⟨_, rfl⟩
      have hcv := fun W => conv_new W k hlt
      rw [hy] at hcv
      have H_hy := Box.mk hy
      clear hy
      go_wp2_with (at_builtin; refine stop ?_)
      refine Stop.go ?_
      have hnw : CellsAt ((wr.alloc (.cells #[.int .u8 (97 + (k : Int))] 5)).alloc (.cells #[.string y, .int .u32 4] 46)) (some ⟨wr.heap.size + 1, 0, none⟩) [.string y, .int .u32 4] := (Blk.newA (wr.alloc (.cells #[.int .u8 (97 + (k : Int))] 5)) (wr.heap.size + 1) _ 46 [.string y, .int .u32 4] (by simp) rfl).cellsAt2
      have hz5 := hb5r.size
      have hz0' := hbr.size
      have hz05 := hb5.size
      refine wpList_append_x _ rfl _ _ 25 rfl w5.heap.size 46 i0 (.agg #[.string ⟨#[]⟩, .int .u32 0]) 2 24 Tryd.underlying25 hi hz0 hz1 hz2 rfl (by decide) (.slice av k cv) k (cel (nameP k)) rfl ((ow.alloc _).alloc _) (some ⟨wr.heap.size + 1, 0, none⟩) 1 1 [.string y, .int .u32 4] rfl rfl hnw (by intro u hu; simp at hu; rcases hu with rfl | rfl <;> rfl) (by unfold maxLen; omega) (by omega) (by simp; omega) ?_
      intro a' c' W1 hown2 hg hown3
      have hbW : Below w.heap.size w W1 := below_grownX ((by repeat' (first | with_reducible exact hbr | with_reducible refine Below.drew ?_ | with_reducible refine below_drewN ?_ _ | with_reducible refine Below.alloc ?_ (by have := hbr.size; first | (simp; done) | (simp; omega) | omega) _ | with_reducible refine Below.setCell ?_ (by first | (simp; done) | (simp; omega) | omega) _))) hg (by simp; omega) (fun k hk => by have := (ow.lt k hk).1; omega)
      have hb5W : Below w5.heap.size w5 W1 := below_grownX (by repeat' (first | with_reducible exact hb5r | with_reducible refine Below.alloc ?_ (by first | omega | (simp; omega)) _)) hg (by simp; omega) (fun k hk => (ow.lt k hk).1)
      have hceq : cel (nameP k) ++ [.string y, .int .u32 4] = cel (nameP (k + 1)) := by
        rw [← H_hy.out]; unfold nameP; rw [List.range_succ, List.map_append, cel_append]; rfl
      rw [hceq] at hown2
      clear ow hg hown3 hcv hceq hnw
      go_wp2_with fail
      go_roundw
      case rel => exact ⟨k + 1, a', c', by omega, by go_num, rfl, hbW, hb5W, hown2⟩
      case measure => simp [intOf]; omega
    · obtain rfl : k = 9 := by omega
      obtain ⟨aa, cc, hv, hcc, h15⟩ := ow.cells
      cases hv
      replace X12 := X12.later hb5r
      replace X13 := X13'.later hb5r
      replace X14 := X14.later hb5r
      replace g7 := g7.later hb5r
      replace g9 := g9.later hb5r
      go_upto_region 41 with (fail)
      refine wp_gen fun w6 hc6 => ?_
      have hb6 : Below w.heap.size w w6 := bchain (by repeat' (first | with_reducible exact hbr | with_reducible refine Below.drew ?_ | with_reducible refine below_drewN ?_ _ | with_reducible refine Below.alloc ?_ (by have := hbr.size; first | (simp; done) | (simp; omega) | omega) _ | with_reducible refine Below.setCell ?_ (by first | (simp; done) | (simp; omega) | omega) _)) hc6
      have hst6 : Below wr.heap.size wr w6 := bchain (by repeat' (first | with_reducible exact Below.refl _ _ | with_reducible refine Below.drew ?_ | with_reducible refine below_drewN ?_ _ | with_reducible refine Below.alloc ?_ (by first | (simp; done) | (simp; omega) | omega) _ | with_reducible refine Below.setCell ?_ (by first | (simp; done) | (simp; omega) | omega) _)) hc6
      replace X12 := X12.later hst6
      replace X13 := X13.later hst6
      replace X14 := X14.later hst6
      replace g7 := g7.later hst6
      replace g9 := g9.later hst6
      replace h15 := h15.later hst6
      clear hst6
      clear hc6 hbr
      exact glue ‹_› (part41 w _ hb6 H_htab.out H_her.out B7 B9 c7 c9 B12 B13 (B13 + 1) cv a7 a9 av g7 g9 X12 X13 X14 h15 hcc _ _ _ _ _ _ _ _ _ _ _ _ _ _ _ _ _ _ _ _ _ _ _ _ _ _ _ _ _ _ _ _ _ _ _ _ _ _ _ _ _ _ _ _ _ _ _ _ _ _ _ _ _ _ _ _ _ _ _ _ _ _ _ _ _ _ _ _ _ _ _ _ _ _ _ _ _ _ _ _ _ _ _ _ _ _ _ _ _ _ _ _ _ _ _ _ _ _ _ _ _ _ _ _ _ _ _ _ _ _ _ _ _ _ _ _ _ _ _ _ _ _ _ _ _ _ _ _ _ _ _ _ _ _ _ _ _ _ _ _ _ _ _ _ _ _ _ _ _ _ _ _ _ _ _ _ _ _ _ _ _ _ _ _ _ _ _ _ _ _ _ _ _ _ _ _ _ _ _ _ _ _ _ _ _ _ _ _ _ _ _ _ _ _ _ _ _ _ _ _ _ _ _ _ _ _ _ _ _ _ _ _ _ _ _ _ _ _ _ _ _ _ _ _ _ _ _ _ _ _ _ _ _ _ _ _ _ _ _ _ _ _ _ _ _ _ _ _ _ _ _ _ _ _ _ _ _ _ _ _ _ _ _ _ _ _ _ _ _ _ _ _ _ _ _ _ _ _ _ _ _ _ _ _ _ _ _ _ _ _ _ _ _ _ _ _ _ _ _ _ _ _ _ _ _ _ _ _ _ _ _ _ _ _ _ _ _ _ _ _ _ _ _ _ _ _ _ _ _ _ _ _ _ _ _ _ _ _ _ _ _ _ _ _ _ _ _ _ _ _ _ _ _ _ _ _ _ _ _ _ _ _ _ _ _ _ _ _ _ _ _ _ _ _ _ _ _ _ _ _ _ _ _ _ _ _ _ _ _ _ _ _ _ _ _ _ _ _ _ _ _ _ _ _ _ _ _ _ _ _ _ _ _ _ _ _ _ _ _ _ _ _ _ _ _ _ _ _ _ _ _ _ _ _ _ _ _ _ _ _ _ _ _ _)
end Go.Proofs.YthdldmkeoglflaaDoor
