/- NmP: CfgNm7, CfgNm6. -/
import Derived.Test.YthdldmkeoglflaaDoorCfgParse
import Derived.Test.YthdldmkeoglflaaDoorQTail
import Derived.Test.YthdldmkeoglflaaDoorRegMore
import Derived.Test.YthdldmkeoglflaaDoorCfgWith
import Derived.Test.YthdldmkeoglflaaDoorNmA
import Derived.Laws.IdiomStrings
/- ConfigNames, regions 64 and 65: the last tests. -/
namespace Go.Proofs.YthdldmkeoglflaaDoor
set_option linter.unusedSimpArgs false
set_option linter.unusedVariables false
set_option linter.unnecessarySimpa false
open Go.RowKit
set_option linter.unusedVariables false


def VAt2 (n : Nat) (cs : List Value) : Value → World → Prop := fun v w => ∃ b, v = .slice (some ⟨b, 0, none⟩) n n ∧ CellsAt w (some ⟨b, 0, none⟩) cs
theorem VAt2.last {n : Nat} {cs : List Value} (v : Value) (w w' : World) (h : VAt2 n cs v w) (hb : Below w.heap.size w w') : VAt2 n cs v w' := by
  obtain ⟨b, rfl, h⟩ := h; exact ⟨b, rfl, h.later hb⟩
def VGC (s : Value) (cs : List Value) : Value → World → Prop := fun v w => v = .agg #[.int .i64 2, .int .i64 2, .int .i64 2, .int .i64 2, .int .i64 2, .int .i64 2, .int .i64 2, .int .i64 2, .int .i64 2, .int .u32 5, s] ∧ ∀ a n c, s = .slice a n c → CellsAt w a cs
theorem VGC.last {s : Value} {cs : List Value} (v : Value) (w w' : World) (h : VGC s cs v w) (hb : Below w.heap.size w w') : VGC s cs v w' := ⟨h.1, fun a n c e => (h.2 a n c e).later hb⟩
set_option maxRecDepth 100000 in
set_option maxHeartbeats 20000000 in
theorem part64 (w wz : World) (hb : Below w.heap.size w wz) (htab : ∀ W, Below w.heap.size w W → Lib.TabIs Tryd.prog W "internal/strconv.uint64pow10" .u64 Lib.pow10Tab)
    (B7 B9 B18 B33 B37 c7 c9 c18 c33 c37 : Nat) (a7 a9 a18 a33 a37 : Option Addr) (g7 : GAt wz B7 [] a7 c7) (g9 : GAt wz B9 [(⟨#[98]⟩, 16)] a9 c9) (g18 : GAt wz B18 [(⟨#[98]⟩, 16)] a18 c18) (g33 : GAt wz B33 [(⟨#[97]⟩, 4), (⟨#[98]⟩, 16)] a33 c33) (g37 : GAt wz B37 [] a37 c37)
    (u0 u1 u2 u4 u5 u6 u12 u13 u14 u15 u16 u19 u21 u25 u27 u29 u31 u35 u39 u41 u42 u43 u44 u45 u46 u48 u49 u50 u51 u52 u53 u54 u55 u56 u57 u58 u59 u60 u61 u62 u63 u64 u65 u66 u67 u68 u69 u70 u71 u72 u73 u74 u75 u76 u77 u78 u79 u80 u81 u82 u83 u84 u85 u86 u87 u88 u89 u90 u91 u92 u93 u94 u95 u96 u97 u98 u99 u100 u101 u102 u103 u104 u105 u106 u107 u108 u109 u110 u111 u112 u113 u114 u115 u116 u117 u118 u119 u120 u121 u122 u123 u124 u125 u126 u127 u128 u129 u130 u131 u132 u133 u134 u135 u136 u137 u138 u139 u140 u141 u142 u143 u144 u145 u146 u147 u148 u149 u150 u151 u152 u153 u154 u155 u156 u157 u158 u159 u160 u161 u162 u163 u164 u165 u166 u167 u168 u169 u170 u171 u172 u173 u174 u175 u176 u177 u178 u179 u180 u181 u182 u183 u184 u185 u186 u187 u188 u189 u190 u191 u192 u193 u194 u195 u196 u197 u198 u199 u200 u201 u202 u203 u204 u205 u206 u207 u208 u209 u210 u211 u212 u213 u214 u215 u216 u217 u218 u219 u220 u221 u222 u223 u224 u225 u226 u227 u228 u229 u230 u231 u232 u233 u234 u235 u236 u237 u238 u239 u240 u241 u242 u243 u244 u245 u246 u247 u248 u249 u250 u251 u252 u253 u254 u255 u256 u257 u258 u259 u260 u261 u262 u263 u264 u265 u266 u267 u268 u269 u270 u271 u272 u273 u274 u275 u276 u277 u278 u279 u280 u281 u282 u283 u284 u285 u286 u287 u288 u289 u290 u291 u292 u293 u294 u295 u296 u297 u298 u299 u300 u301 u302 u303 u304 u305 u306 u307 u308 u309 u310 u311 u312 u313 u314 u315 u316 u317 u318 u319 u320 u321 u322 u323 u324 u325 u326 u327 u328 u329 u330 u331 u332 u333 u334 u335 u336 u337 u338 u339 u340 u341 u342 u343 u344 u345 u346 u347 u348 u349 u350 u351 u352 u353 u354 u355 u356 u357 u358 u359 u360 u361 u362 u363 u364 u365 u366 u367 u368 u369 u370 u371 u372 u373 u374 u375 u376 u377 u378 u379 u380 u381 u382 u383 u384 u385 u386 u387 u388 u389 u390 u391 u392 u393 u394 u395 u396 u397 u398 u399 u400 u401 u402 u403 u404 u405 u406 u407 u408 u409 u410 u411 u412 u413 u414 u415 u416 u417 u418 u419 u420 u421 u422 u423 u424 u425 u426 u427 u428 u429 u430 u431 u432 u433 u434 u435 u436 u437 u438 u439 u440 u441 u442 u443 u444 u445 u446 u447 u448 u449 u450 u451 u452 u453 : Value) :
    Part w 64 { tmps := #[u0, u1, u2, .bool true, u4, u5, u6, .pointer (some ⟨B7, 0, none⟩), .int .i64 0, .pointer (some ⟨B9, 0, none⟩), .int .i64 0, .bool true, u12, u13, u14, u15, u16, .bool true, .pointer (some ⟨B18, 0, none⟩), u19, .int .i64 6, u21, .int .i64 6, .string ⟨#[]⟩, .int .i64 0, u25, .int .i64 8, u27, .int .i64 14, u29, .int .i64 14, u31, .int .i64 14, .pointer (some ⟨B33, 0, none⟩), .int .i64 0, u35, .int .i64 6, .pointer (some ⟨B37, 0, none⟩), .int .i64 0, u39, .int .i64 4, u41, u42, u43, u44, u45, u46, .int .i64 18, u48, u49, u50, u51, u52, u53, u54, u55, u56, u57, u58, u59, u60, u61, u62, u63, u64, u65, u66, u67, u68, u69, u70, u71, u72, u73, u74, u75, u76, u77, u78, u79, u80, u81, u82, u83, u84, u85, u86, u87, u88, u89, u90, u91, u92, u93, u94, u95, u96, u97, u98, u99, u100, u101, u102, u103, u104, u105, u106, u107, u108, u109, u110, u111, u112, u113, u114, u115, u116, u117, u118, u119, u120, u121, u122, u123, u124, u125, u126, u127, u128, u129, u130, u131, u132, u133, u134, u135, u136, u137, u138, u139, u140, u141, u142, u143, u144, u145, u146, u147, u148, u149, u150, u151, u152, u153, u154, u155, u156, u157, u158, u159, u160, u161, u162, u163, u164, u165, u166, u167, u168, u169, u170, u171, u172, u173, u174, u175, u176, u177, u178, u179, u180, u181, u182, u183, u184, u185, u186, u187, u188, u189, u190, u191, u192, u193, u194, u195, u196, u197, u198, u199, u200, u201, u202, u203, u204, u205, u206, u207, u208, u209, u210, u211, u212, u213, u214, u215, u216, u217, u218, u219, u220, u221, u222, u223, u224, u225, u226, u227, u228, u229, u230, u231, u232, u233, u234, u235, u236, u237, u238, u239, u240, u241, u242, u243, u244, u245, u246, u247, u248, u249, u250, u251, u252, u253, u254, u255, u256, u257, u258, u259, u260, u261, u262, u263, u264, u265, u266, u267, u268, u269, u270, u271, u272, u273, u274, u275, u276, u277, u278, u279, u280, u281, u282, u283, u284, u285, u286, u287, u288, u289, u290, u291, u292, u293, u294, u295, u296, u297, u298, u299, u300, u301, u302, u303, u304, u305, u306, u307, u308, u309, u310, u311, u312, u313, u314, u315, u316, u317, u318, u319, u320, u321, u322, u323, u324, u325, u326, u327, u328, u329, u330, u331, u332, u333, u334, u335, u336, u337, u338, u339, u340, u341, u342, u343, u344, u345, u346, u347, u348, u349, u350, u351, u352, u353, u354, u355, u356, u357, u358, u359, u360, u361, u362, u363, u364, u365, u366, u367, u368, u369, u370, u371, u372, u373, u374, u375, u376, u377, u378, u379, u380, u381, u382, u383, u384, u385, u386, u387, u388, u389, u390, u391, u392, u393, u394, u395, u396, u397, u398, u399, u400, u401, u402, u403, u404, u405, u406, u407, u408, u409, u410, u411, u412, u413, u414, u415, u416, u417, u418, u419, u420, u421, u422, u423, u424, u425, u426, u427, u428, u429, u430, u431, u432, u433, u434, u435, u436, u437, u438, u439, u440, u441, u442, u443, u444, u445, u446, u447, u448, u449, u450, u451, u452, u453], defers := [] } wz := by
  unfold Part
  conv => arg 2; whnf
  have H_htab := Box.mk htab
  clear htab
  have Y_0 := g33.at (j := 0) rfl
  have Y_1 := g33.at (j := 1) rfl
  have Y_2 := g33.at (j := 2) rfl
  have Y_3 := g33.at (j := 3) rfl
  have Y_4 := g33.at (j := 4) rfl
  have Y_5 := g33.at (j := 5) rfl
  have Y_6 := g33.at (j := 6) rfl
  have Y_7 := g33.at (j := 7) rfl
  have Y_8 := g33.at (j := 8) rfl
  have Y_9 := g33.at (j := 9) rfl
  have Y_10 : wz.cell? ⟨B33, 10, none⟩ = some (.slice a33 2 c33) := g33.at (j := 10) rfl
  have Z_0 := g37.at (j := 0) rfl
  have Z_1 := g37.at (j := 1) rfl
  have Z_2 := g37.at (j := 2) rfl
  have Z_3 := g37.at (j := 3) rfl
  have Z_4 := g37.at (j := 4) rfl
  have Z_5 := g37.at (j := 5) rfl
  have Z_6 := g37.at (j := 6) rfl
  have Z_7 := g37.at (j := 7) rfl
  have Z_8 := g37.at (j := 8) rfl
  have Z_9 := g37.at (j := 9) rfl
  have Z_10 : wz.cell? ⟨B37, 10, none⟩ = some (.slice a37 0 c37) := g37.at (j := 10) rfl
  have Y_l := g33.lt
  have Z_l := g37.lt
  go_wp2_with fail
  refine wp_gen fun w1 hc1 => ?_
  have hb1 : Below w.heap.size w w1 := bchain (by repeat' (first | with_reducible exact hb | with_reducible refine Below.drew ?_ | with_reducible refine below_drewN ?_ _ | with_reducible refine Below.alloc ?_ (by have := hb.size; first | (simp; done) | (simp; omega) | omega) _ | with_reducible refine Below.setCell ?_ (by first | (simp; done) | (simp; omega) | omega) _)) hc1
  have hst1 : Below wz.heap.size wz w1 := bchain (by repeat' (first | with_reducible exact Below.refl _ _ | with_reducible refine Below.drew ?_ | with_reducible refine below_drewN ?_ _ | with_reducible refine Below.alloc ?_ (by first | (simp; done) | (simp; omega) | omega) _ | with_reducible refine Below.setCell ?_ (by first | (simp; done) | (simp; omega) | omega) _)) hc1
  replace Y_0 := cell_later hst1 Y_0
  replace Y_1 := cell_later hst1 Y_1
  replace Y_2 := cell_later hst1 Y_2
  replace Y_3 := cell_later hst1 Y_3
  replace Y_4 := cell_later hst1 Y_4
  replace Y_5 := cell_later hst1 Y_5
  replace Y_6 := cell_later hst1 Y_6
  replace Y_7 := cell_later hst1 Y_7
  replace Y_8 := cell_later hst1 Y_8
  replace Y_9 := cell_later hst1 Y_9
  replace Y_10 := cell_later hst1 Y_10
  replace Y_l := Nat.lt_of_lt_of_le Y_l hst1.size
  replace Z_0 := cell_later hst1 Z_0
  replace Z_1 := cell_later hst1 Z_1
  replace Z_2 := cell_later hst1 Z_2
  replace Z_3 := cell_later hst1 Z_3
  replace Z_4 := cell_later hst1 Z_4
  replace Z_5 := cell_later hst1 Z_5
  replace Z_6 := cell_later hst1 Z_6
  replace Z_7 := cell_later hst1 Z_7
  replace Z_8 := cell_later hst1 Z_8
  replace Z_9 := cell_later hst1 Z_9
  replace Z_10 := cell_later hst1 Z_10
  replace Z_l := Nat.lt_of_lt_of_le Z_l hst1.size
  replace g7 := g7.later hst1
  replace g9 := g9.later hst1
  replace g18 := g18.later hst1
  replace g33 := g33.later hst1
  replace g37 := g37.later hst1
  clear hst1
  have KY_0 := cell_on Y_0
  have KY_1 := cell_on Y_1
  have KY_2 := cell_on Y_2
  have KY_3 := cell_on Y_3
  have KY_4 := cell_on Y_4
  have KY_5 := cell_on Y_5
  have KY_6 := cell_on Y_6
  have KY_7 := cell_on Y_7
  have KY_8 := cell_on Y_8
  have KY_9 := cell_on Y_9
  have KY_10 := cell_on Y_10
  have KZ_0 := cell_on Z_0
  have KZ_1 := cell_on Z_1
  have KZ_2 := cell_on Z_2
  have KZ_3 := cell_on Z_3
  have KZ_4 := cell_on Z_4
  have KZ_5 := cell_on Z_5
  have KZ_6 := cell_on Z_6
  have KZ_7 := cell_on Z_7
  have KZ_8 := cell_on Z_8
  have KZ_9 := cell_on Z_9
  have KZ_10 := cell_on Z_10
  refine wp_region_on_spec [(38, [], fun _ => VAt2 2 [.string ⟨#[97]⟩, .int .u32 4, .string ⟨#[98]⟩, .int .u32 16]), (39, [396], fun l => VGC (l.getD 0 undef) [.string ⟨#[97]⟩, .int .u32 4, .string ⟨#[98]⟩, .int .u32 16]), (40, [], fun _ => VIs (.bool true)), (52, [], fun _ => VIs (.agg #[.int .i64 2, .int .i64 2, .int .i64 2, .int .i64 2, .int .i64 2, .int .i64 2, .int .i64 2, .int .i64 2, .int .i64 2, .int .u32 5, .slice none 0 0])), (53, [], fun _ => VIs (.bool true))] [38, 39, 40, 52, 53] [] [(38, []), (39, [396]), (40, []), (52, []), (53, [])] (by kernel_rfl) (by kernel_rfl) rfl (by kernel_rfl) rfl (by kernel_rfl) ⟨fun _ => VAt2.last, fun _ => VGC.last, fun _ => VIs.last, fun _ => VIs.last, fun _ => VIs.last, trivial⟩ ?_
  try simp only [List.take_succ_cons, List.take_zero, List.drop_succ_cons, List.drop_zero]
  refine wpSpec_quiet 38 (by kernel_rfl) (by kernel_rfl) ?_
  simp only [List.take_succ_cons, List.take_zero, List.drop_succ_cons, List.drop_zero]
  repeat (go_big_quiet_step (fail))
  refine wpQuiet_nil ?_
  show wpSpec _ _ _ _ _ _ _ _ _ _ _
  refine wpSpec_at [] (VAt2 2 [.string ⟨#[97]⟩, .int .u32 4, .string ⟨#[98]⟩, .int .u32 16]) rfl (by first | rfl | (simp [viewS, Act.eval]; done)) rfl (by first | rfl | (simp [Region.wanted]; done)) ?_ rfl ?_
  · intro wq hq hfq
    clear hfq
    unfold Oper.gives; go_simp; exact ⟨(Below.refl _ _).alloc (Nat.le_refl _) _, _, rfl, (Blk.newA wq _ _ 46 [.string ⟨#[97]⟩, .int .u32 4, .string ⟨#[98]⟩, .int .u32 16] rfl rfl).cellsAt2⟩
  rintro x38 ⟨_, ⟨bb, rfl, _⟩⟩
  simp only [Act.put, List.setIfInBounds_toArray, List.set_cons_succ, List.set_cons_zero]
  refine wpSpec_at [.slice (some ⟨bb, 0, none⟩) 2 2] (VGC (.slice (some ⟨bb, 0, none⟩) 2 2) [.string ⟨#[97]⟩, .int .u32 4, .string ⟨#[98]⟩, .int .u32 16]) rfl (by first | rfl | (simp [viewS, Act.eval]; done)) rfl (by first | rfl | (simp [Region.wanted]; done)) ?_ rfl ?_
  · intro wq hq hfq
    have f38 := hfq 38 (by kernel_rfl)
    simp only [upd, Nat.beq, cond] at f38
    clear hfq
    refine gives_call 18 _ _ #[.slice (some ⟨bb, 0, none⟩) 2 2] rfl (by kernel_rfl) (by simp [Act.eval]) ((given_any _ 2 2 _).mono ?_)
    rintro e w' ⟨rfl, hb⟩
    obtain ⟨bb', e38, k38⟩ := f38
    cases e38
    exact ⟨_, rfl, hb, rfl, fun a n c e => by cases e; exact k38.later hb⟩
  rintro x39 ⟨_, ⟨rfl, _⟩⟩
  simp only [Act.put, List.setIfInBounds_toArray, List.set_cons_succ, List.set_cons_zero]
  refine wpSpec_at [] (VIs (.bool true)) rfl (by first | rfl | (simp [viewS, Act.eval]; done)) rfl (by first | rfl | (simp [Region.wanted]; done)) ?_ rfl ?_
  · intro wq hq hfq
    have f39 := hfq 39 (by kernel_rfl)
    simp only [upd, Nat.beq, cond] at f39
    clear hfq
    have k38 := f39.2 _ _ _ rfl
    refine gives_call 14 _ _ #[.agg #[.int .i64 2, .int .i64 2, .int .i64 2, .int .i64 2, .int .i64 2, .int .i64 2, .int .i64 2, .int .i64 2, .int .i64 2, .int .u32 5, .slice a33 2 c33], .agg #[.int .i64 2, .int .i64 2, .int .i64 2, .int .i64 2, .int .i64 2, .int .i64 2, .int .i64 2, .int .i64 2, .int .i64 2, .int .u32 5, .slice (some ⟨bb, 0, none⟩) 2 2]] rfl (by kernel_rfl) (by simp [Act.eval]) ((same_any 2 2 2 2 2 2 2 2 2 5 [(⟨#[97]⟩, 4), (⟨#[98]⟩, 16)] a33 (some ⟨bb, 0, none⟩) c33 2 2 _ rfl (g33.peers.later hq) k38 (by decide)).mono ?_)
    rintro e w' ⟨rfl, hb⟩
    exact ⟨_, rfl, hb, rfl⟩
  rintro x40 ⟨_, hx40⟩
  cases hx40
  simp only [Act.put, List.setIfInBounds_toArray, List.set_cons_succ, List.set_cons_zero]
  refine wpSpec_quiet 11 (by kernel_rfl) (by kernel_rfl) ?_
  simp only [List.take_succ_cons, List.take_zero, List.drop_succ_cons, List.drop_zero]
  repeat (go_big_quiet_step (fail))
  refine wpQuiet_nil ?_
  show wpSpec _ _ _ _ _ _ _ _ _ _ _
  refine wpSpec_at [] (VIs (.agg #[.int .i64 2, .int .i64 2, .int .i64 2, .int .i64 2, .int .i64 2, .int .i64 2, .int .i64 2, .int .i64 2, .int .i64 2, .int .u32 5, .slice none 0 0])) rfl (by first | rfl | (simp [viewS, Act.eval]; done)) rfl (by first | rfl | (simp [Region.wanted]; done)) ?_ rfl ?_
  · intro wq hq hfq
    clear hfq
    refine gives_call 18 _ _ #[.slice none 0 0] rfl (by kernel_rfl) (by simp [Act.eval]) ((given_any none 0 0 _).mono ?_)
    rintro e w' ⟨rfl, hb⟩
    exact ⟨_, rfl, hb, rfl⟩
  rintro x52 ⟨_, hx52⟩
  cases hx52
  simp only [Act.put, List.setIfInBounds_toArray, List.set_cons_succ, List.set_cons_zero]
  refine wpSpec_at [] (VIs (.bool true)) rfl (by first | rfl | (simp [viewS, Act.eval]; done)) rfl (by first | rfl | (simp [Region.wanted]; done)) ?_ rfl ?_
  · intro wq hq hfq
    clear hfq
    refine gives_call 14 _ _ #[.agg #[.int .i64 2, .int .i64 2, .int .i64 2, .int .i64 2, .int .i64 2, .int .i64 2, .int .i64 2, .int .i64 2, .int .i64 2, .int .u32 5, .slice a37 0 c37], .agg #[.int .i64 2, .int .i64 2, .int .i64 2, .int .i64 2, .int .i64 2, .int .i64 2, .int .i64 2, .int .i64 2, .int .i64 2, .int .u32 5, .slice none 0 0]] rfl (by kernel_rfl) (by simp [Act.eval]) ((same_any 2 2 2 2 2 2 2 2 2 5 [] a37 none c37 0 0 _ rfl (g37.peers.later hq) (ca_nil _ _) (by decide)).mono ?_)
    rintro e w' ⟨rfl, hb⟩
    exact ⟨_, rfl, hb, rfl⟩
  rintro x53 ⟨_, hx53⟩
  cases hx53
  simp only [Act.put, List.setIfInBounds_toArray, List.set_cons_succ, List.set_cons_zero]
  refine wpSpec_quiet 10 (by kernel_rfl) (by kernel_rfl) ?_
  simp only [List.take_succ_cons, List.take_zero, List.drop_succ_cons, List.drop_zero]
  repeat (go_big_quiet_step (fail))
  refine wpQuiet_nil ?_
  show wpSpec _ _ _ _ _ _ _ _ _ _ _
  intro w2 hc2 hfq
  clear hfq
  clear KY_0 KY_1 KY_2 KY_3 KY_4 KY_5 KY_6 KY_7 KY_8 KY_9 KY_10 KZ_0 KZ_1 KZ_2 KZ_3 KZ_4 KZ_5 KZ_6 KZ_7 KZ_8 KZ_9 KZ_10
  have hb2 : Below w.heap.size w w2 := bchain (by repeat' (first | with_reducible exact hb1 | with_reducible refine Below.drew ?_ | with_reducible refine below_drewN ?_ _ | with_reducible refine Below.alloc ?_ (by have := hb1.size; first | (simp; done) | (simp; omega) | omega) _ | with_reducible refine Below.setCell ?_ (by first | (simp; done) | (simp; omega) | omega) _)) hc2
  have hst2 : Below w1.heap.size w1 w2 := bchain (by repeat' (first | with_reducible exact Below.refl _ _ | with_reducible refine Below.drew ?_ | with_reducible refine below_drewN ?_ _ | with_reducible refine Below.alloc ?_ (by first | (simp; done) | (simp; omega) | omega) _ | with_reducible refine Below.setCell ?_ (by first | (simp; done) | (simp; omega) | omega) _)) hc2
  replace Y_0 := cell_later hst2 Y_0
  replace Y_1 := cell_later hst2 Y_1
  replace Y_2 := cell_later hst2 Y_2
  replace Y_3 := cell_later hst2 Y_3
  replace Y_4 := cell_later hst2 Y_4
  replace Y_5 := cell_later hst2 Y_5
  replace Y_6 := cell_later hst2 Y_6
  replace Y_7 := cell_later hst2 Y_7
  replace Y_8 := cell_later hst2 Y_8
  replace Y_9 := cell_later hst2 Y_9
  replace Y_10 := cell_later hst2 Y_10
  replace Y_l := Nat.lt_of_lt_of_le Y_l hst2.size
  replace Z_0 := cell_later hst2 Z_0
  replace Z_1 := cell_later hst2 Z_1
  replace Z_2 := cell_later hst2 Z_2
  replace Z_3 := cell_later hst2 Z_3
  replace Z_4 := cell_later hst2 Z_4
  replace Z_5 := cell_later hst2 Z_5
  replace Z_6 := cell_later hst2 Z_6
  replace Z_7 := cell_later hst2 Z_7
  replace Z_8 := cell_later hst2 Z_8
  replace Z_9 := cell_later hst2 Z_9
  replace Z_10 := cell_later hst2 Z_10
  replace Z_l := Nat.lt_of_lt_of_le Z_l hst2.size
  replace g7 := g7.later hst2
  replace g9 := g9.later hst2
  replace g18 := g18.later hst2
  replace g33 := g33.later hst2
  replace g37 := g37.later hst2
  clear hst2
  show Code.wp _ _ _ _ _
  conv => arg 2; whnf
  clear Y_0 Y_1 Y_2 Y_3 Y_4 Y_5 Y_6 Y_7 Y_8 Y_9 Y_10 Y_l
  clear Z_0 Z_1 Z_2 Z_3 Z_4 Z_5 Z_6 Z_7 Z_8 Z_9 Z_10 Z_l
  have Y_0 := g7.at (j := 0) rfl
  have Y_1 := g7.at (j := 1) rfl
  have Y_2 := g7.at (j := 2) rfl
  have Y_3 := g7.at (j := 3) rfl
  have Y_4 := g7.at (j := 4) rfl
  have Y_5 := g7.at (j := 5) rfl
  have Y_6 := g7.at (j := 6) rfl
  have Y_7 := g7.at (j := 7) rfl
  have Y_8 := g7.at (j := 8) rfl
  have Y_9 := g7.at (j := 9) rfl
  have Y_10 : w2.cell? ⟨B7, 10, none⟩ = some (.slice a7 0 c7) := g7.at (j := 10) rfl
  have Z_0 := g9.at (j := 0) rfl
  have Z_1 := g9.at (j := 1) rfl
  have Z_2 := g9.at (j := 2) rfl
  have Z_3 := g9.at (j := 3) rfl
  have Z_4 := g9.at (j := 4) rfl
  have Z_5 := g9.at (j := 5) rfl
  have Z_6 := g9.at (j := 6) rfl
  have Z_7 := g9.at (j := 7) rfl
  have Z_8 := g9.at (j := 8) rfl
  have Z_9 := g9.at (j := 9) rfl
  have Z_10 : w2.cell? ⟨B9, 10, none⟩ = some (.slice a9 1 c9) := g9.at (j := 10) rfl
  have X_0 := g18.at (j := 0) rfl
  have X_1 := g18.at (j := 1) rfl
  have X_2 := g18.at (j := 2) rfl
  have X_3 := g18.at (j := 3) rfl
  have X_4 := g18.at (j := 4) rfl
  have X_5 := g18.at (j := 5) rfl
  have X_6 := g18.at (j := 6) rfl
  have X_7 := g18.at (j := 7) rfl
  have X_8 := g18.at (j := 8) rfl
  have X_9 := g18.at (j := 9) rfl
  have X_10 : w2.cell? ⟨B18, 10, none⟩ = some (.slice a18 1 c18) := g18.at (j := 10) rfl
  have Y_l := g7.lt
  have Z_l := g9.lt
  have X_l := g18.lt
  have hal := fun W (hb : Below w.heap.size w W) => alive_any W (fun W' hb' => H_htab.out W' (bchain hb hb'))
  have H_hal := Box.mk hal
  clear hal
  go_wp2_with fail
  refine wp_gen fun w3 hc3 => ?_
  have hb3 : Below w.heap.size w w3 := bchain (by repeat' (first | with_reducible exact hb2 | with_reducible refine Below.drew ?_ | with_reducible refine below_drewN ?_ _ | with_reducible refine Below.alloc ?_ (by have := hb2.size; first | (simp; done) | (simp; omega) | omega) _ | with_reducible refine Below.setCell ?_ (by first | (simp; done) | (simp; omega) | omega) _)) hc3
  have hst3 : Below w2.heap.size w2 w3 := bchain (by repeat' (first | with_reducible exact Below.refl _ _ | with_reducible refine Below.drew ?_ | with_reducible refine below_drewN ?_ _ | with_reducible refine Below.alloc ?_ (by first | (simp; done) | (simp; omega) | omega) _ | with_reducible refine Below.setCell ?_ (by first | (simp; done) | (simp; omega) | omega) _)) hc3
  replace Y_0 := cell_later hst3 Y_0
  replace Y_1 := cell_later hst3 Y_1
  replace Y_2 := cell_later hst3 Y_2
  replace Y_3 := cell_later hst3 Y_3
  replace Y_4 := cell_later hst3 Y_4
  replace Y_5 := cell_later hst3 Y_5
  replace Y_6 := cell_later hst3 Y_6
  replace Y_7 := cell_later hst3 Y_7
  replace Y_8 := cell_later hst3 Y_8
  replace Y_9 := cell_later hst3 Y_9
  replace Y_10 := cell_later hst3 Y_10
  replace Y_l := Nat.lt_of_lt_of_le Y_l hst3.size
  replace Z_0 := cell_later hst3 Z_0
  replace Z_1 := cell_later hst3 Z_1
  replace Z_2 := cell_later hst3 Z_2
  replace Z_3 := cell_later hst3 Z_3
  replace Z_4 := cell_later hst3 Z_4
  replace Z_5 := cell_later hst3 Z_5
  replace Z_6 := cell_later hst3 Z_6
  replace Z_7 := cell_later hst3 Z_7
  replace Z_8 := cell_later hst3 Z_8
  replace Z_9 := cell_later hst3 Z_9
  replace Z_10 := cell_later hst3 Z_10
  replace Z_l := Nat.lt_of_lt_of_le Z_l hst3.size
  replace X_0 := cell_later hst3 X_0
  replace X_1 := cell_later hst3 X_1
  replace X_2 := cell_later hst3 X_2
  replace X_3 := cell_later hst3 X_3
  replace X_4 := cell_later hst3 X_4
  replace X_5 := cell_later hst3 X_5
  replace X_6 := cell_later hst3 X_6
  replace X_7 := cell_later hst3 X_7
  replace X_8 := cell_later hst3 X_8
  replace X_9 := cell_later hst3 X_9
  replace X_10 := cell_later hst3 X_10
  replace X_l := Nat.lt_of_lt_of_le X_l hst3.size
  replace g7 := g7.later hst3
  replace g9 := g9.later hst3
  replace g18 := g18.later hst3
  replace g33 := g33.later hst3
  replace g37 := g37.later hst3
  clear hst3
  have KY_0 := cell_on Y_0
  have KY_1 := cell_on Y_1
  have KY_2 := cell_on Y_2
  have KY_3 := cell_on Y_3
  have KY_4 := cell_on Y_4
  have KY_5 := cell_on Y_5
  have KY_6 := cell_on Y_6
  have KY_7 := cell_on Y_7
  have KY_8 := cell_on Y_8
  have KY_9 := cell_on Y_9
  have KY_10 := cell_on Y_10
  have KZ_0 := cell_on Z_0
  have KZ_1 := cell_on Z_1
  have KZ_2 := cell_on Z_2
  have KZ_3 := cell_on Z_3
  have KZ_4 := cell_on Z_4
  have KZ_5 := cell_on Z_5
  have KZ_6 := cell_on Z_6
  have KZ_7 := cell_on Z_7
  have KZ_8 := cell_on Z_8
  have KZ_9 := cell_on Z_9
  have KZ_10 := cell_on Z_10
  have KX_0 := cell_on X_0
  have KX_1 := cell_on X_1
  have KX_2 := cell_on X_2
  have KX_3 := cell_on X_3
  have KX_4 := cell_on X_4
  have KX_5 := cell_on X_5
  have KX_6 := cell_on X_6
  have KX_7 := cell_on X_7
  have KX_8 := cell_on X_8
  have KX_9 := cell_on X_9
  have KX_10 := cell_on X_10
  refine wp_region_on (by kernel_rfl) (by kernel_rfl) ?_
  repeat (go_big_quiet_step ((first | (go_at_call 18; with_reducible exact calls_on (given_any none 0 0 _)) | (go_at_call 14; with_reducible exact calls_on (same_any 2 2 2 2 2 2 2 2 2 5 [] a7 none c7 0 0 _ rfl (g7.peers.on _) (ca_nil _ _) (by decide))) | (go_at_call 14; with_reducible exact calls_on (same_any 2 2 2 2 2 2 2 2 2 5 [(⟨#[98]⟩, 16)] a9 a18 c9 c18 1 _ rfl (g9.peers.on _) (g18.peers.on _) (by decide))) | (go_at_call 8; with_reducible exact calls_on (H_hal.out _ (bchain hb3 (below_later _ _)))))))
  refine wpQuiet_nil ?_
  intro w4 hc4
  clear KY_0 KY_1 KY_2 KY_3 KY_4 KY_5 KY_6 KY_7 KY_8 KY_9 KY_10 KZ_0 KZ_1 KZ_2 KZ_3 KZ_4 KZ_5 KZ_6 KZ_7 KZ_8 KZ_9 KZ_10 KX_0 KX_1 KX_2 KX_3 KX_4 KX_5 KX_6 KX_7 KX_8 KX_9 KX_10
  have hb4 : Below w.heap.size w w4 := bchain (by repeat' (first | with_reducible exact hb3 | with_reducible refine Below.drew ?_ | with_reducible refine below_drewN ?_ _ | with_reducible refine Below.alloc ?_ (by have := hb3.size; first | (simp; done) | (simp; omega) | omega) _ | with_reducible refine Below.setCell ?_ (by first | (simp; done) | (simp; omega) | omega) _)) hc4
  have hst4 : Below w3.heap.size w3 w4 := bchain (by repeat' (first | with_reducible exact Below.refl _ _ | with_reducible refine Below.drew ?_ | with_reducible refine below_drewN ?_ _ | with_reducible refine Below.alloc ?_ (by first | (simp; done) | (simp; omega) | omega) _ | with_reducible refine Below.setCell ?_ (by first | (simp; done) | (simp; omega) | omega) _)) hc4
  replace Y_0 := cell_later hst4 Y_0
  replace Y_1 := cell_later hst4 Y_1
  replace Y_2 := cell_later hst4 Y_2
  replace Y_3 := cell_later hst4 Y_3
  replace Y_4 := cell_later hst4 Y_4
  replace Y_5 := cell_later hst4 Y_5
  replace Y_6 := cell_later hst4 Y_6
  replace Y_7 := cell_later hst4 Y_7
  replace Y_8 := cell_later hst4 Y_8
  replace Y_9 := cell_later hst4 Y_9
  replace Y_10 := cell_later hst4 Y_10
  replace Y_l := Nat.lt_of_lt_of_le Y_l hst4.size
  replace Z_0 := cell_later hst4 Z_0
  replace Z_1 := cell_later hst4 Z_1
  replace Z_2 := cell_later hst4 Z_2
  replace Z_3 := cell_later hst4 Z_3
  replace Z_4 := cell_later hst4 Z_4
  replace Z_5 := cell_later hst4 Z_5
  replace Z_6 := cell_later hst4 Z_6
  replace Z_7 := cell_later hst4 Z_7
  replace Z_8 := cell_later hst4 Z_8
  replace Z_9 := cell_later hst4 Z_9
  replace Z_10 := cell_later hst4 Z_10
  replace Z_l := Nat.lt_of_lt_of_le Z_l hst4.size
  replace X_0 := cell_later hst4 X_0
  replace X_1 := cell_later hst4 X_1
  replace X_2 := cell_later hst4 X_2
  replace X_3 := cell_later hst4 X_3
  replace X_4 := cell_later hst4 X_4
  replace X_5 := cell_later hst4 X_5
  replace X_6 := cell_later hst4 X_6
  replace X_7 := cell_later hst4 X_7
  replace X_8 := cell_later hst4 X_8
  replace X_9 := cell_later hst4 X_9
  replace X_10 := cell_later hst4 X_10
  replace X_l := Nat.lt_of_lt_of_le X_l hst4.size
  replace g7 := g7.later hst4
  replace g9 := g9.later hst4
  replace g18 := g18.later hst4
  replace g33 := g33.later hst4
  replace g37 := g37.later hst4
  clear hst4
  unfold NmQ
  go_wp2_with fail
  go_ret
  exact ⟨rfl, (by repeat' (first | with_reducible exact hb4 | with_reducible refine Below.drew ?_ | with_reducible refine below_drewN ?_ _ | with_reducible refine Below.alloc ?_ (by have := hb4.size; first | (simp; done) | (simp; omega) | omega) _ | with_reducible refine Below.setCell ?_ (by first | (simp; done) | (simp; omega) | omega) _))⟩
end Go.Proofs.YthdldmkeoglflaaDoor

/- ConfigNames, regions 54 to 63: eight peers, and one more. -/
namespace Go.Proofs.YthdldmkeoglflaaDoor
set_option linter.unusedSimpArgs false
set_option linter.unusedVariables false
set_option linter.unnecessarySimpa false
open Go.RowKit
set_option linter.unusedVariables false


def nmk (k : Nat) : ByteArray := ⟨#[UInt8.ofNat (97 + k)]⟩
def keyL : List Int := [4, 16, 64, 256, 4096, 16384, 65536, 262144]
def fullP (k : Nat) : Peers := (List.range k).map fun i => (nmk i, keyL[i]?.getD 0)
def L2n : Lim := ⟨2, 2, 2, 2, 2, 2, 2, 2, 2⟩
theorem key_is : ∀ i, i < 8 → isB (keyL[i]?.getD 0) = true := by
  intro i hi
  match i, hi with
  | 0, _ => exact isC 4 (by omega) (by omega) true (by decide +kernel)
  | 1, _ => exact isC 16 (by omega) (by omega) true (by decide +kernel)
  | 2, _ => exact isC 64 (by omega) (by omega) true (by decide +kernel)
  | 3, _ => exact isC 256 (by omega) (by omega) true (by decide +kernel)
  | 4, _ => exact isC 4096 (by omega) (by omega) true (by decide +kernel)
  | 5, _ => exact isC 16384 (by omega) (by omega) true (by decide +kernel)
  | 6, _ => exact isC 65536 (by omega) (by omega) true (by decide +kernel)
  | 7, _ => exact isC 262144 (by omega) (by omega) true (by decide +kernel)
theorem nmk_ok : ∀ i, i < 8 → okN (nmk i) = true := by decide +kernel
theorem full_any (k : Nat) (hk : k ≤ 8) : ((fullP k).any fun p => !vP p) = false := by
  cases h : (fullP k).any fun p => !vP p
  · rfl
  · obtain ⟨p, hp, he⟩ := List.any_eq_true.1 h
    unfold fullP at hp
    obtain ⟨i, hi, rfl⟩ := List.mem_map.1 hp
    have hi := List.mem_range.1 hi
    unfold vP at he
    rw [nmk_ok i (by omega), key_is i (by omega)] at he
    cases he
theorem full_chk : ∀ k, k ≤ 8 → chkS L2n 5 (fullP k) = 0 := fun k hk => by
  have h1 : ∀ k, k ≤ 8 → incB (fullP k) = true ∧ distB (pubK 5) (fullP k) = true := by decide +kernel
  exact chk_ok (by decide) (by decide) (by simpa [fullP] using hk) (full_any k hk) (h1 k hk).1 (h1 k hk).2
theorem full_len (k : Nat) : (fullP k).length = k := by simp [fullP]
theorem full_ok (k : Nat) (hk : k ≤ 8) : PsOk (fullP k) := by
  match k, hk with
  | 0, _ => exact PsOk.of (by decide +kernel) (by decide)
  | 1, _ => exact PsOk.of (by decide +kernel) (by decide)
  | 2, _ => exact PsOk.of (by decide +kernel) (by decide)
  | 3, _ => exact PsOk.of (by decide +kernel) (by decide)
  | 4, _ => exact PsOk.of (by decide +kernel) (by decide)
  | 5, _ => exact PsOk.of (by decide +kernel) (by decide)
  | 6, _ => exact PsOk.of (by decide +kernel) (by decide)
  | 7, _ => exact PsOk.of (by decide +kernel) (by decide)
  | 8, _ => exact PsOk.of (by decide +kernel) (by decide)
theorem full_with : ∀ k, k < 8 → withR L2n 5 (fullP k) (nmk k) (keyL[k]?.getD 0) 0 = ⟨L2n, 5, fullP (k + 1), 0⟩ := by
  intro k hk
  have key : ∀ k, k < 8 → hasN (fullP k) (nmk k) = false ∧ ¬ whoN (pubK 5) (fullP k) (keyL[k]?.getD 0) < (fullP k).length ∧ (fullP k).length ≠ 8 ∧ lb (fullP k) (nmk k) = k := by
    decide +kernel
  obtain ⟨h2, h3, h4, h5⟩ := key k hk
  have h1 : (okN (nmk k) && isB (keyL[k]?.getD 0)) = true := by rw [nmk_ok k hk, key_is k hk]; rfl
  unfold withR
  rw [if_pos rfl, h1, if_pos rfl, h2, if_neg (by decide), if_neg h3, if_neg h4, h5, List.take_of_length_le (by rw [full_len]; exact Nat.le_refl _), List.drop_eq_nil_of_le (by rw [full_len]; exact Nat.le_refl _)]
  unfold fullP
  rw [List.range_succ, List.map_append]; rfl
theorem full_more : withR L2n 5 (fullP 8) ⟨#[122]⟩ 1 0 = zOut 18 := by
  have h0 : isB 1 = true := isC 1 (by omega) (by omega) true (by decide +kernel)
  have h1 : (okN ⟨#[122]⟩ && isB 1) = true := by rw [h0]; decide +kernel
  have h2 : hasN (fullP 8) ⟨#[122]⟩ = false := by decide +kernel
  have h3 : ¬ whoN (pubK 5) (fullP 8) 1 < (fullP 8).length := by decide +kernel
  unfold withR
  rw [if_pos rfl, h1, if_pos rfl, h2, if_neg (by decide), if_neg h3, if_pos (full_len 8)]
def VWith (k : Nat) (ps : Peers) : Value → World → Prop := fun v w => ∃ a c, v = .tuple #[.agg #[.int .i64 2, .int .i64 2, .int .i64 2, .int .i64 2, .int .i64 2, .int .i64 2, .int .i64 2, .int .i64 2, .int .i64 2, .int .u32 5, .slice a k c], .int .i64 0] ∧ CellsAt w a (cel ps)
theorem VWith.last {k : Nat} {ps : Peers} (v : Value) (w w' : World) (h : VWith k ps v w) (hb : Below w.heap.size w w') : VWith k ps v w' := by
  obtain ⟨a, c, rfl, h⟩ := h; exact ⟨a, c, rfl, h.later hb⟩
def VBlk2 (B t : Nat) (cs : List Value) : Value → World → Prop := fun v w => ∃ b, v = .pointer (some ⟨b, 0, none⟩) ∧ B ≤ b ∧ Blk w b t cs
theorem VBlk2.last {B t : Nat} {cs : List Value} (v : Value) (w w' : World) (h : VBlk2 B t cs v w) (hb : Below w.heap.size w w') : VBlk2 B t cs v w' := by
  obtain ⟨b, rfl, h1, h⟩ := h; exact ⟨b, rfl, h1, h.later hb⟩
def VWSt (k : Nat) (ps : Peers) (B : Nat) (p : Value) : Value → World → Prop := fun _ w => ∃ b a c, p = .pointer (some ⟨b, 0, none⟩) ∧ B ≤ b ∧ Blk w b 27 [.int .i64 2, .int .i64 2, .int .i64 2, .int .i64 2, .int .i64 2, .int .i64 2, .int .i64 2, .int .i64 2, .int .i64 2, .int .u32 5, .slice a k c] ∧ CellsAt w a (cel ps)
theorem VWSt.last {k : Nat} {ps : Peers} {B : Nat} {p : Value} (v : Value) (w w' : World) (h : VWSt k ps B p v w) (hb : Below w.heap.size w w') : VWSt k ps B p v w' := by
  obtain ⟨b, a, c, rfl, h1, h2, h3⟩ := h; exact ⟨b, a, c, rfl, h1, h2.later hb, h3.later hb⟩
theorem infoS : (Tryd.prog.info? 27).map (·.size) = some 11 := by kernel_rfl
theorem setup_one (a : Option Addr) (m c : Nat) : ∀ u ∈ ([.int .i64 2, .int .i64 2, .int .i64 2, .int .i64 2, .int .i64 2, .int .i64 2, .int .i64 2, .int .i64 2, .int .i64 2, .int .u32 5, .slice a m c] : List Value), u.oneCell' = true := by
  intro u hu
  simp only [List.mem_cons, List.not_mem_nil, or_false] at hu
  rcases hu with rfl | rfl | rfl | rfl | rfl | rfl | rfl | rfl | rfl | rfl | rfl <;> rfl
/-- A row of peers does not lie in a setup's block. -/
theorem far_setup {W : World} {a : Option Addr} {ps : Peers} {B t : Nat} {vs : List Value} (h : CellsAt W a (cel ps)) (hne : ps ≠ []) (hB : Blk W B t vs) (hv : ∀ v ∈ vs, ∀ s, v ≠ .string s) : ∀ ad, a = some ad → ad.block ≠ B := by
  intro ad e he
  cases ps with
  | nil => exact hne rfl
  | cons p ps =>
    rcases h with h | ⟨b, o, ha, h⟩
    · cases h
    · have h0 := h 0 (.string p.1) rfl
      rw [e] at ha
      cases ha
      rw [show b = B from he, cell_of_row W B (o + 0) vs.toArray t (0, 0) hB] at h0
      exact hv (.string p.1) (List.mem_of_getElem? (by simpa using h0)) _ rfl
theorem no_str (i0 i1 i2 i3 i4 i5 i6 i7 i8 s : Int) (a : Option Addr) (m c : Nat) : ∀ v ∈ ([.int .i64 i0, .int .i64 i1, .int .i64 i2, .int .i64 i3, .int .i64 i4, .int .i64 i5, .int .i64 i6, .int .i64 i7, .int .i64 i8, .int .u32 s, .slice a m c] : List Value), ∀ x, v ≠ .string x := by
  intro u hu x
  simp only [List.mem_cons, List.not_mem_nil, or_false] at hu
  rcases hu with rfl | rfl | rfl | rfl | rfl | rfl | rfl | rfl | rfl | rfl | rfl <;> simp
theorem ca_setCells {a : Option Addr} {cs : List Value} {B : Nat} : ∀ (vs : List Value) (o : Nat) (W : World), CellsAt W a cs → (∀ ad, a = some ad → ad.block ≠ B) → CellsAt (W.setCells B o vs) a cs
  | [], o, w, h, _ => h
  | v :: vs, o, w, h, hne => ca_setCells vs (o + 1) _ (h.setFarG (p := ⟨B, o, none⟩) hne v) hne
structure BelowB (B : Nat) (w1 w : World) : Prop where
  b : Below B w1 w
  le : B ≤ w.heap.size
theorem BelowB.later {B : Nat} {w1 w w' : World} (h : BelowB B w1 w) (hb : Below w.heap.size w w') : BelowB B w1 w' := ⟨h.b.trans (hb.mono h.le), Nat.le_trans h.le hb.size⟩
/-- The string of one byte. -/
theorem conv_one (W : World) (k : Nat) (hk : k < 8) (b : Nat) (h : CellsAt W (some ⟨b, 0, none⟩) [.int .u8 (97 + (k : Int))]) : (convert 43 9 (.slice (some ⟨b, 0, none⟩) 1 1)).run Tryd.prog W = .ok (.string (nmk k)) W := by
  refine run_convert_bytes_back (P := Tryd.prog) _ _ _ 5 ⟨b, 0, none⟩ 1 [UInt8.ofNat (97 + k)] Tryd.underlying43 Tryd.underlying5 Tryd.underlying9 fun j hj => ?_
  obtain rfl : j = 0 := by simp at hj; omega
  have e : (([UInt8.ofNat (97 + k)][0]'hj).toNat : Int) = 97 + (k : Int) := by
    show ((UInt8.ofNat (97 + k)).toNat : Int) = _
    rw [UInt8.toNat_ofNat_of_lt' (by show 97 + k < 256; omega)]; omega
  rw [e]
  rcases h with h | ⟨b', o, e', h⟩
  · cases h
  · cases e'
    exact h 0 _ rfl
theorem with_full8 (a : Option Addr) (c : Nat) (w : World) (hS : SIn w 5 (fullP 8) a) :
    Calls Tryd.prog 21 #[.agg #[.int .i64 2, .int .i64 2, .int .i64 2, .int .i64 2, .int .i64 2, .int .i64 2, .int .i64 2, .int .i64 2, .int .i64 2, .int .u32 5, .slice a 8 c], .agg #[.string ⟨#[122]⟩, .int .u32 1]] w fun e w' =>
      (∃ a' c', e = .returned (.tuple #[.agg #[.int .i64 0, .int .i64 0, .int .i64 0, .int .i64 0, .int .i64 0, .int .i64 0, .int .i64 0, .int .i64 0, .int .i64 0, .int .u32 0, .slice a' 0 c'], .int .i64 18])) ∧ Below w.heap.size w w' := by
  have h := With_any 2 2 2 2 2 2 2 2 2 5 1 ⟨#[122]⟩ (fullP 8) a c w hS (by omega) (by omega) 0 (full_chk 8 (by omega))
  rw [full_len] at h
  refine h.mono ?_
  rintro e w' ⟨h1, hb⟩
  replace h1 := RetS.of h1 full_more
  obtain ⟨a', c', h3, h2⟩ := h1
  exact ⟨⟨a', c', h3⟩, hb⟩
set_option maxRecDepth 100000 in
set_option maxHeartbeats 20000000 in
theorem part54 (w wz : World) (hb : Below w.heap.size w wz) (htab : ∀ W, Below w.heap.size w W → Lib.TabIs Tryd.prog W "internal/strconv.uint64pow10" .u64 Lib.pow10Tab)
    (B7 B9 B18 B33 B37 c7 c9 c18 c33 c37 : Nat) (a7 a9 a18 a33 a37 : Option Addr) (g7 : GAt wz B7 [] a7 c7) (g9 : GAt wz B9 [(⟨#[98]⟩, 16)] a9 c9) (g18 : GAt wz B18 [(⟨#[98]⟩, 16)] a18 c18) (g33 : GAt wz B33 [(⟨#[97]⟩, 4), (⟨#[98]⟩, 16)] a33 c33) (g37 : GAt wz B37 [] a37 c37)
    (u0 u1 u2 u4 u5 u6 u12 u13 u14 u15 u16 u19 u21 u25 u27 u29 u31 u35 u39 u41 u42 u43 u44 u45 u46 u47 u48 u49 u50 u51 u52 u53 u54 u55 u56 u57 u58 u59 u60 u61 u62 u63 u64 u65 u66 u67 u68 u69 u70 u71 u72 u73 u74 u75 u76 u77 u78 u79 u80 u81 u82 u83 u84 u85 u86 u87 u88 u89 u90 u91 u92 u93 u94 u95 u96 u97 u98 u99 u100 u101 u102 u103 u104 u105 u106 u107 u108 u109 u110 u111 u112 u113 u114 u115 u116 u117 u118 u119 u120 u121 u122 u123 u124 u125 u126 u127 u128 u129 u130 u131 u132 u133 u134 u135 u136 u137 u138 u139 u140 u141 u142 u143 u144 u145 u146 u147 u148 u149 u150 u151 u152 u153 u154 u155 u156 u157 u158 u159 u160 u161 u162 u163 u164 u165 u166 u167 u168 u169 u170 u171 u172 u173 u174 u175 u176 u177 u178 u179 u180 u181 u182 u183 u184 u185 u186 u187 u188 u189 u190 u191 u192 u193 u194 u195 u196 u197 u198 u199 u200 u201 u202 u203 u204 u205 u206 u207 u208 u209 u210 u211 u212 u213 u214 u215 u216 u217 u218 u219 u220 u221 u222 u223 u224 u225 u226 u227 u228 u229 u230 u231 u232 u233 u234 u235 u236 u237 u238 u239 u240 u241 u242 u243 u244 u245 u246 u247 u248 u249 u250 u251 u252 u253 u254 u255 u256 u257 u258 u259 u260 u261 u262 u263 u264 u265 u266 u267 u268 u269 u270 u271 u272 u273 u274 u275 u276 u277 u278 u279 u280 u281 u282 u283 u284 u285 u286 u287 u288 u289 u290 u291 u292 u293 u294 u295 u296 u297 u298 u299 u300 u301 u302 u303 u304 u305 u306 u307 u308 u309 u310 u311 u312 u313 u314 u315 u316 u317 u318 u319 u320 u321 u322 u323 u324 u325 u326 u327 u328 u329 u330 u331 u332 u333 u334 u335 u336 u337 u338 u339 u340 u341 u342 u343 u344 u345 u346 u347 u348 u349 u350 u351 u352 u353 u354 u355 u356 u357 u358 u359 u360 u361 u362 u363 u364 u365 u366 u367 u368 u369 u370 u371 u372 u373 u374 u375 u376 u377 u378 u379 u380 u381 u382 u383 u384 u385 u386 u387 u388 u389 u390 u391 u392 u393 u394 u395 u396 u397 u398 u399 u400 u401 u402 u403 u404 u405 u406 u407 u408 u409 u410 u411 u412 u413 u414 u415 u416 u417 u418 u419 u420 u421 u422 u423 u424 u425 u426 u427 u428 u429 u430 u431 u432 u433 u434 u435 u436 u437 u438 u439 u440 u441 u442 u443 u444 u445 u446 u447 u448 u449 u450 u451 u452 u453 : Value) :
    Part w 54 { tmps := #[u0, u1, u2, .bool true, u4, u5, u6, .pointer (some ⟨B7, 0, none⟩), .int .i64 0, .pointer (some ⟨B9, 0, none⟩), .int .i64 0, .bool true, u12, u13, u14, u15, u16, .bool true, .pointer (some ⟨B18, 0, none⟩), u19, .int .i64 6, u21, .int .i64 6, .string ⟨#[]⟩, .int .i64 0, u25, .int .i64 8, u27, .int .i64 14, u29, .int .i64 14, u31, .int .i64 14, .pointer (some ⟨B33, 0, none⟩), .int .i64 0, u35, .int .i64 6, .pointer (some ⟨B37, 0, none⟩), .int .i64 0, u39, .int .i64 4, u41, u42, u43, u44, u45, u46, u47, u48, u49, u50, u51, u52, u53, u54, u55, u56, u57, u58, u59, u60, u61, u62, u63, u64, u65, u66, u67, u68, u69, u70, u71, u72, u73, u74, u75, u76, u77, u78, u79, u80, u81, u82, u83, u84, u85, u86, u87, u88, u89, u90, u91, u92, u93, u94, u95, u96, u97, u98, u99, u100, u101, u102, u103, u104, u105, u106, u107, u108, u109, u110, u111, u112, u113, u114, u115, u116, u117, u118, u119, u120, u121, u122, u123, u124, u125, u126, u127, u128, u129, u130, u131, u132, u133, u134, u135, u136, u137, u138, u139, u140, u141, u142, u143, u144, u145, u146, u147, u148, u149, u150, u151, u152, u153, u154, u155, u156, u157, u158, u159, u160, u161, u162, u163, u164, u165, u166, u167, u168, u169, u170, u171, u172, u173, u174, u175, u176, u177, u178, u179, u180, u181, u182, u183, u184, u185, u186, u187, u188, u189, u190, u191, u192, u193, u194, u195, u196, u197, u198, u199, u200, u201, u202, u203, u204, u205, u206, u207, u208, u209, u210, u211, u212, u213, u214, u215, u216, u217, u218, u219, u220, u221, u222, u223, u224, u225, u226, u227, u228, u229, u230, u231, u232, u233, u234, u235, u236, u237, u238, u239, u240, u241, u242, u243, u244, u245, u246, u247, u248, u249, u250, u251, u252, u253, u254, u255, u256, u257, u258, u259, u260, u261, u262, u263, u264, u265, u266, u267, u268, u269, u270, u271, u272, u273, u274, u275, u276, u277, u278, u279, u280, u281, u282, u283, u284, u285, u286, u287, u288, u289, u290, u291, u292, u293, u294, u295, u296, u297, u298, u299, u300, u301, u302, u303, u304, u305, u306, u307, u308, u309, u310, u311, u312, u313, u314, u315, u316, u317, u318, u319, u320, u321, u322, u323, u324, u325, u326, u327, u328, u329, u330, u331, u332, u333, u334, u335, u336, u337, u338, u339, u340, u341, u342, u343, u344, u345, u346, u347, u348, u349, u350, u351, u352, u353, u354, u355, u356, u357, u358, u359, u360, u361, u362, u363, u364, u365, u366, u367, u368, u369, u370, u371, u372, u373, u374, u375, u376, u377, u378, u379, u380, u381, u382, u383, u384, u385, u386, u387, u388, u389, u390, u391, u392, u393, u394, u395, u396, u397, u398, u399, u400, u401, u402, u403, u404, u405, u406, u407, u408, u409, u410, u411, u412, u413, u414, u415, u416, u417, u418, u419, u420, u421, u422, u423, u424, u425, u426, u427, u428, u429, u430, u431, u432, u433, u434, u435, u436, u437, u438, u439, u440, u441, u442, u443, u444, u445, u446, u447, u448, u449, u450, u451, u452, u453], defers := [] } wz := by
  unfold Part
  conv => arg 2; whnf
  have H_htab := Box.mk htab
  clear htab
  go_wp2_with fail
  with_reducible refine (given_any none 0 0 _).mono ?_
  rintro e w1 ⟨rfl, hc1⟩
  have hb1 : Below w.heap.size w w1 := bchain (by repeat' (first | with_reducible exact hb | with_reducible refine Below.drew ?_ | with_reducible refine below_drewN ?_ _ | with_reducible refine Below.alloc ?_ (by have := hb.size; first | (simp; done) | (simp; omega) | omega) _ | with_reducible refine Below.setCell ?_ (by first | (simp; done) | (simp; omega) | omega) _)) hc1
  have hst1 : Below wz.heap.size wz w1 := bchain (by repeat' (first | with_reducible exact Below.refl _ _ | with_reducible refine Below.drew ?_ | with_reducible refine below_drewN ?_ _ | with_reducible refine Below.alloc ?_ (by first | (simp; done) | (simp; omega) | omega) _ | with_reducible refine Below.setCell ?_ (by first | (simp; done) | (simp; omega) | omega) _)) hc1
  replace g7 := g7.later hst1
  replace g9 := g9.later hst1
  replace g18 := g18.later hst1
  replace g33 := g33.later hst1
  replace g37 := g37.later hst1
  clear hst1
  clear hc1 hb
  obtain ⟨B41, hB41⟩ : ∃ B, w1.heap.size = B := ⟨_, rfl⟩
  go_wp2_with fail
  try simp only [hB41]
  conv => arg 2; whnf
  go_upto_region 56 with fail
  have hbw1 := hb1
  refine wp_facts' (fun Wx => Below w.heap.size w Wx ∧ Below B41 w1 Wx ∧ Blk Wx B41 27 [.int .i64 2, .int .i64 2, .int .i64 2, .int .i64 2, .int .i64 2, .int .i64 2, .int .i64 2, .int .i64 2, .int .i64 2, .int .u32 5, .slice none 0 0] ∧ Blk Wx (B41 + 1) 24 (keyL.map (Value.int .u32))) ⟨(by repeat' (first | with_reducible exact hb1 | with_reducible refine Below.drew ?_ | with_reducible refine below_drewN ?_ _ | with_reducible refine Below.alloc ?_ (by have := hb1.size; first | (simp; done) | (simp; omega) | omega) _ | with_reducible refine Below.setCell ?_ (by first | (simp; done) | (simp; omega) | omega) _)), (by rw [← hB41]; exact ((Below.refl _ _).alloc (Nat.le_refl _) _).alloc (by simp) _), (Blk.newA w1 _ _ 27 [.int .i64 2, .int .i64 2, .int .i64 2, .int .i64 2, .int .i64 2, .int .i64 2, .int .i64 2, .int .i64 2, .int .i64 2, .int .u32 5, .slice none 0 0] hB41 rfl).alloc _, Blk.newA (w1.alloc _) _ _ 24 (keyL.map (Value.int .u32)) (by simp [hB41]) rfl⟩ ?_
  rintro w2 ⟨hb2, hbB, hX, hK⟩
  have G7 := fun W (h : Below B41 w1 W) => g7.later (hB41 ▸ h)
  have G9 := fun W (h : Below B41 w1 W) => g9.later (hB41 ▸ h)
  have G18 := fun W (h : Below B41 w1 W) => g18.later (hB41 ▸ h)
  have G33 := fun W (h : Below B41 w1 W) => g33.later (hB41 ▸ h)
  have G37 := fun W (h : Below B41 w1 W) => g37.later (hB41 ▸ h)
  have hwB : w.heap.size ≤ B41 := hB41 ▸ hb1.size
  have H_G7 := Box.mk G7
  have H_G9 := Box.mk G9
  have H_G18 := Box.mk G18
  have H_G33 := Box.mk G33
  have H_G37 := Box.mk G37
  clear G7 G9 G18 G33 G37
  go_wp2_with fail
  go_loopw [43] (fun i wr => ∃ (k : Nat) (a : Option Addr) (c : Nat), k ≤ 8 ∧ i = .int .i64 k ∧ Below w.heap.size w wr ∧ Below B41 w1 wr ∧ Blk wr B41 27 [.int .i64 2, .int .i64 2, .int .i64 2, .int .i64 2, .int .i64 2, .int .i64 2, .int .i64 2, .int .i64 2, .int .i64 2, .int .u32 5, .slice a k c] ∧ CellsAt wr a (cel (fullP k)) ∧ Blk wr (B41 + 1) 24 (keyL.map (Value.int .u32))) (fun i _ => 8 - (intOf i).toNat)
  case atStart => exact ⟨0, none, 0, by omega, rfl, hb2, hbB, hX, .inl rfl, hK⟩
  case round =>
    clear hX hK hbB hb2
    obtain ⟨k, a, c, hk, rfl, hbr, hbB, hX, hps, hK⟩ := hrel
    by_cases hlt : k < 8
    · have hkI : (k : Int) < 8 := by omega
      have hkz : (0 : Int) ≤ (k : Int) := by omega
      obtain ⟨y, hy⟩ : ∃ y, keyL[k]?.getD 0 = y := ⟨_, rfl⟩
      have hw := full_with k hlt
      rw [hy] at hw
      have hyr : 0 ≤ y ∧ y < 4294967296 := by
        have h8 : ∀ k : Fin 8, 0 ≤ keyL[k.val]?.getD 0 ∧ keyL[k.val]?.getD 0 < 4294967296 := by decide
        have := h8 ⟨k, hlt⟩
        simp only at this
        rw [hy] at this
        exact this
      have hchk := full_chk k hk
      have hSin : SIn wr 5 (fullP k) a := ⟨by decide, by decide, hps, (full_ok k hk).keys, by rw [full_len]; omega⟩
      obtain ⟨nm, hnm⟩ : ∃ nm, nmk k = nm := ⟨_, rfl⟩
      rw [hnm] at hw
      obtain ⟨ps2, hps2⟩ : ∃ ps2, fullP (k + 1) = ps2 := ⟨_, rfl⟩
      rw [hps2] at hw
      have hl2 : ps2.length = k + 1 := hps2 ▸ full_len (k + 1)
      have hps1 : ps2 ≠ [] := fun h => by rw [h] at hl2; cases hl2
      have hl1 : (fullP k).length = k := full_len k
      have hcvk : (97 + (k : Int)) < 128 := by omega
      have H_hw := Box.mk hw
      have H_hchk := Box.mk hchk
      have H_hnm := Box.mk hnm
      have H_hps2 := Box.mk hps2
      have H_hl2 := Box.mk hl2
      have H_hl1 := Box.mk hl1
      have H_hy := Box.mk hy
      have H_hyr := Box.mk hyr
      clear hw hchk hnm hps2 hl2 hl1 hy hyr
      have hBB : BelowB B41 w1 wr := ⟨hbB, Nat.le_of_lt hX.lt⟩
      clear hbB
      go_wp2_with fail
      refine wp_gen fun w21 hc21 => ?_
      have hb21 : Below w.heap.size w w21 := bchain (by repeat' (first | with_reducible exact hbr | with_reducible refine Below.drew ?_ | with_reducible refine below_drewN ?_ _ | with_reducible refine Below.alloc ?_ (by have := hbr.size; first | (simp; done) | (simp; omega) | omega) _ | with_reducible refine Below.setCell ?_ (by first | (simp; done) | (simp; omega) | omega) _)) hc21
      have hst21 : Below wr.heap.size wr w21 := bchain (by repeat' (first | with_reducible exact Below.refl _ _ | with_reducible refine Below.drew ?_ | with_reducible refine below_drewN ?_ _ | with_reducible refine Below.alloc ?_ (by first | (simp; done) | (simp; omega) | omega) _ | with_reducible refine Below.setCell ?_ (by first | (simp; done) | (simp; omega) | omega) _)) hc21
      replace hX := hX.later hst21
      replace hK := hK.later hst21
      replace hps := hps.later hst21
      replace hSin := hSin.later hst21
      replace hBB := hBB.later hst21
      clear hst21
      have KY := cell_on (hK.cellI (j := k) (by show k < 8; omega))
      rw [H_hy.out] at KY
      refine wp_region_on_spec [(4, [], fun _ => VAt2 1 [.int .u8 (97 + (k : Int))]), (5, [], fun _ => VIs (.string nm)), (11, [], fun _ => VWith (k + 1) ps2), (15, [], fun _ => VBlk2 w21.heap.size 27 [.int .i64 0, .int .i64 0, .int .i64 0, .int .i64 0, .int .i64 0, .int .i64 0, .int .i64 0, .int .i64 0, .int .i64 0, .int .u32 0, .slice none 0 0]), (16, [44], fun l => VWSt (k + 1) ps2 w21.heap.size (l.getD 0 undef))] [4, 5, 11, 15, 16] [16] [(4, []), (5, []), (11, []), (15, []), (16, [44])] (by kernel_rfl) (by kernel_rfl) rfl (by kernel_rfl) rfl (by kernel_rfl) ⟨fun _ => VAt2.last, fun _ => VIs.last, fun _ => VWith.last, fun _ => VBlk2.last, fun _ => VWSt.last, trivial⟩ ?_
      try simp only [List.take_succ_cons, List.take_zero, List.drop_succ_cons, List.drop_zero]
      refine wpSpec_quiet 4 (by kernel_rfl) (by kernel_rfl) ?_
      simp only [List.take_succ_cons, List.take_zero, List.drop_succ_cons, List.drop_zero]
      repeat (first | (refine wpQuiet_load_blk (by first | rfl | (simp [Region.wanted]; done)) 27 _ rfl (B41) (by rfl) 27 _ _ hX Tryd.underlying27 rfl infoS ?_; simp only [Act.put, List.setIfInBounds_toArray, List.set_cons_succ, List.set_cons_zero]) | (go_big_quiet_step (fail)))
      refine wpQuiet_nil ?_
      show wpSpec _ _ _ _ _ _ _ _ _ _ _
      refine wpSpec_at [] (VAt2 1 [.int .u8 (97 + (k : Int))]) rfl (by first | rfl | (simp [viewS, Act.eval]; done)) rfl (by first | rfl | (simp [Region.wanted]; done)) ?_ rfl ?_
      · intro wq hq hfq
        clear hfq
        unfold Oper.gives; go_simp
        exact ⟨(Below.refl _ _).alloc (Nat.le_refl _) _, _, rfl, (Blk.newA wq _ _ 5 [.int .u8 (97 + (k : Int))] rfl rfl).cellsAt2⟩
      rintro x4 ⟨_, ⟨b4, rfl, _⟩⟩
      simp only [Act.put, List.setIfInBounds_toArray, List.set_cons_succ, List.set_cons_zero]
      refine wpSpec_at [] (VIs (.string nm)) rfl (by first | rfl | (simp [viewS, Act.eval]; done)) rfl (by first | rfl | (simp [Region.wanted]; done)) ?_ rfl ?_
      · intro wq hq hfq
        have f4 := hfq 4 (by kernel_rfl)
        simp only [upd, Nat.beq, cond] at f4
        clear hfq
        obtain ⟨b4', e4, k4⟩ := f4
        cases e4
        have hcv := conv_one wq k hlt b4 k4
        rw [H_hnm.out] at hcv
        unfold Oper.gives; go_simp
        exact ⟨Below.refl _ _, rfl⟩
      rintro x5 ⟨_, ⟨rfl⟩⟩
      simp only [Act.put, List.setIfInBounds_toArray, List.set_cons_succ, List.set_cons_zero]
      refine wpSpec_quiet 5 (by kernel_rfl) (by kernel_rfl) ?_
      simp only [List.take_succ_cons, List.take_zero, List.drop_succ_cons, List.drop_zero]
      repeat (first | (refine wpQuiet_load_blk (by first | rfl | (simp [Region.wanted]; done)) 27 _ rfl (B41) (by rfl) 27 _ _ hX Tryd.underlying27 rfl infoS ?_; simp only [Act.put, List.setIfInBounds_toArray, List.set_cons_succ, List.set_cons_zero]) | (go_big_quiet_step (fail)))
      refine wpQuiet_nil ?_
      show wpSpec _ _ _ _ _ _ _ _ _ _ _
      refine wpSpec_at [] (VWith (k + 1) ps2) rfl (by first | rfl | (simp [viewS, Act.eval]; done)) rfl (by first | rfl | (simp [Region.wanted]; done)) ?_ rfl ?_
      · intro wq hq hfq
        clear hfq
        refine gives_call 21 _ _ #[.agg #[.int .i64 2, .int .i64 2, .int .i64 2, .int .i64 2, .int .i64 2, .int .i64 2, .int .i64 2, .int .i64 2, .int .i64 2, .int .u32 5, .slice a k c], .agg #[.string nm, .int .u32 y]] rfl (by kernel_rfl) (by simp [Act.eval]) ?_
        have h := With_any 2 2 2 2 2 2 2 2 2 5 y nm (fullP k) a c _ (hSin.later hq) H_hyr.out.1 H_hyr.out.2 0 H_hchk.out
        rw [H_hl1.out] at h
        refine h.mono ?_
        rintro e w' ⟨h1, hb⟩
        replace h1 := RetS.of h1 H_hw.out
        obtain ⟨a', c', h3, h2⟩ := h1
        refine ⟨_, h3, hb, a', c', ?_, h2⟩
        show Value.tuple #[.agg #[.int .i64 2, .int .i64 2, .int .i64 2, .int .i64 2, .int .i64 2, .int .i64 2, .int .i64 2, .int .i64 2, .int .i64 2, .int .u32 5, .slice a' ps2.length c'], .int .i64 0] = _
        rw [H_hl2.out]
      rintro x11 ⟨_, ⟨a1, c1, rfl, _⟩⟩
      simp only [Act.put, List.setIfInBounds_toArray, List.set_cons_succ, List.set_cons_zero]
      refine wpSpec_quiet 3 (by kernel_rfl) (by kernel_rfl) ?_
      simp only [List.take_succ_cons, List.take_zero, List.drop_succ_cons, List.drop_zero]
      repeat (first | (refine wpQuiet_load_blk (by first | rfl | (simp [Region.wanted]; done)) 27 _ rfl (B41) (by rfl) 27 _ _ hX Tryd.underlying27 rfl infoS ?_; simp only [Act.put, List.setIfInBounds_toArray, List.set_cons_succ, List.set_cons_zero]) | (go_big_quiet_step (fail)))
      refine wpQuiet_nil ?_
      show wpSpec _ _ _ _ _ _ _ _ _ _ _
      refine wpSpec_at [] (VBlk2 w21.heap.size 27 [.int .i64 0, .int .i64 0, .int .i64 0, .int .i64 0, .int .i64 0, .int .i64 0, .int .i64 0, .int .i64 0, .int .i64 0, .int .u32 0, .slice none 0 0]) rfl (by first | rfl | (simp [viewS, Act.eval]; done)) rfl (by first | rfl | (simp [Region.wanted]; done)) ?_ rfl ?_
      · intro wq hq hfq
        clear hfq
        unfold Oper.gives; go_simp; exact ⟨(Below.refl _ _).alloc (Nat.le_refl _) _, _, rfl, hq.size, Blk.newA _ _ _ _ _ rfl rfl⟩
      rintro x15 ⟨_, ⟨b44, rfl, hb15, _⟩⟩
      simp only [Act.put, List.setIfInBounds_toArray, List.set_cons_succ, List.set_cons_zero]
      refine wpSpec_atD [.pointer (some ⟨b44, 0, none⟩)] (VWSt (k + 1) ps2 w21.heap.size (.pointer (some ⟨b44, 0, none⟩))) rfl (by first | rfl | (simp [viewS, Act.eval]; done)) rfl (by first | rfl | (simp [Region.wanted]; done)) ?_ rfl ?_
      · intro wq hq hfq
        have f11 := hfq 11 (by kernel_rfl)
        have f15 := hfq 15 (by kernel_rfl)
        simp only [upd, Nat.beq, cond] at f11 f15
        clear hfq
        obtain ⟨a', c', e11, k11⟩ := f11
        cases e11
        obtain ⟨b', e15, hb15, B15⟩ := f15
        cases e15
        refine gives_store_blk 27 _ _ rfl b44 rfl 27 _ [.int .i64 2, .int .i64 2, .int .i64 2, .int .i64 2, .int .i64 2, .int .i64 2, .int .i64 2, .int .i64 2, .int .i64 2, .int .u32 5, .slice a1 (k + 1) c1] rfl B15 rfl infoS (setup_one _ _ _) fun hS => ?_
        exact ⟨below_setCells hb15 _ _ _ (Below.refl _ _), b44, a1, c1, rfl, hb15, hS, ca_setCells _ _ _ k11 (far_setup k11 hps1 B15 (no_str _ _ _ _ _ _ _ _ _ _ _ _ _))⟩
      rintro x16 -
      simp only [Act.put, List.setIfInBounds_toArray, List.set_cons_succ, List.set_cons_zero]
      refine wpSpec_quiet 1 (by kernel_rfl) (by kernel_rfl) ?_
      simp only [List.take_succ_cons, List.take_zero, List.drop_succ_cons, List.drop_zero]
      repeat (first | (refine wpQuiet_load_blk (by first | rfl | (simp [Region.wanted]; done)) 27 _ rfl (B41) (by rfl) 27 _ _ hX Tryd.underlying27 rfl infoS ?_; simp only [Act.put, List.setIfInBounds_toArray, List.set_cons_succ, List.set_cons_zero]) | (go_big_quiet_step (fail)))
      refine wpQuiet_nil ?_
      show wpSpec _ _ _ _ _ _ _ _ _ _ _
      intro w22 hc22 hfq
      have f16 := hfq 16
      simp only [upd, Nat.beq, cond] at f16
      clear hfq
      have hb22 : Below w.heap.size w w22 := bchain (by repeat' (first | with_reducible exact hb21 | with_reducible refine Below.drew ?_ | with_reducible refine below_drewN ?_ _ | with_reducible refine Below.alloc ?_ (by have := hb21.size; first | (simp; done) | (simp; omega) | omega) _ | with_reducible refine Below.setCell ?_ (by first | (simp; done) | (simp; omega) | omega) _)) hc22
      have hst22 : Below w21.heap.size w21 w22 := bchain (by repeat' (first | with_reducible exact Below.refl _ _ | with_reducible refine Below.drew ?_ | with_reducible refine below_drewN ?_ _ | with_reducible refine Below.alloc ?_ (by first | (simp; done) | (simp; omega) | omega) _ | with_reducible refine Below.setCell ?_ (by first | (simp; done) | (simp; omega) | omega) _)) hc22
      replace hX := hX.later hst22
      replace hK := hK.later hst22
      replace hps := hps.later hst22
      replace hSin := hSin.later hst22
      replace hBB := hBB.later hst22
      clear hst22
      obtain ⟨b', a2, c2, e44, hb44, hX44, hp2⟩ := f16
      cases e44
      go_upto_region 58 with (first | (refine wpList_load_blk rfl 27 _ rfl b44 (by rfl) 27 _ _ hX44 Tryd.underlying27 rfl infoS ?_) | (refine wpList_store_blk rfl 27 _ _ rfl B41 (by rfl) 27 _ [.int .i64 2, .int .i64 2, .int .i64 2, .int .i64 2, .int .i64 2, .int .i64 2, .int .i64 2, .int .i64 2, .int .i64 2, .int .u32 5, .slice a2 (k + 1) c2] (by rfl) hX rfl infoS (setup_one _ _ _) ?_; intro wB hXB he; have HE := hid he; clear he))
      have hbW : Below w.heap.size w wB := HE.out ▸ below_setCells hwB _ _ _ hb22
      have hbB2 : Below B41 w1 wB := HE.out ▸ below_setCells (Nat.le_refl _) _ _ _ hBB.b
      have hKB : Blk wB (B41 + 1) 24 (keyL.map (Value.int .u32)) := HE.out ▸ Blk.setCellsFar (by omega) _ _ _ hK
      have hpB : CellsAt wB a2 (cel (fullP (k + 1))) := by
        rw [H_hps2.out]
        exact HE.out ▸ ca_setCells _ _ _ hp2 (far_setup hp2 hps1 hX (no_str _ _ _ _ _ _ _ _ _ _ _ _ _))
      clear hX44 hp2 hX hK hBB HE
      go_wp2_with fail
      go_roundw
      case rel => exact ⟨k + 1, a2, c2, by omega, by go_num, hbW, hbB2, hXB, hpB, hKB⟩
      case measure => simp [intOf]; omega
    · obtain rfl : k = 8 := by omega
      have g7 := H_G7.out wr hbB
      have g9 := H_G9.out wr hbB
      have g18 := H_G18.out wr hbB
      have g33 := H_G33.out wr hbB
      have g37 := H_G37.out wr hbB
      have hSin : SIn wr 5 (fullP 8) a := ⟨by decide, by decide, hps, (full_ok 8 hk).keys, by rw [full_len]; omega⟩
      clear hK hbB hps
      go_upto_region 63 with fail
      go_wp2_with (refine wpList_load_blk rfl 27 _ rfl B41 (by rfl) 27 _ _ hX Tryd.underlying27 rfl infoS ?_)
      go_wp2_with fail
      with_reducible refine (with_full8 _ _ _ hSin).mono ?_
      rintro e w41 ⟨⟨a', c', rfl⟩, hc41⟩
      have hb41 : Below w.heap.size w w41 := bchain (by repeat' (first | with_reducible exact hbr | with_reducible refine Below.drew ?_ | with_reducible refine below_drewN ?_ _ | with_reducible refine Below.alloc ?_ (by have := hbr.size; first | (simp; done) | (simp; omega) | omega) _ | with_reducible refine Below.setCell ?_ (by first | (simp; done) | (simp; omega) | omega) _)) hc41
      have hst41 : Below wr.heap.size wr w41 := bchain (by repeat' (first | with_reducible exact Below.refl _ _ | with_reducible refine Below.drew ?_ | with_reducible refine below_drewN ?_ _ | with_reducible refine Below.alloc ?_ (by first | (simp; done) | (simp; omega) | omega) _ | with_reducible refine Below.setCell ?_ (by first | (simp; done) | (simp; omega) | omega) _)) hc41
      replace g7 := g7.later hst41
      replace g9 := g9.later hst41
      replace g18 := g18.later hst41
      replace g33 := g33.later hst41
      replace g37 := g37.later hst41
      replace hSin := hSin.later hst41
      replace hX := hX.later hst41
      clear hst41
      clear hc41 hbr
      go_upto_region 64 with (fail)
      refine wp_gen fun w42 hc42 => ?_
      have hb42 : Below w.heap.size w w42 := bchain (by repeat' (first | with_reducible exact hb41 | with_reducible refine Below.drew ?_ | with_reducible refine below_drewN ?_ _ | with_reducible refine Below.alloc ?_ (by have := hb41.size; first | (simp; done) | (simp; omega) | omega) _ | with_reducible refine Below.setCell ?_ (by first | (simp; done) | (simp; omega) | omega) _)) hc42
      have hst42 : Below w41.heap.size w41 w42 := bchain (by repeat' (first | with_reducible exact Below.refl _ _ | with_reducible refine Below.drew ?_ | with_reducible refine below_drewN ?_ _ | with_reducible refine Below.alloc ?_ (by first | (simp; done) | (simp; omega) | omega) _ | with_reducible refine Below.setCell ?_ (by first | (simp; done) | (simp; omega) | omega) _)) hc42
      replace g7 := g7.later hst42
      replace g9 := g9.later hst42
      replace g18 := g18.later hst42
      replace g33 := g33.later hst42
      replace g37 := g37.later hst42
      clear hst42
      clear hc42 hb41
      exact glue ‹_› (part64 w _ hb42 H_htab.out B7 B9 B18 B33 B37 c7 c9 c18 c33 c37 a7 a9 a18 a33 a37 g7 g9 g18 g33 g37 _ _ _ _ _ _ _ _ _ _ _ _ _ _ _ _ _ _ _ _ _ _ _ _ _ _ _ _ _ _ _ _ _ _ _ _ _ _ _ _ _ _ _ _ _ _ _ _ _ _ _ _ _ _ _ _ _ _ _ _ _ _ _ _ _ _ _ _ _ _ _ _ _ _ _ _ _ _ _ _ _ _ _ _ _ _ _ _ _ _ _ _ _ _ _ _ _ _ _ _ _ _ _ _ _ _ _ _ _ _ _ _ _ _ _ _ _ _ _ _ _ _ _ _ _ _ _ _ _ _ _ _ _ _ _ _ _ _ _ _ _ _ _ _ _ _ _ _ _ _ _ _ _ _ _ _ _ _ _ _ _ _ _ _ _ _ _ _ _ _ _ _ _ _ _ _ _ _ _ _ _ _ _ _ _ _ _ _ _ _ _ _ _ _ _ _ _ _ _ _ _ _ _ _ _ _ _ _ _ _ _ _ _ _ _ _ _ _ _ _ _ _ _ _ _ _ _ _ _ _ _ _ _ _ _ _ _ _ _ _ _ _ _ _ _ _ _ _ _ _ _ _ _ _ _ _ _ _ _ _ _ _ _ _ _ _ _ _ _ _ _ _ _ _ _ _ _ _ _ _ _ _ _ _ _ _ _ _ _ _ _ _ _ _ _ _ _ _ _ _ _ _ _ _ _ _ _ _ _ _ _ _ _ _ _ _ _ _ _ _ _ _ _ _ _ _ _ _ _ _ _ _ _ _ _ _ _ _ _ _ _ _ _ _ _ _ _ _ _ _ _ _ _ _ _ _ _ _ _ _ _ _ _ _ _ _ _ _ _ _ _ _ _ _ _ _ _ _ _ _ _ _ _ _ _ _ _ _ _ _ _ _ _ _ _ _ _ _ _ _ _ _ _ _ _ _ _ _ _ _ _ _ _ _ _ _ _ _ _ _ _ _ _ _ _ _ _ _ _ _ _)
end Go.Proofs.YthdldmkeoglflaaDoor
