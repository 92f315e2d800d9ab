/- DigestOn: the law's function returns true. -/
import Derived.Test.YtlilodfddojlhaaDoorDigPieceW
import Derived.Test.YtlilodfddojlhaaDoorRegOrd
import Derived.Test.YtlilodfddojlhaaDoorAppTwo
import Derived.Test.YtlilodfddojlhaaDoorFastLex
import Derived.Test.YtlilodfddojlhaaDoorDigOpen
namespace Go.Proofs.YtlilodfddojlhaaDoor
set_option linter.unusedSimpArgs false
set_option linter.unusedVariables false
set_option linter.unnecessarySimpa false
open Go.RowKit

/-- Add, of words with whole blocks before them. -/
theorem add_on (v0 : V8) (h0 : v0.ok) (k : Nat) (hk : k ≤ 3000) (bs ys xs : List Int) {u u2 : V8} (hu : u.list = mill v0.list bs) (hx : xs = bs ++ ys) (hu2 : u2.list = mill v0.list xs) (N M rn m : Nat) (hN : N = 64 * k + bs.length) (hM : M = 64 * k + xs.length) (hrn : rn = (restL bs).length) (hm : m = (restL xs).length) (ra ba : Option Addr) (rc bn bc : Nat) (w : World) (hbn : bn = ys.length)
    (hr : CellsAt w ra ((restL bs).map (Value.int .u8))) (hy : CellsAt w ba (ys.map (Value.int .u8))) (hb8 : Bytes8 bs) (hy8 : Bytes8 ys) (hK : CellsAt w (some ⟨0, 0, none⟩) (kcs.map (Value.int .u32))) (hw0 : 0 < w.heap.size) (hl : xs.length ≤ 8000) :
    Calls Tryd.prog 9 #[.agg #[.int .u32 u.a, .int .u32 u.b, .int .u32 u.c, .int .u32 u.d, .int .u32 u.e, .int .u32 u.f, .int .u32 u.g, .int .u32 u.z, .slice ra rn rc, .int .i64 N], .slice ba bn bc] w fun e w' =>
      MillE w.heap.size u2 m (restL xs) M w' e ∧ Below w.heap.size w w' := by
  have hlen := hl
  rw [hx, List.length_append, ← hbn] at hlen
  have hrl := restL_len bs
  rw [← hrn] at hrl
  have H1 := hid (show vdB N rn = true by unfold vdB; simp; omega)
  have hN1 : (N : Int) ≤ 200000 := by omega
  have h3 : (bn : Int) ≤ 200000 - N := by omega
  have HMN := hid (show (M : Int) = (N : Int) + (bn : Int) by rw [hM, hx, List.length_append, hN, hbn]; omega)
  have hsum : rn + bn ≤ 140737488355327 := by omega
  have HVK := hid (mill_ok h0 bs hu)
  have hr8 := hb8.rest
  have H2 : Hid (∀ a c m2 w', m2 = (restL bs ++ ys).length % 64 → OwnX w' w.heap.size 5 1 (.slice a m2 c) m2 (((restL bs ++ ys).drop ((restL bs ++ ys).length / 64 * 64)).map (Value.int .u8)) → m2 = m ∧ OwnX w' w.heap.size 5 1 (.slice a m c) m ((restL xs).map (Value.int .u8))) := hid fun a c m2 w' h o => by
    have e1 : restL (restL bs ++ ys) = restL xs := by rw [hx]; exact restL_append bs ys
    have e2 : m2 = m := by rw [h, hm, ← e1, restL_len]
    subst e2
    refine ⟨rfl, ?_⟩
    rw [← e1]
    exact o
  have H3 : Hid (∀ u', V8.list u' = mill u.list (restL bs ++ ys) → u' = u2) := hid fun u' h => V8.inj (by rw [h, hu, mill_append, hu2, hx])
  obtain ⟨rs, hrs⟩ : ∃ rs, rs = restL bs := ⟨_, rfl⟩
  rw [← hrs] at H2 H3 hr hr8 hrn
  have HRN := hid hrn
  have HBN := hid hbn
  clear hrn hbn hrs hm hM hu hx hu2 hl hlen hrl hN
  go_enter Tryd.func9, Tryd.ntmps9
  have hb0 := Below.refl w.heap.size w
  go_wp2_with fail
  with_reducible refine (valid_any u ra rn rc N _).mono ?_
  rintro e w1 ⟨rfl, hc1⟩
  have hr1 : CellsAt w1 ra (rs.map (Value.int .u8)) := hr.later (bchain (by repeat' (first | with_reducible exact hb0 | with_reducible refine Below.drew ?_ | with_reducible refine below_drewN ?_ _ | with_reducible refine Below.alloc ?_ (by have := hb0.size; first | (simp; done) | (simp; omega) | omega) _ | with_reducible refine Below.setCell ?_ (by first | (simp; done) | (simp; omega) | omega) _)) hc1)
  have hy1 : CellsAt w1 ba (ys.map (Value.int .u8)) := hy.later (bchain (by repeat' (first | with_reducible exact hb0 | with_reducible refine Below.drew ?_ | with_reducible refine below_drewN ?_ _ | with_reducible refine Below.alloc ?_ (by have := hb0.size; first | (simp; done) | (simp; omega) | omega) _ | with_reducible refine Below.setCell ?_ (by first | (simp; done) | (simp; omega) | omega) _)) hc1)
  have hK1 : CellsAt w1 (some ⟨0, 0, none⟩) (kcs.map (Value.int .u32)) := hK.later (bchain (by repeat' (first | with_reducible exact hb0 | with_reducible refine Below.drew ?_ | with_reducible refine below_drewN ?_ _ | with_reducible refine Below.alloc ?_ (by have := hb0.size; first | (simp; done) | (simp; omega) | omega) _ | with_reducible refine Below.setCell ?_ (by first | (simp; done) | (simp; omega) | omega) _)) hc1)
  have hw1 : 0 < w1.heap.size := Nat.lt_of_lt_of_le hw0 (bchain (by repeat' (first | with_reducible exact hb0 | with_reducible refine Below.drew ?_ | with_reducible refine below_drewN ?_ _ | with_reducible refine Below.alloc ?_ (by have := hb0.size; first | (simp; done) | (simp; omega) | omega) _ | with_reducible refine Below.setCell ?_ (by first | (simp; done) | (simp; omega) | omega) _)) hc1).size
  have hb1 : Below w.heap.size w w1 := bchain (by repeat' (first | with_reducible exact hb0 | with_reducible refine Below.drew ?_ | with_reducible refine below_drewN ?_ _ | with_reducible refine Below.alloc ?_ (by have := hb0.size; first | (simp; done) | (simp; omega) | omega) _ | with_reducible refine Below.setCell ?_ (by first | (simp; done) | (simp; omega) | omega) _)) hc1
  have M_0 : w1.cell? ⟨w.heap.size, 0, none⟩ = some (.int .u32 u.a) := (hc1.cell (p := ⟨w.heap.size, 0, none⟩) (by first | (simp; done) | (simp; omega))).trans (by first | (simp; done) | go_simp)
  have M_1 : w1.cell? ⟨w.heap.size, 1, none⟩ = some (.int .u32 u.b) := (hc1.cell (p := ⟨w.heap.size, 1, none⟩) (by first | (simp; done) | (simp; omega))).trans (by first | (simp; done) | go_simp)
  have M_2 : w1.cell? ⟨w.heap.size, 2, none⟩ = some (.int .u32 u.c) := (hc1.cell (p := ⟨w.heap.size, 2, none⟩) (by first | (simp; done) | (simp; omega))).trans (by first | (simp; done) | go_simp)
  have M_3 : w1.cell? ⟨w.heap.size, 3, none⟩ = some (.int .u32 u.d) := (hc1.cell (p := ⟨w.heap.size, 3, none⟩) (by first | (simp; done) | (simp; omega))).trans (by first | (simp; done) | go_simp)
  have M_4 : w1.cell? ⟨w.heap.size, 4, none⟩ = some (.int .u32 u.e) := (hc1.cell (p := ⟨w.heap.size, 4, none⟩) (by first | (simp; done) | (simp; omega))).trans (by first | (simp; done) | go_simp)
  have M_5 : w1.cell? ⟨w.heap.size, 5, none⟩ = some (.int .u32 u.f) := (hc1.cell (p := ⟨w.heap.size, 5, none⟩) (by first | (simp; done) | (simp; omega))).trans (by first | (simp; done) | go_simp)
  have M_6 : w1.cell? ⟨w.heap.size, 6, none⟩ = some (.int .u32 u.g) := (hc1.cell (p := ⟨w.heap.size, 6, none⟩) (by first | (simp; done) | (simp; omega))).trans (by first | (simp; done) | go_simp)
  have M_7 : w1.cell? ⟨w.heap.size, 7, none⟩ = some (.int .u32 u.z) := (hc1.cell (p := ⟨w.heap.size, 7, none⟩) (by first | (simp; done) | (simp; omega))).trans (by first | (simp; done) | go_simp)
  have M_8 : w1.cell? ⟨w.heap.size, 8, none⟩ = some (.slice ra rn rc) := (hc1.cell (p := ⟨w.heap.size, 8, none⟩) (by first | (simp; done) | (simp; omega))).trans (by first | (simp; done) | go_simp)
  have M_9 : w1.cell? ⟨w.heap.size, 9, none⟩ = some (.int .i64 N) := (hc1.cell (p := ⟨w.heap.size, 9, none⟩) (by first | (simp; done) | (simp; omega))).trans (by first | (simp; done) | go_simp)
  have M_f0 : w1.frozen? ⟨w.heap.size, 0, none⟩ = false := (hc1.frozen (p := ⟨w.heap.size, 0, none⟩) (by first | (simp; done) | (simp; omega))).trans (by first | (simp; done) | go_simp)
  have M_f1 : w1.frozen? ⟨w.heap.size, 1, none⟩ = false := (hc1.frozen (p := ⟨w.heap.size, 1, none⟩) (by first | (simp; done) | (simp; omega))).trans (by first | (simp; done) | go_simp)
  have M_f2 : w1.frozen? ⟨w.heap.size, 2, none⟩ = false := (hc1.frozen (p := ⟨w.heap.size, 2, none⟩) (by first | (simp; done) | (simp; omega))).trans (by first | (simp; done) | go_simp)
  have M_f3 : w1.frozen? ⟨w.heap.size, 3, none⟩ = false := (hc1.frozen (p := ⟨w.heap.size, 3, none⟩) (by first | (simp; done) | (simp; omega))).trans (by first | (simp; done) | go_simp)
  have M_f4 : w1.frozen? ⟨w.heap.size, 4, none⟩ = false := (hc1.frozen (p := ⟨w.heap.size, 4, none⟩) (by first | (simp; done) | (simp; omega))).trans (by first | (simp; done) | go_simp)
  have M_f5 : w1.frozen? ⟨w.heap.size, 5, none⟩ = false := (hc1.frozen (p := ⟨w.heap.size, 5, none⟩) (by first | (simp; done) | (simp; omega))).trans (by first | (simp; done) | go_simp)
  have M_f6 : w1.frozen? ⟨w.heap.size, 6, none⟩ = false := (hc1.frozen (p := ⟨w.heap.size, 6, none⟩) (by first | (simp; done) | (simp; omega))).trans (by first | (simp; done) | go_simp)
  have M_f7 : w1.frozen? ⟨w.heap.size, 7, none⟩ = false := (hc1.frozen (p := ⟨w.heap.size, 7, none⟩) (by first | (simp; done) | (simp; omega))).trans (by first | (simp; done) | go_simp)
  have M_f8 : w1.frozen? ⟨w.heap.size, 8, none⟩ = false := (hc1.frozen (p := ⟨w.heap.size, 8, none⟩) (by first | (simp; done) | (simp; omega))).trans (by first | (simp; done) | go_simp)
  have M_f9 : w1.frozen? ⟨w.heap.size, 9, none⟩ = false := (hc1.frozen (p := ⟨w.heap.size, 9, none⟩) (by first | (simp; done) | (simp; omega))).trans (by first | (simp; done) | go_simp)
  have M_l : w.heap.size < w1.heap.size := Nat.lt_of_lt_of_le (by first | (simp; done) | (simp; omega)) hc1.size
  have R_0 : w1.cell? ⟨w.heap.size + 1, 0, none⟩ = some (.int .u32 0) := (hc1.cell (p := ⟨w.heap.size + 1, 0, none⟩) (by first | (simp; done) | (simp; omega))).trans (by first | (simp; done) | go_simp)
  have R_1 : w1.cell? ⟨w.heap.size + 1, 1, none⟩ = some (.int .u32 0) := (hc1.cell (p := ⟨w.heap.size + 1, 1, none⟩) (by first | (simp; done) | (simp; omega))).trans (by first | (simp; done) | go_simp)
  have R_2 : w1.cell? ⟨w.heap.size + 1, 2, none⟩ = some (.int .u32 0) := (hc1.cell (p := ⟨w.heap.size + 1, 2, none⟩) (by first | (simp; done) | (simp; omega))).trans (by first | (simp; done) | go_simp)
  have R_3 : w1.cell? ⟨w.heap.size + 1, 3, none⟩ = some (.int .u32 0) := (hc1.cell (p := ⟨w.heap.size + 1, 3, none⟩) (by first | (simp; done) | (simp; omega))).trans (by first | (simp; done) | go_simp)
  have R_4 : w1.cell? ⟨w.heap.size + 1, 4, none⟩ = some (.int .u32 0) := (hc1.cell (p := ⟨w.heap.size + 1, 4, none⟩) (by first | (simp; done) | (simp; omega))).trans (by first | (simp; done) | go_simp)
  have R_5 : w1.cell? ⟨w.heap.size + 1, 5, none⟩ = some (.int .u32 0) := (hc1.cell (p := ⟨w.heap.size + 1, 5, none⟩) (by first | (simp; done) | (simp; omega))).trans (by first | (simp; done) | go_simp)
  have R_6 : w1.cell? ⟨w.heap.size + 1, 6, none⟩ = some (.int .u32 0) := (hc1.cell (p := ⟨w.heap.size + 1, 6, none⟩) (by first | (simp; done) | (simp; omega))).trans (by first | (simp; done) | go_simp)
  have R_7 : w1.cell? ⟨w.heap.size + 1, 7, none⟩ = some (.int .u32 0) := (hc1.cell (p := ⟨w.heap.size + 1, 7, none⟩) (by first | (simp; done) | (simp; omega))).trans (by first | (simp; done) | go_simp)
  have R_8 : w1.cell? ⟨w.heap.size + 1, 8, none⟩ = some (.slice none 0 0) := (hc1.cell (p := ⟨w.heap.size + 1, 8, none⟩) (by first | (simp; done) | (simp; omega))).trans (by first | (simp; done) | go_simp)
  have R_9 : w1.cell? ⟨w.heap.size + 1, 9, none⟩ = some (.int .i64 0) := (hc1.cell (p := ⟨w.heap.size + 1, 9, none⟩) (by first | (simp; done) | (simp; omega))).trans (by first | (simp; done) | go_simp)
  have R_f0 : w1.frozen? ⟨w.heap.size + 1, 0, none⟩ = false := (hc1.frozen (p := ⟨w.heap.size + 1, 0, none⟩) (by first | (simp; done) | (simp; omega))).trans (by first | (simp; done) | go_simp)
  have R_f1 : w1.frozen? ⟨w.heap.size + 1, 1, none⟩ = false := (hc1.frozen (p := ⟨w.heap.size + 1, 1, none⟩) (by first | (simp; done) | (simp; omega))).trans (by first | (simp; done) | go_simp)
  have R_f2 : w1.frozen? ⟨w.heap.size + 1, 2, none⟩ = false := (hc1.frozen (p := ⟨w.heap.size + 1, 2, none⟩) (by first | (simp; done) | (simp; omega))).trans (by first | (simp; done) | go_simp)
  have R_f3 : w1.frozen? ⟨w.heap.size + 1, 3, none⟩ = false := (hc1.frozen (p := ⟨w.heap.size + 1, 3, none⟩) (by first | (simp; done) | (simp; omega))).trans (by first | (simp; done) | go_simp)
  have R_f4 : w1.frozen? ⟨w.heap.size + 1, 4, none⟩ = false := (hc1.frozen (p := ⟨w.heap.size + 1, 4, none⟩) (by first | (simp; done) | (simp; omega))).trans (by first | (simp; done) | go_simp)
  have R_f5 : w1.frozen? ⟨w.heap.size + 1, 5, none⟩ = false := (hc1.frozen (p := ⟨w.heap.size + 1, 5, none⟩) (by first | (simp; done) | (simp; omega))).trans (by first | (simp; done) | go_simp)
  have R_f6 : w1.frozen? ⟨w.heap.size + 1, 6, none⟩ = false := (hc1.frozen (p := ⟨w.heap.size + 1, 6, none⟩) (by first | (simp; done) | (simp; omega))).trans (by first | (simp; done) | go_simp)
  have R_f7 : w1.frozen? ⟨w.heap.size + 1, 7, none⟩ = false := (hc1.frozen (p := ⟨w.heap.size + 1, 7, none⟩) (by first | (simp; done) | (simp; omega))).trans (by first | (simp; done) | go_simp)
  have R_f8 : w1.frozen? ⟨w.heap.size + 1, 8, none⟩ = false := (hc1.frozen (p := ⟨w.heap.size + 1, 8, none⟩) (by first | (simp; done) | (simp; omega))).trans (by first | (simp; done) | go_simp)
  have R_f9 : w1.frozen? ⟨w.heap.size + 1, 9, none⟩ = false := (hc1.frozen (p := ⟨w.heap.size + 1, 9, none⟩) (by first | (simp; done) | (simp; omega))).trans (by first | (simp; done) | go_simp)
  have R_l : w.heap.size + 1 < w1.heap.size := Nat.lt_of_lt_of_le (by first | (simp; done) | (simp; omega)) hc1.size
  have zw1 := hb1.size
  have zR1 := R_l
  clear hc1 hr hy hK
  rw [H1.out]
  go_wp2_with fail
  with_reducible refine (feed_any u rs ys N ra ba rn rc bn bc _ HVK.out HRN.out HBN.out hr1 hy1 hr8 hy8 hK1 hw1 hsum (by omega) (by omega)).mono ?_
  rintro e w2 ⟨u', a2, m2, c2, rfl, hu', hm2, o2, hc2⟩
  have hb2 : Below w.heap.size w w2 := bchain (by repeat' (first | with_reducible exact hb1 | with_reducible refine Below.drew ?_ | with_reducible refine below_drewN ?_ _ | with_reducible refine Below.alloc ?_ (by have := hb1.size; first | (simp; done) | (simp; omega) | omega) _ | with_reducible refine Below.setCell ?_ (by first | (simp; done) | (simp; omega) | omega) _)) hc2
  have hst2 : Below w1.heap.size w1 w2 := bchain (by repeat' (first | with_reducible exact Below.refl _ _ | with_reducible refine Below.drew ?_ | with_reducible refine below_drewN ?_ _ | with_reducible refine Below.alloc ?_ (by first | (simp; done) | (simp; omega) | omega) _ | with_reducible refine Below.setCell ?_ (by first | (simp; done) | (simp; omega) | omega) _)) hc2
  replace M_0 := cell_later hst2 M_0
  replace M_1 := cell_later hst2 M_1
  replace M_2 := cell_later hst2 M_2
  replace M_3 := cell_later hst2 M_3
  replace M_4 := cell_later hst2 M_4
  replace M_5 := cell_later hst2 M_5
  replace M_6 := cell_later hst2 M_6
  replace M_7 := cell_later hst2 M_7
  replace M_8 := cell_later hst2 M_8
  replace M_9 := cell_later hst2 M_9
  replace M_f0 := frozen_later hst2 M_l M_f0
  replace M_f1 := frozen_later hst2 M_l M_f1
  replace M_f2 := frozen_later hst2 M_l M_f2
  replace M_f3 := frozen_later hst2 M_l M_f3
  replace M_f4 := frozen_later hst2 M_l M_f4
  replace M_f5 := frozen_later hst2 M_l M_f5
  replace M_f6 := frozen_later hst2 M_l M_f6
  replace M_f7 := frozen_later hst2 M_l M_f7
  replace M_f8 := frozen_later hst2 M_l M_f8
  replace M_f9 := frozen_later hst2 M_l M_f9
  replace M_l := Nat.lt_of_lt_of_le M_l hst2.size
  replace R_0 := cell_later hst2 R_0
  replace R_1 := cell_later hst2 R_1
  replace R_2 := cell_later hst2 R_2
  replace R_3 := cell_later hst2 R_3
  replace R_4 := cell_later hst2 R_4
  replace R_5 := cell_later hst2 R_5
  replace R_6 := cell_later hst2 R_6
  replace R_7 := cell_later hst2 R_7
  replace R_8 := cell_later hst2 R_8
  replace R_9 := cell_later hst2 R_9
  replace R_f0 := frozen_later hst2 R_l R_f0
  replace R_f1 := frozen_later hst2 R_l R_f1
  replace R_f2 := frozen_later hst2 R_l R_f2
  replace R_f3 := frozen_later hst2 R_l R_f3
  replace R_f4 := frozen_later hst2 R_l R_f4
  replace R_f5 := frozen_later hst2 R_l R_f5
  replace R_f6 := frozen_later hst2 R_l R_f6
  replace R_f7 := frozen_later hst2 R_l R_f7
  replace R_f8 := frozen_later hst2 R_l R_f8
  replace R_f9 := frozen_later hst2 R_l R_f9
  replace R_l := Nat.lt_of_lt_of_le R_l hst2.size
  clear hst2
  clear hc2 hb1
  have p2 : (Value.slice a2 m2 c2).ownBlock ≠ some (w.heap.size + 1) := fun e => by have := (o2.lt _ e).1; omega
  obtain rfl := H3.out u' hu'
  obtain ⟨rfl, o3⟩ := H2.out a2 c2 m2 _ hm2 (o2.mono zw1)
  clear o2
  go_wp2_with fail
  refine bodyPost_ret (v := .tuple #[.agg #[.int .u32 u'.a, .int .u32 u'.b, .int .u32 u'.c, .int .u32 u'.d, .int .u32 u'.e, .int .u32 u'.f, .int .u32 u'.g, .int .u32 u'.z, .slice a2 m2 c2, .int .i64 ((N : Int) + (bn : Int))], .int .i64 0]) (by simp [results, Tryd.results9, go_sem, *]) rfl ⟨?_, ?_⟩
  · refine ⟨a2, c2, by rw [HMN.out], ?_⟩
    repeat' (first | with_reducible exact o3 | (refine OwnX.setFar ?_ p2 _))
  · exact (by repeat' (first | with_reducible exact hb2 | with_reducible refine Below.drew ?_ | with_reducible refine below_drewN ?_ _ | with_reducible refine Below.alloc ?_ (by have := hb2.size; first | (simp; done) | (simp; omega) | omega) _ | with_reducible refine Below.setCell ?_ (by first | (simp; done) | (simp; omega) | omega) _))
theorem end_on (v0 : V8) (h0 : v0.ok) (k : Nat) (hk : k ≤ 3000) (xs : List Int) {u : V8} (hu : u.list = mill v0.list xs) (N m : Nat) (hN : N = 64 * k + xs.length) (hm : m = (restL xs).length) (dv : List Value) (hdv : dv = (endL u.list (restL xs) N).map (Value.int .u8)) (ra : Option Addr) (rc : Nat) (w : World)
    (hr : CellsAt w ra ((restL xs).map (Value.int .u8))) (hb8 : Bytes8 xs) (hK : CellsAt w (some ⟨0, 0, none⟩) (kcs.map (Value.int .u32))) (hw0 : 0 < w.heap.size) (hl : xs.length ≤ 8000) :
    Calls Tryd.prog 11 #[.agg #[.int .u32 u.a, .int .u32 u.b, .int .u32 u.c, .int .u32 u.d, .int .u32 u.e, .int .u32 u.f, .int .u32 u.g, .int .u32 u.z, .slice ra m rc, .int .i64 N]] w fun e w' =>
      e = .returned (.tuple #[.agg dv.toArray, .int .i64 0]) ∧ Below w.heap.size w w' := by
  refine end_r (dl := endL u.list (restL xs) N) ?_ hdv ra m rc w (mill_ok h0 xs hu) hm hr hb8.rest hK hw0
  have hrl := restL_len xs
  unfold endM
  rw [if_neg (by rw [show vdB N (restL xs).length = true by unfold vdB; simp; omega]; simp), Int.toNat_natCast]
structure Box (p : Prop) : Prop where
  out : p
/-- Bytes that came in, and their room. -/
structure BytesC (w : World) (a : Option Addr) (c : Nat) (bs : List Int) : Prop where
  is : BytesIn w a bs
  cap : bs.length ≤ c

theorem nilRest (w : World) (a : Option Addr) : CellsAt w a ((restL []).map (Value.int .u8)) := .inl rfl
/-- A mill's block, whatever it holds. -/
def SomeB (w : World) (b : Nat) : Prop := ∃ cs : List Value, cs.length = 10 ∧ Blk w b 26 cs
theorem SomeB.later {w w' : World} {b : Nat} (h : SomeB w b) (hb : Below w.heap.size w w') : SomeB w' b := let ⟨cs, h1, h2⟩ := h; ⟨cs, h1, h2.later hb⟩
/-- What the store of a mill leaves as it is. -/
def StoR (base : Nat) (w w' : World) : Prop := Below base w w' ∧ (∀ B v n xs, OwnX w B 5 1 v n xs → OwnX w' B 5 1 v n xs) ∧ ∀ b, SomeB w b → SomeB w' b
theorem StoR.cup {base : Nat} {w w' : World} (h : StoR base w w') {B n : Nat} {v : Value} {xs : List Value} (k : CupX w B 5 1 v n xs) : CupX w' B 5 1 v n xs := k.imp (h.2.1 _ _ _ _) id
theorem u8_ne_mill : 26 ≠ 5 := by decide
theorem StoR.of {base : Nat} {w : World} {b : Nat} {cs vs : List Value} (hb : base ≤ b) (h : Blk w b 26 cs) (hl : vs.length = 10) (hS : Blk (w.setCells b 0 vs) b 26 vs) : StoR base w (w.setCells b 0 vs) := by
  have hg : w.grownBy (w.setCells b 0 vs) (some b) := gb_setCells _ _ _ (World.grownBy.refl _ _)
  refine ⟨below_setCells hb _ _ _ (Below.refl _ _), fun B v n xs k => k.kept hg ?_, fun b' ⟨cs', h1, h2⟩ => ?_⟩
  · right
    intro e
    exact k.blk_ne h u8_ne_mill e
  · by_cases hbb : b' = b
    · subst hbb; exact ⟨vs, hl, hS⟩
    · exact ⟨cs', h1, gb_blk hg h2 hbb⟩
def VSome (B : Nat) : Value → World → Prop := fun v w => ∃ b, v = .pointer (some ⟨b, 0, none⟩) ∧ B ≤ b ∧ SomeB w b
theorem VSome.last {B : Nat} (v : Value) (w w' : World) (h : VSome B v w) (hb : Below w.heap.size w w') : VSome B v w' := let ⟨b, h1, h2, h3⟩ := h; ⟨b, h1, h2, h3.later hb⟩
theorem VSome.app {B base n : Nat} {xs : List Value} (v : Value) (w w' : World) (h : VSome B v w) (hb : AppR base 5 1 n xs w w') : VSome B v w' := let ⟨b, h1, h2, cs, h3, h4⟩ := h; ⟨b, h1, h2, cs, h3, hb.2.1 _ _ _ u8_ne_mill h4⟩
theorem VSome.sto {B base : Nat} (v : Value) (w w' : World) (h : VSome B v w) (hb : StoR base w w') : VSome B v w' := let ⟨b, h1, h2, h3⟩ := h; ⟨b, h1, h2, hb.2.2 _ h3⟩
theorem VCup.app {base n : Nat} {xs : List Value} (v : Value) (w w' : World) (h : VCup base 5 1 n xs v w) (hb : AppR base 5 1 n xs w w') : VCup base 5 1 n xs v w' := let ⟨a, c, h1, h2⟩ := h; ⟨a, c, h1, hb.2.2 _ h2⟩
theorem VCup.sto {B base n : Nat} {xs : List Value} (v : Value) (w w' : World) (h : VCup B 5 1 n xs v w) (hb : StoR base w w') : VCup B 5 1 n xs v w' := let ⟨a, c, h1, h2⟩ := h; ⟨a, c, h1, hb.cup h2⟩
theorem VM.sto {B base : Nat} {u : V8} {m : Nat} {rs : List Int} {N : Int} (v : Value) (w w' : World) (h : VM B u m rs N v w) (hb : StoR base w w') : VM B u m rs N v w' := let ⟨a, c, h1, h2⟩ := h; ⟨a, c, h1, hb.2.1 _ _ _ _ h2⟩
theorem VEmpty.any {R : World → World → Prop} (v : Value) (w w' : World) (h : VEmpty v w) (_ : R w w') : VEmpty v w' := h
set_option maxRecDepth 100000 in
set_option maxHeartbeats 8000000 in
theorem on_walk (v : V8) (hv : v.ok) (n : Int) (xs ys : List Int) (xa ya : Option Addr) (xc yc : Nat) (w : World) (hn : (Lit.int .i64 n).wf = true) (hx : BytesC w xa xc xs) (hy : BytesC w ya yc ys) (hK : CellsAt w (some ⟨0, 0, none⟩) (kcs.map (Value.int .u32))) (hw0 : 0 < w.heap.size) :
    Calls Tryd.prog 7 #[.agg #[.int .u32 v.a, .int .u32 v.b, .int .u32 v.c, .int .u32 v.d, .int .u32 v.e, .int .u32 v.f, .int .u32 v.g, .int .u32 v.z], .int .i64 n, .slice xa xs.length xc, .slice ya ys.length yc] w fun e w' =>
      e = .returned (.bool true) ∧ Below w.heap.size w w' := by
  have hwf : ∀ W, Below w.heap.size w W → 0 < W.heap.size := fun W h => Nat.lt_of_lt_of_le hw0 h.size
  have hn2 := bd_i64 hn
  obtain ⟨hn2a, hn2b⟩ := hn2
  obtain ⟨⟨hxc, hx8, hxm⟩, hxl⟩ := hx
  obtain ⟨⟨hyc, hy8, hym⟩, hyl⟩ := hy
  unfold maxLen at hxm hym
  obtain ⟨na, hna⟩ : ∃ na, na = xs.length := ⟨_, rfl⟩
  obtain ⟨nb, hnb⟩ : ∃ nb, nb = ys.length := ⟨_, rfl⟩
  rw [← hna] at hxm hxl ⊢
  rw [← hnb] at hym hyl ⊢
  have H_hna := Box.mk hna
  have H_hnb := Box.mk hnb
  clear hna hnb
  obtain ⟨i0, hi, hz0, hz1, hz2⟩ := info_parts info_u8
  have H_hi := Box.mk hi
  have H_hz0 := Box.mk hz0
  have H_hz1 := Box.mk hz1
  have H_hz2 := Box.mk hz2
  clear hi hz0 hz1 hz2
  go_enter Tryd.func7, Tryd.ntmps7
  have hb0 := Below.refl w.heap.size w
  by_cases h1 : n < 0
  · skip
    go_wp2_with fail
    with_reducible refine (alive_any _ (hK.later (by repeat' (first | with_reducible exact hb0 | with_reducible refine Below.drew ?_ | with_reducible refine below_drewN ?_ _ | with_reducible refine Below.alloc ?_ (by have := hb0.size; first | (simp; done) | (simp; omega) | omega) _ | with_reducible refine Below.setCell ?_ (by first | (simp; done) | (simp; omega) | omega) _))) (hwf _ (by repeat' (first | with_reducible exact hb0 | with_reducible refine Below.drew ?_ | with_reducible refine below_drewN ?_ _ | with_reducible refine Below.alloc ?_ (by have := hb0.size; first | (simp; done) | (simp; omega) | omega) _ | with_reducible refine Below.setCell ?_ (by first | (simp; done) | (simp; omega) | omega) _)))).mono ?_
    rintro e w1 ⟨rfl, hc1⟩
    have hb1 : Below w.heap.size w w1 := bchain (by repeat' (first | with_reducible exact hb0 | with_reducible refine Below.drew ?_ | with_reducible refine below_drewN ?_ _ | with_reducible refine Below.alloc ?_ (by have := hb0.size; first | (simp; done) | (simp; omega) | omega) _ | with_reducible refine Below.setCell ?_ (by first | (simp; done) | (simp; omega) | omega) _)) hc1
    clear hc1 hb0
    go_wp2_with fail
    go_ret
    exact ⟨rfl, (by repeat' (first | with_reducible exact hb1 | with_reducible refine Below.drew ?_ | with_reducible refine below_drewN ?_ _ | with_reducible refine Below.alloc ?_ (by have := hb1.size; first | (simp; done) | (simp; omega) | omega) _ | with_reducible refine Below.setCell ?_ (by first | (simp; done) | (simp; omega) | omega) _))⟩
  by_cases h2 : 3000 < n
  · skip
    go_wp2_with fail
    with_reducible refine (alive_any _ (hK.later (by repeat' (first | with_reducible exact hb0 | with_reducible refine Below.drew ?_ | with_reducible refine below_drewN ?_ _ | with_reducible refine Below.alloc ?_ (by have := hb0.size; first | (simp; done) | (simp; omega) | omega) _ | with_reducible refine Below.setCell ?_ (by first | (simp; done) | (simp; omega) | omega) _))) (hwf _ (by repeat' (first | with_reducible exact hb0 | with_reducible refine Below.drew ?_ | with_reducible refine below_drewN ?_ _ | with_reducible refine Below.alloc ?_ (by have := hb0.size; first | (simp; done) | (simp; omega) | omega) _ | with_reducible refine Below.setCell ?_ (by first | (simp; done) | (simp; omega) | omega) _)))).mono ?_
    rintro e w1 ⟨rfl, hc1⟩
    have hb1 : Below w.heap.size w w1 := bchain (by repeat' (first | with_reducible exact hb0 | with_reducible refine Below.drew ?_ | with_reducible refine below_drewN ?_ _ | with_reducible refine Below.alloc ?_ (by have := hb0.size; first | (simp; done) | (simp; omega) | omega) _ | with_reducible refine Below.setCell ?_ (by first | (simp; done) | (simp; omega) | omega) _)) hc1
    clear hc1 hb0
    go_wp2_with fail
    go_ret
    exact ⟨rfl, (by repeat' (first | with_reducible exact hb1 | with_reducible refine Below.drew ?_ | with_reducible refine below_drewN ?_ _ | with_reducible refine Below.alloc ?_ (by have := hb1.size; first | (simp; done) | (simp; omega) | omega) _ | with_reducible refine Below.setCell ?_ (by first | (simp; done) | (simp; omega) | omega) _))⟩
  by_cases h3 : 500 < na
  · have h3I : (500 : Int) < na := by omega
    go_wp2_with fail
    with_reducible refine (alive_any _ (hK.later (by repeat' (first | with_reducible exact hb0 | with_reducible refine Below.drew ?_ | with_reducible refine below_drewN ?_ _ | with_reducible refine Below.alloc ?_ (by have := hb0.size; first | (simp; done) | (simp; omega) | omega) _ | with_reducible refine Below.setCell ?_ (by first | (simp; done) | (simp; omega) | omega) _))) (hwf _ (by repeat' (first | with_reducible exact hb0 | with_reducible refine Below.drew ?_ | with_reducible refine below_drewN ?_ _ | with_reducible refine Below.alloc ?_ (by have := hb0.size; first | (simp; done) | (simp; omega) | omega) _ | with_reducible refine Below.setCell ?_ (by first | (simp; done) | (simp; omega) | omega) _)))).mono ?_
    rintro e w1 ⟨rfl, hc1⟩
    have hb1 : Below w.heap.size w w1 := bchain (by repeat' (first | with_reducible exact hb0 | with_reducible refine Below.drew ?_ | with_reducible refine below_drewN ?_ _ | with_reducible refine Below.alloc ?_ (by have := hb0.size; first | (simp; done) | (simp; omega) | omega) _ | with_reducible refine Below.setCell ?_ (by first | (simp; done) | (simp; omega) | omega) _)) hc1
    clear hc1 hb0
    go_wp2_with fail
    go_ret
    exact ⟨rfl, (by repeat' (first | with_reducible exact hb1 | with_reducible refine Below.drew ?_ | with_reducible refine below_drewN ?_ _ | with_reducible refine Below.alloc ?_ (by have := hb1.size; first | (simp; done) | (simp; omega) | omega) _ | with_reducible refine Below.setCell ?_ (by first | (simp; done) | (simp; omega) | omega) _))⟩
  have h3I : (na : Int) ≤ 500 := by omega
  by_cases h4 : 500 < nb
  · have h4I : (500 : Int) < nb := by omega
    go_wp2_with fail
    with_reducible refine (alive_any _ (hK.later (by repeat' (first | with_reducible exact hb0 | with_reducible refine Below.drew ?_ | with_reducible refine below_drewN ?_ _ | with_reducible refine Below.alloc ?_ (by have := hb0.size; first | (simp; done) | (simp; omega) | omega) _ | with_reducible refine Below.setCell ?_ (by first | (simp; done) | (simp; omega) | omega) _))) (hwf _ (by repeat' (first | with_reducible exact hb0 | with_reducible refine Below.drew ?_ | with_reducible refine below_drewN ?_ _ | with_reducible refine Below.alloc ?_ (by have := hb0.size; first | (simp; done) | (simp; omega) | omega) _ | with_reducible refine Below.setCell ?_ (by first | (simp; done) | (simp; omega) | omega) _)))).mono ?_
    rintro e w1 ⟨rfl, hc1⟩
    have hb1 : Below w.heap.size w w1 := bchain (by repeat' (first | with_reducible exact hb0 | with_reducible refine Below.drew ?_ | with_reducible refine below_drewN ?_ _ | with_reducible refine Below.alloc ?_ (by have := hb0.size; first | (simp; done) | (simp; omega) | omega) _ | with_reducible refine Below.setCell ?_ (by first | (simp; done) | (simp; omega) | omega) _)) hc1
    clear hc1 hb0
    go_wp2_with fail
    go_ret
    exact ⟨rfl, (by repeat' (first | with_reducible exact hb1 | with_reducible refine Below.drew ?_ | with_reducible refine below_drewN ?_ _ | with_reducible refine Below.alloc ?_ (by have := hb1.size; first | (simp; done) | (simp; omega) | omega) _ | with_reducible refine Below.setCell ?_ (by first | (simp; done) | (simp; omega) | omega) _))⟩
  have h4I : (nb : Int) ≤ 500 := by omega
  obtain ⟨k, rfl⟩ : ∃ k : Nat, n = k := ⟨n.toNat, by omega⟩
  have hk : k ≤ 3000 := by omega
  obtain ⟨zs, hzs⟩ : ∃ zs, zs = xs ++ ys := ⟨_, rfl⟩
  obtain ⟨nz, hnz⟩ : ∃ nz, nz = zs.length := ⟨_, rfl⟩
  have hnzI : na + nb = nz := by rw [hnz, hzs, List.length_append, H_hna.out, H_hnb.out]
  have hz8 : Bytes8 zs := hzs ▸ hx8.append hy8
  have hxl8 : xs.length ≤ 8000 := by have := H_hna.out; omega
  have hzl8 : zs.length ≤ 8000 := by omega
  obtain ⟨N0, hN0⟩ : ∃ N0 : Nat, N0 = 64 * k := ⟨_, rfl⟩
  obtain ⟨N1, hN1⟩ : ∃ N1 : Nat, N1 = 64 * k + xs.length := ⟨_, rfl⟩
  obtain ⟨N2, hN2⟩ : ∃ N2 : Nat, N2 = 64 * k + zs.length := ⟨_, rfl⟩
  have hN0I : (64 : Int) * (k : Int) = N0 := by omega
  have hN1I : (N0 : Int) + (na : Int) = N1 := by have := H_hna.out; omega
  have hN0b : (N0 : Int) ≤ 192000 := by omega
  obtain ⟨u1, hu1⟩ := V8.of_list (mill v.list xs) ((grindN_len _ _ _).trans rfl)
  obtain ⟨u2, hu2⟩ := V8.of_list (mill v.list zs) ((grindN_len _ _ _).trans rfl)
  obtain ⟨m1, hm1⟩ : ∃ m1, m1 = (restL xs).length := ⟨_, rfl⟩
  obtain ⟨m2, hm2⟩ : ∃ m2, m2 = (restL zs).length := ⟨_, rfl⟩
  have H_hzs := Box.mk hzs
  have H_hnz := Box.mk hnz
  have H_hxl8 := Box.mk hxl8
  have H_hzl8 := Box.mk hzl8
  have H_hN0 := Box.mk hN0
  have H_hN1 := Box.mk hN1
  have H_hN2 := Box.mk hN2
  have H_hu1 := Box.mk hu1
  have H_hu2 := Box.mk hu2
  have H_hm1 := Box.mk hm1
  have H_hm2 := Box.mk hm2
  have H_hk := Box.mk hk
  have H_hN1I := Box.mk hN1I
  clear hzs hnz hxl8 hzl8 hN0 hN1 hN2 hu1 hu2 hm1 hm2 hk hN1I
  obtain ⟨pl, hpl⟩ : ∃ pl, pl = endL u2.list (restL zs) N2 := ⟨_, rfl⟩
  have hpdl : pl.length = 32 := by rw [hpl, endL_len]
  obtain ⟨pv, hpdv⟩ : ∃ dv, dv = pl.map (Value.int .u8) := ⟨_, rfl⟩
  have hpvl : pv.length = 32 := by rw [hpdv, List.length_map, hpdl]
  have hpo : ∀ x ∈ pv, x.oneCell' = true := by rw [hpdv]; exact oneCell_ints _ _
  have hpi : (Tryd.prog.info? 33).map (·.size) = some pv.length := by rw [hpvl]; exact info32
  have hpr : pv.length = (List.replicate 32 (Value.int .u8 0)).length := by rw [hpvl]; rfl
  have hpq : ∀ w, (Op.equalIn 10000 33 (.agg pv.toArray) (.agg pv.toArray)).run Tryd.prog w = .ok true w := fun w => by
    rw [hpdv, eq_ids pl pl hpdl hpdl]; simp
  have hpe : pv = (endL u2.list (restL zs) N2).map (Value.int .u8) := by rw [hpdv, hpl]
  have H_pi := hid hpi
  have H_pr := hid hpr
  have H_po := hid hpo
  have H_pq := hid hpq
  have H_pe := hid hpe
  clear hpdv hpi hpr hpo hpq hpl hpdl hpvl hpe
  go_upto_region 3 with ((fail))
  refine wp_gen fun w1 hc1 => ?_
  have hb1 : Below w.heap.size w w1 := bchain (by repeat' (first | with_reducible exact hb0 | with_reducible refine Below.drew ?_ | with_reducible refine below_drewN ?_ _ | with_reducible refine Below.alloc ?_ (by have := hb0.size; first | (simp; done) | (simp; omega) | omega) _ | with_reducible refine Below.setCell ?_ (by first | (simp; done) | (simp; omega) | omega) _)) hc1
  have W_0 : w1.cell? ⟨w.heap.size, 0, none⟩ = some (.int .u32 v.a) := (hc1.cell (p := ⟨w.heap.size, 0, none⟩) (by first | (simp; done) | (simp; omega))).trans (by first | (simp; done) | go_simp)
  have W_1 : w1.cell? ⟨w.heap.size, 1, none⟩ = some (.int .u32 v.b) := (hc1.cell (p := ⟨w.heap.size, 1, none⟩) (by first | (simp; done) | (simp; omega))).trans (by first | (simp; done) | go_simp)
  have W_2 : w1.cell? ⟨w.heap.size, 2, none⟩ = some (.int .u32 v.c) := (hc1.cell (p := ⟨w.heap.size, 2, none⟩) (by first | (simp; done) | (simp; omega))).trans (by first | (simp; done) | go_simp)
  have W_3 : w1.cell? ⟨w.heap.size, 3, none⟩ = some (.int .u32 v.d) := (hc1.cell (p := ⟨w.heap.size, 3, none⟩) (by first | (simp; done) | (simp; omega))).trans (by first | (simp; done) | go_simp)
  have W_4 : w1.cell? ⟨w.heap.size, 4, none⟩ = some (.int .u32 v.e) := (hc1.cell (p := ⟨w.heap.size, 4, none⟩) (by first | (simp; done) | (simp; omega))).trans (by first | (simp; done) | go_simp)
  have W_5 : w1.cell? ⟨w.heap.size, 5, none⟩ = some (.int .u32 v.f) := (hc1.cell (p := ⟨w.heap.size, 5, none⟩) (by first | (simp; done) | (simp; omega))).trans (by first | (simp; done) | go_simp)
  have W_6 : w1.cell? ⟨w.heap.size, 6, none⟩ = some (.int .u32 v.g) := (hc1.cell (p := ⟨w.heap.size, 6, none⟩) (by first | (simp; done) | (simp; omega))).trans (by first | (simp; done) | go_simp)
  have W_7 : w1.cell? ⟨w.heap.size, 7, none⟩ = some (.int .u32 v.z) := (hc1.cell (p := ⟨w.heap.size, 7, none⟩) (by first | (simp; done) | (simp; omega))).trans (by first | (simp; done) | go_simp)
  have W_f0 : w1.frozen? ⟨w.heap.size, 0, none⟩ = false := (hc1.frozen (p := ⟨w.heap.size, 0, none⟩) (by first | (simp; done) | (simp; omega))).trans (by first | (simp; done) | go_simp)
  have W_f1 : w1.frozen? ⟨w.heap.size, 1, none⟩ = false := (hc1.frozen (p := ⟨w.heap.size, 1, none⟩) (by first | (simp; done) | (simp; omega))).trans (by first | (simp; done) | go_simp)
  have W_f2 : w1.frozen? ⟨w.heap.size, 2, none⟩ = false := (hc1.frozen (p := ⟨w.heap.size, 2, none⟩) (by first | (simp; done) | (simp; omega))).trans (by first | (simp; done) | go_simp)
  have W_f3 : w1.frozen? ⟨w.heap.size, 3, none⟩ = false := (hc1.frozen (p := ⟨w.heap.size, 3, none⟩) (by first | (simp; done) | (simp; omega))).trans (by first | (simp; done) | go_simp)
  have W_f4 : w1.frozen? ⟨w.heap.size, 4, none⟩ = false := (hc1.frozen (p := ⟨w.heap.size, 4, none⟩) (by first | (simp; done) | (simp; omega))).trans (by first | (simp; done) | go_simp)
  have W_f5 : w1.frozen? ⟨w.heap.size, 5, none⟩ = false := (hc1.frozen (p := ⟨w.heap.size, 5, none⟩) (by first | (simp; done) | (simp; omega))).trans (by first | (simp; done) | go_simp)
  have W_f6 : w1.frozen? ⟨w.heap.size, 6, none⟩ = false := (hc1.frozen (p := ⟨w.heap.size, 6, none⟩) (by first | (simp; done) | (simp; omega))).trans (by first | (simp; done) | go_simp)
  have W_f7 : w1.frozen? ⟨w.heap.size, 7, none⟩ = false := (hc1.frozen (p := ⟨w.heap.size, 7, none⟩) (by first | (simp; done) | (simp; omega))).trans (by first | (simp; done) | go_simp)
  have W_l : w.heap.size < w1.heap.size := Nat.lt_of_lt_of_le (by first | (simp; done) | (simp; omega)) hc1.size
  clear hc1 hb0
  have hN1 := Blk.newA w1 w1.heap.size _ 26 [.int .u32 0, .int .u32 0, .int .u32 0, .int .u32 0, .int .u32 0, .int .u32 0, .int .u32 0, .int .u32 0, .slice none 0 0, .int .i64 0] rfl rfl
  go_upto_region 4 with (refine wpList_store_blk rfl 26 _ _ rfl w1.heap.size (by rfl) 26 _ [.int .u32 v.a, .int .u32 v.b, .int .u32 v.c, .int .u32 v.d, .int .u32 v.e, .int .u32 v.f, .int .u32 v.g, .int .u32 v.z, .slice none 0 0, .int .i64 N0] (by rfl) hN1 (by rfl) infoM (mill_one _ _ _ _ _) ?_; intro w2 hM2 he; have HW := hid he; clear he)
  have hc2 : Below w1.heap.size w1 w2 := HW.out ▸ below_setCells (Nat.le_refl _) _ _ _ ((Below.refl _ _).alloc (Nat.le_refl _) _)
  clear hN1 HW
  have hd2 := hc2
  have hb2 : Below w.heap.size w w2 := bchain (by repeat' (first | with_reducible exact hb1 | with_reducible refine Below.drew ?_ | with_reducible refine below_drewN ?_ _ | with_reducible refine Below.alloc ?_ (by have := hb1.size; first | (simp; done) | (simp; omega) | omega) _ | with_reducible refine Below.setCell ?_ (by first | (simp; done) | (simp; omega) | omega) _)) hc2
  have hst2 : Below w1.heap.size w1 w2 := bchain (by repeat' (first | with_reducible exact Below.refl _ _ | with_reducible refine Below.drew ?_ | with_reducible refine below_drewN ?_ _ | with_reducible refine Below.alloc ?_ (by first | (simp; done) | (simp; omega) | omega) _ | with_reducible refine Below.setCell ?_ (by first | (simp; done) | (simp; omega) | omega) _)) hc2
  replace W_0 := cell_later hst2 W_0
  replace W_1 := cell_later hst2 W_1
  replace W_2 := cell_later hst2 W_2
  replace W_3 := cell_later hst2 W_3
  replace W_4 := cell_later hst2 W_4
  replace W_5 := cell_later hst2 W_5
  replace W_6 := cell_later hst2 W_6
  replace W_7 := cell_later hst2 W_7
  replace W_f0 := frozen_later hst2 W_l W_f0
  replace W_f1 := frozen_later hst2 W_l W_f1
  replace W_f2 := frozen_later hst2 W_l W_f2
  replace W_f3 := frozen_later hst2 W_l W_f3
  replace W_f4 := frozen_later hst2 W_l W_f4
  replace W_f5 := frozen_later hst2 W_l W_f5
  replace W_f6 := frozen_later hst2 W_l W_f6
  replace W_f7 := frozen_later hst2 W_l W_f7
  replace W_l := Nat.lt_of_lt_of_le W_l hst2.size
  clear hst2
  clear hc2
  have M_0 := hM2.cell (j := 0) (v := .int .u32 v.a) rfl
  have M_1 := hM2.cell (j := 1) (v := .int .u32 v.b) rfl
  have M_2 := hM2.cell (j := 2) (v := .int .u32 v.c) rfl
  have M_3 := hM2.cell (j := 3) (v := .int .u32 v.d) rfl
  have M_4 := hM2.cell (j := 4) (v := .int .u32 v.e) rfl
  have M_5 := hM2.cell (j := 5) (v := .int .u32 v.f) rfl
  have M_6 := hM2.cell (j := 6) (v := .int .u32 v.g) rfl
  have M_7 := hM2.cell (j := 7) (v := .int .u32 v.z) rfl
  have M_8 := hM2.cell (j := 8) (v := .slice none 0 0) rfl
  have M_9 := hM2.cell (j := 9) (v := .int .i64 N0) rfl
  have M_l := hM2.lt
  go_wp2_with fail
  with_reducible refine (add_on v hv k H_hk.out [] xs xs rfl rfl H_hu1.out N0 N1 0 m1 (by simpa using H_hN0.out) H_hN1.out rfl H_hm1.out none xa 0 na xc _ H_hna.out (nilRest _ _) (hxc.later hb2) Bytes8.nil hx8 (hK.later hb2) (hwf _ hb2) H_hxl8.out).mono ?_
  rintro e w3 ⟨⟨a2, c2, rfl, o2⟩, hc3⟩
  have hb3 : Below w.heap.size w w3 := bchain (by repeat' (first | with_reducible exact hb2 | with_reducible refine Below.drew ?_ | with_reducible refine below_drewN ?_ _ | with_reducible refine Below.alloc ?_ (by have := hb2.size; first | (simp; done) | (simp; omega) | omega) _ | with_reducible refine Below.setCell ?_ (by first | (simp; done) | (simp; omega) | omega) _)) hc3
  have hst3 : Below w2.heap.size w2 w3 := bchain (by repeat' (first | with_reducible exact Below.refl _ _ | with_reducible refine Below.drew ?_ | with_reducible refine below_drewN ?_ _ | with_reducible refine Below.alloc ?_ (by first | (simp; done) | (simp; omega) | omega) _ | with_reducible refine Below.setCell ?_ (by first | (simp; done) | (simp; omega) | omega) _)) hc3
  replace W_0 := cell_later hst3 W_0
  replace W_1 := cell_later hst3 W_1
  replace W_2 := cell_later hst3 W_2
  replace W_3 := cell_later hst3 W_3
  replace W_4 := cell_later hst3 W_4
  replace W_5 := cell_later hst3 W_5
  replace W_6 := cell_later hst3 W_6
  replace W_7 := cell_later hst3 W_7
  replace W_f0 := frozen_later hst3 W_l W_f0
  replace W_f1 := frozen_later hst3 W_l W_f1
  replace W_f2 := frozen_later hst3 W_l W_f2
  replace W_f3 := frozen_later hst3 W_l W_f3
  replace W_f4 := frozen_later hst3 W_l W_f4
  replace W_f5 := frozen_later hst3 W_l W_f5
  replace W_f6 := frozen_later hst3 W_l W_f6
  replace W_f7 := frozen_later hst3 W_l W_f7
  replace W_l := Nat.lt_of_lt_of_le W_l hst3.size
  replace hM2 := hM2.later hst3
  clear hst3
  clear hc3 hb2
  clear M_0 M_1 M_2 M_3 M_4 M_5 M_6 M_7 M_8 M_9 M_l
  have k2 := o2.cellsAt
  clear o2
  have hN3 := Blk.newA w3 w3.heap.size _ 26 [.int .u32 0, .int .u32 0, .int .u32 0, .int .u32 0, .int .u32 0, .int .u32 0, .int .u32 0, .int .u32 0, .slice none 0 0, .int .i64 0] rfl rfl
  go_upto_region 5 with (refine wpList_store_blk rfl 26 _ _ rfl w3.heap.size (by rfl) 26 _ [.int .u32 u1.a, .int .u32 u1.b, .int .u32 u1.c, .int .u32 u1.d, .int .u32 u1.e, .int .u32 u1.f, .int .u32 u1.g, .int .u32 u1.z, .slice a2 m1 c2, .int .i64 N1] (by rfl) hN3 (by rfl) infoM (mill_one _ _ _ _ _) ?_; intro w4 hM4 he; have HW := hid he; clear he)
  have hc4 : Below w3.heap.size w3 w4 := HW.out ▸ below_setCells (Nat.le_refl _) _ _ _ ((Below.refl _ _).alloc (Nat.le_refl _) _)
  clear hN3 HW
  have hd4 := hc4
  have hb4 : Below w.heap.size w w4 := bchain (by repeat' (first | with_reducible exact hb3 | with_reducible refine Below.drew ?_ | with_reducible refine below_drewN ?_ _ | with_reducible refine Below.alloc ?_ (by have := hb3.size; first | (simp; done) | (simp; omega) | omega) _ | with_reducible refine Below.setCell ?_ (by first | (simp; done) | (simp; omega) | omega) _)) hc4
  have hst4 : Below w3.heap.size w3 w4 := bchain (by repeat' (first | with_reducible exact Below.refl _ _ | with_reducible refine Below.drew ?_ | with_reducible refine below_drewN ?_ _ | with_reducible refine Below.alloc ?_ (by first | (simp; done) | (simp; omega) | omega) _ | with_reducible refine Below.setCell ?_ (by first | (simp; done) | (simp; omega) | omega) _)) hc4
  replace W_0 := cell_later hst4 W_0
  replace W_1 := cell_later hst4 W_1
  replace W_2 := cell_later hst4 W_2
  replace W_3 := cell_later hst4 W_3
  replace W_4 := cell_later hst4 W_4
  replace W_5 := cell_later hst4 W_5
  replace W_6 := cell_later hst4 W_6
  replace W_7 := cell_later hst4 W_7
  replace W_f0 := frozen_later hst4 W_l W_f0
  replace W_f1 := frozen_later hst4 W_l W_f1
  replace W_f2 := frozen_later hst4 W_l W_f2
  replace W_f3 := frozen_later hst4 W_l W_f3
  replace W_f4 := frozen_later hst4 W_l W_f4
  replace W_f5 := frozen_later hst4 W_l W_f5
  replace W_f6 := frozen_later hst4 W_l W_f6
  replace W_f7 := frozen_later hst4 W_l W_f7
  replace W_l := Nat.lt_of_lt_of_le W_l hst4.size
  replace hM2 := hM2.later hst4
  replace k2 := k2.later hst4
  clear hst4
  clear hc4
  have M_0 := hM4.cell (j := 0) (v := .int .u32 u1.a) rfl
  have M_1 := hM4.cell (j := 1) (v := .int .u32 u1.b) rfl
  have M_2 := hM4.cell (j := 2) (v := .int .u32 u1.c) rfl
  have M_3 := hM4.cell (j := 3) (v := .int .u32 u1.d) rfl
  have M_4 := hM4.cell (j := 4) (v := .int .u32 u1.e) rfl
  have M_5 := hM4.cell (j := 5) (v := .int .u32 u1.f) rfl
  have M_6 := hM4.cell (j := 6) (v := .int .u32 u1.g) rfl
  have M_7 := hM4.cell (j := 7) (v := .int .u32 u1.z) rfl
  have M_8 := hM4.cell (j := 8) (v := .slice a2 m1 c2) rfl
  have M_9 := hM4.cell (j := 9) (v := .int .i64 N1) rfl
  have M_l := hM4.lt
  go_wp2_with fail
  with_reducible refine (add_on v hv k H_hk.out xs ys zs H_hu1.out H_hzs.out H_hu2.out N1 N2 m1 m2 H_hN1.out H_hN2.out H_hm1.out H_hm2.out a2 ya c2 nb yc _ H_hnb.out k2 (hyc.later hb4) hx8 hy8 (hK.later hb4) (hwf _ hb4) H_hzl8.out).mono ?_
  rintro e w5 ⟨⟨a4, c4, rfl, o4⟩, hc5⟩
  have hb5 : Below w.heap.size w w5 := bchain (by repeat' (first | with_reducible exact hb4 | with_reducible refine Below.drew ?_ | with_reducible refine below_drewN ?_ _ | with_reducible refine Below.alloc ?_ (by have := hb4.size; first | (simp; done) | (simp; omega) | omega) _ | with_reducible refine Below.setCell ?_ (by first | (simp; done) | (simp; omega) | omega) _)) hc5
  have hst5 : Below w4.heap.size w4 w5 := bchain (by repeat' (first | with_reducible exact Below.refl _ _ | with_reducible refine Below.drew ?_ | with_reducible refine below_drewN ?_ _ | with_reducible refine Below.alloc ?_ (by first | (simp; done) | (simp; omega) | omega) _ | with_reducible refine Below.setCell ?_ (by first | (simp; done) | (simp; omega) | omega) _)) hc5
  replace W_0 := cell_later hst5 W_0
  replace W_1 := cell_later hst5 W_1
  replace W_2 := cell_later hst5 W_2
  replace W_3 := cell_later hst5 W_3
  replace W_4 := cell_later hst5 W_4
  replace W_5 := cell_later hst5 W_5
  replace W_6 := cell_later hst5 W_6
  replace W_7 := cell_later hst5 W_7
  replace W_f0 := frozen_later hst5 W_l W_f0
  replace W_f1 := frozen_later hst5 W_l W_f1
  replace W_f2 := frozen_later hst5 W_l W_f2
  replace W_f3 := frozen_later hst5 W_l W_f3
  replace W_f4 := frozen_later hst5 W_l W_f4
  replace W_f5 := frozen_later hst5 W_l W_f5
  replace W_f6 := frozen_later hst5 W_l W_f6
  replace W_f7 := frozen_later hst5 W_l W_f7
  replace W_l := Nat.lt_of_lt_of_le W_l hst5.size
  replace hM2 := hM2.later hst5
  replace k2 := k2.later hst5
  replace hM4 := hM4.later hst5
  clear hst5
  clear hc5 hb4
  clear M_0 M_1 M_2 M_3 M_4 M_5 M_6 M_7 M_8 M_9 M_l
  have k4 := o4.cellsAt
  clear o4
  have hN5 := Blk.newA w5 w5.heap.size _ 26 [.int .u32 0, .int .u32 0, .int .u32 0, .int .u32 0, .int .u32 0, .int .u32 0, .int .u32 0, .int .u32 0, .slice none 0 0, .int .i64 0] rfl rfl
  go_upto_region 6 with (refine wpList_store_blk rfl 26 _ _ rfl w5.heap.size (by rfl) 26 _ [.int .u32 u2.a, .int .u32 u2.b, .int .u32 u2.c, .int .u32 u2.d, .int .u32 u2.e, .int .u32 u2.f, .int .u32 u2.g, .int .u32 u2.z, .slice a4 m2 c4, .int .i64 N2] (by rfl) hN5 (by rfl) infoM (mill_one _ _ _ _ _) ?_; intro w6 hM6 he; have HW := hid he; clear he)
  have hc6 : Below w5.heap.size w5 w6 := HW.out ▸ below_setCells (Nat.le_refl _) _ _ _ ((Below.refl _ _).alloc (Nat.le_refl _) _)
  clear hN5 HW
  have hd6 := hc6
  have hb6 : Below w.heap.size w w6 := bchain (by repeat' (first | with_reducible exact hb5 | with_reducible refine Below.drew ?_ | with_reducible refine below_drewN ?_ _ | with_reducible refine Below.alloc ?_ (by have := hb5.size; first | (simp; done) | (simp; omega) | omega) _ | with_reducible refine Below.setCell ?_ (by first | (simp; done) | (simp; omega) | omega) _)) hc6
  have hst6 : Below w5.heap.size w5 w6 := bchain (by repeat' (first | with_reducible exact Below.refl _ _ | with_reducible refine Below.drew ?_ | with_reducible refine below_drewN ?_ _ | with_reducible refine Below.alloc ?_ (by first | (simp; done) | (simp; omega) | omega) _ | with_reducible refine Below.setCell ?_ (by first | (simp; done) | (simp; omega) | omega) _)) hc6
  replace W_0 := cell_later hst6 W_0
  replace W_1 := cell_later hst6 W_1
  replace W_2 := cell_later hst6 W_2
  replace W_3 := cell_later hst6 W_3
  replace W_4 := cell_later hst6 W_4
  replace W_5 := cell_later hst6 W_5
  replace W_6 := cell_later hst6 W_6
  replace W_7 := cell_later hst6 W_7
  replace W_f0 := frozen_later hst6 W_l W_f0
  replace W_f1 := frozen_later hst6 W_l W_f1
  replace W_f2 := frozen_later hst6 W_l W_f2
  replace W_f3 := frozen_later hst6 W_l W_f3
  replace W_f4 := frozen_later hst6 W_l W_f4
  replace W_f5 := frozen_later hst6 W_l W_f5
  replace W_f6 := frozen_later hst6 W_l W_f6
  replace W_f7 := frozen_later hst6 W_l W_f7
  replace W_l := Nat.lt_of_lt_of_le W_l hst6.size
  replace hM2 := hM2.later hst6
  replace k2 := k2.later hst6
  replace hM4 := hM4.later hst6
  replace k4 := k4.later hst6
  clear hst6
  clear hc6
  have hi := H_hi.out
  have hz0 := H_hz0.out
  have hz1 := H_hz1.out
  have hz2 := H_hz2.out
  obtain ⟨B1, hB1⟩ : ∃ B1, w1.heap.size = B1 := ⟨_, rfl⟩
  obtain ⟨B3, hB3⟩ : ∃ B3, w3.heap.size = B3 := ⟨_, rfl⟩
  obtain ⟨B5, hB5⟩ : ∃ B5, w5.heap.size = B5 := ⟨_, rfl⟩
  rw [hB1] at hM2 ⊢
  rw [hB3] at hM4 ⊢
  rw [hB5] at hM6 ⊢
  obtain ⟨C, hCd⟩ : ∃ C : World → Prop, ∀ W, C W ↔ Below w6.heap.size w6 W := ⟨_, fun _ => Iff.rfl⟩
  refine Ord.wp_region_rel C [(5, AppR w6.heap.size 5 1 na (xs.map (Value.int .u8))), (11, StoR w6.heap.size)] [(1, [], fun _ => VEmpty), (3, [], fun _ => VCup w6.heap.size 5 1 na (xs.map (Value.int .u8))), (5, [], fun _ => VCup w6.heap.size 5 1 nz (xs.map (Value.int .u8) ++ ys.map (Value.int .u8))), (6, [], fun _ => VM w6.heap.size u2 m2 (restL zs) N2), (10, [], fun _ => VSome w6.heap.size), (11, [14], fun l => VS w6.heap.size u2 m2 (restL zs) N2 (l.getD 0 undef))] [(1, []), (3, []), (5, []), (6, []), (10, []), (11, [14])] (by kernel_rfl) (by kernel_rfl) rfl (by kernel_rfl) ?_ ((hCd _).2 (Below.drew (Below.refl _ _))) ?_
  · refine ⟨⟨fun _ => VEmpty.last, fun _ _ _ => VEmpty.any, fun _ _ _ => VEmpty.any, trivial⟩, ⟨fun _ => VCup.last, fun _ _ _ => VCup.app, fun _ _ _ => VCup.sto, trivial⟩, ⟨fun _ => VCup.last, fun h => absurd rfl h, fun _ _ _ => VCup.sto, trivial⟩, ⟨fun _ => VM.last, fun _ h => absurd (h.symm.trans (show _ = true by kernel_rfl)) (by decide), fun _ _ _ => VM.sto, trivial⟩, ⟨fun _ => VSome.last, fun _ _ _ => VSome.app, fun _ _ _ => VSome.sto, trivial⟩, ⟨fun _ => VS.last, fun _ h => absurd (h.symm.trans (show _ = true by kernel_rfl)) (by decide), fun h => absurd rfl h, trivial⟩, trivial⟩
  have q0 : ∀ p : Ord.WIn C, (Ord.wOf p).cell? ⟨B1, 0, none⟩ = some (.int .u32 v.a) := fun p => (hM2.later ((hCd _).1 (Ord.wOf_in p))).cell (j := 0) rfl
  have q1 : ∀ p : Ord.WIn C, (Ord.wOf p).cell? ⟨B1, 1, none⟩ = some (.int .u32 v.b) := fun p => (hM2.later ((hCd _).1 (Ord.wOf_in p))).cell (j := 1) rfl
  have q2 : ∀ p : Ord.WIn C, (Ord.wOf p).cell? ⟨B1, 2, none⟩ = some (.int .u32 v.c) := fun p => (hM2.later ((hCd _).1 (Ord.wOf_in p))).cell (j := 2) rfl
  have q3 : ∀ p : Ord.WIn C, (Ord.wOf p).cell? ⟨B1, 3, none⟩ = some (.int .u32 v.d) := fun p => (hM2.later ((hCd _).1 (Ord.wOf_in p))).cell (j := 3) rfl
  have q4 : ∀ p : Ord.WIn C, (Ord.wOf p).cell? ⟨B1, 4, none⟩ = some (.int .u32 v.e) := fun p => (hM2.later ((hCd _).1 (Ord.wOf_in p))).cell (j := 4) rfl
  have q5 : ∀ p : Ord.WIn C, (Ord.wOf p).cell? ⟨B1, 5, none⟩ = some (.int .u32 v.f) := fun p => (hM2.later ((hCd _).1 (Ord.wOf_in p))).cell (j := 5) rfl
  have q6 : ∀ p : Ord.WIn C, (Ord.wOf p).cell? ⟨B1, 6, none⟩ = some (.int .u32 v.g) := fun p => (hM2.later ((hCd _).1 (Ord.wOf_in p))).cell (j := 6) rfl
  have q7 : ∀ p : Ord.WIn C, (Ord.wOf p).cell? ⟨B1, 7, none⟩ = some (.int .u32 v.z) := fun p => (hM2.later ((hCd _).1 (Ord.wOf_in p))).cell (j := 7) rfl
  have q8 : ∀ p : Ord.WIn C, (Ord.wOf p).cell? ⟨B1, 8, none⟩ = some (.slice none 0 0) := fun p => (hM2.later ((hCd _).1 (Ord.wOf_in p))).cell (j := 8) rfl
  have q9 : ∀ p : Ord.WIn C, (Ord.wOf p).cell? ⟨B1, 9, none⟩ = some (.int .i64 N0) := fun p => (hM2.later ((hCd _).1 (Ord.wOf_in p))).cell (j := 9) rfl
  haveI hinh : Nonempty (Ord.WIn C) := ⟨⟨w6, (hCd _).2 (Below.refl _ _)⟩⟩
  have H_hCd := Box.mk hCd
  clear hCd
  refine Ord.wpSpec_quiet 1 (by kernel_rfl) (by kernel_rfl) ?_
  simp only [List.take_succ_cons, List.take_zero, List.drop_succ_cons, List.drop_zero]
  repeat (go_big_quiet_step (fail))
  refine wpQuiet_nil ?_
  show Ord.wpSpec _ _ _ _ _ _ _ _ _ _ _
  refine Ord.wpSpec_atR [] (VEmpty) (Ord.LateR) rfl (by first | rfl | (simp [viewS, Act.eval]; done)) rfl (by first | rfl | (simp [Region.wanted]; done)) ?_ rfl ?_
  · intro wq hq0 hfq
    clear hfq
    have hq := (H_hCd.out _).1 hq0
    unfold Oper.gives; go_simp
    exact ⟨(H_hCd.out _).2 (hq.trans (((Below.refl _ _).alloc (Nat.le_refl _) _).mono hq.size)), (Below.refl _ _).alloc (Nat.le_refl _) _, _, rfl⟩
  rintro x1 ⟨_, a1, rfl⟩
  simp only [Act.put, List.setIfInBounds_toArray, List.set_cons_succ, List.set_cons_zero]
  refine Ord.wpSpec_quiet 1 (by kernel_rfl) (by kernel_rfl) ?_
  simp only [List.take_succ_cons, List.take_zero, List.drop_succ_cons, List.drop_zero]
  repeat (go_big_quiet_step (fail))
  refine wpQuiet_nil ?_
  show Ord.wpSpec _ _ _ _ _ _ _ _ _ _ _
  refine Ord.wpSpec_atR [] (VCup w6.heap.size 5 1 na (xs.map (Value.int .u8))) (Ord.LateR) rfl (by first | rfl | (simp [viewS, Act.eval]; done)) rfl (by first | rfl | (simp [Region.wanted]; done)) ?_ rfl ?_
  · intro wq hq0 hfq
    have f1 := hfq 1 (by kernel_rfl)
    simp only [upd, Nat.beq, cond] at f1
    clear hfq
    have hq := (H_hCd.out _).1 hq0
    refine (gives_append_c0 _ _ _ rfl (.slice a1 0 0) (.slice xa na xc) rfl rfl w6.heap.size _ i0 (.int .u8 0) 1 1 Tryd.underlying24 hi hz0 hz1 hz2 rfl (by decide) f1 na _ ⟨_, _, rfl, (hxc.later hb6).later hq⟩ (by rw [List.length_map, H_hna.out, Nat.mul_one]) (oneCell_ints _ _) (by unfold maxLen; omega) (by omega) hq.size).mono ?_
    rintro r w' ⟨hb, hc⟩
    exact ⟨(H_hCd.out _).2 (hq.trans (hb.mono hq.size)), hb, hc⟩
  rintro x3 ⟨_, a3, c3, rfl, -⟩
  simp only [Act.put, List.setIfInBounds_toArray, List.set_cons_succ, List.set_cons_zero]
  refine Ord.wpSpec_quiet 1 (by kernel_rfl) (by kernel_rfl) ?_
  simp only [List.take_succ_cons, List.take_zero, List.drop_succ_cons, List.drop_zero]
  repeat (go_big_quiet_step (fail))
  refine wpQuiet_nil ?_
  show Ord.wpSpec _ _ _ _ _ _ _ _ _ _ _
  refine Ord.wpSpec_atR [] (VCup w6.heap.size 5 1 nz (xs.map (Value.int .u8) ++ ys.map (Value.int .u8))) (AppR w6.heap.size 5 1 na (xs.map (Value.int .u8))) rfl (by first | rfl | (simp [viewS, Act.eval]; done)) rfl (by first | rfl | (simp [Region.wanted]; done)) ?_ rfl ?_
  · intro wq hq0 hfq
    have f3 := hfq 3 (by kernel_rfl)
    simp only [upd, Nat.beq, cond] at f3
    clear hfq
    have hq := (H_hCd.out _).1 hq0
    refine (gives_append_two _ _ _ rfl (.slice a3 na c3) (.slice ya nb yc) rfl rfl w6.heap.size _ i0 (.int .u8 0) 1 1 Tryd.underlying24 hi hz0 hz1 hz2 rfl (by decide) na _ f3 nb _ ⟨_, _, rfl, (hyc.later hb6).later hq⟩ (by rw [List.length_map, H_hnb.out, Nat.mul_one]) (oneCell_ints _ _) nz hnzI (by unfold maxLen; omega) (by omega) hq.size).mono ?_
    rintro r w' ⟨hb, hR, hc⟩
    exact ⟨(H_hCd.out _).2 (hq.trans hb), hR, hc⟩
  rintro x5 ⟨_, a5, c5, rfl, -⟩
  simp only [Act.put, List.setIfInBounds_toArray, List.set_cons_succ, List.set_cons_zero]
  refine Ord.wpSpec_atR [] (VM w6.heap.size u2 m2 (restL zs) N2) (Ord.LateR) rfl (by first | rfl | (simp [viewS, Act.eval]; done)) rfl (by first | rfl | (simp [Region.wanted]; done)) ?_ rfl ?_
  · intro wq hq0 hfq
    have f5 := hfq 5 (by kernel_rfl)
    simp only [upd, Nat.beq, cond] at f5
    clear hfq
    have hq := (H_hCd.out _).1 hq0
    obtain ⟨a5', c5', he5, k5⟩ := f5
    cases he5
    have k5 := k5.cells.2
    rw [← List.map_append, ← H_hzs.out] at k5
    refine gives_call 9 _ _ #[.agg #[.int .u32 v.a, .int .u32 v.b, .int .u32 v.c, .int .u32 v.d, .int .u32 v.e, .int .u32 v.f, .int .u32 v.g, .int .u32 v.z, .slice none 0 0, .int .i64 N0], .slice a5 nz c5] rfl (by kernel_rfl) (by simp [Act.eval]) ((add_on v hv k H_hk.out [] zs zs rfl rfl H_hu2.out N0 N2 0 m2 (by simpa using H_hN0.out) H_hN2.out rfl H_hm2.out none a5 0 nz c5 wq H_hnz.out (nilRest _ _) k5 Bytes8.nil hz8 (hK.later (hb6.trans (hq.mono hb6.size))) (hwf _ (hb6.trans (hq.mono hb6.size))) H_hzl8.out).mono ?_)
    rintro e w' ⟨⟨a6, c6, rfl, o6⟩, hb⟩
    exact ⟨_, rfl, (H_hCd.out _).2 (hq.trans (hb.mono hq.size)), hb, a6, c6, rfl, o6.mono hq.size⟩
  rintro x6 ⟨_, a6, c6, rfl, -⟩
  simp only [Act.put, List.setIfInBounds_toArray, List.set_cons_succ, List.set_cons_zero]
  refine Ord.wpSpec_quiet 3 (by kernel_rfl) (by kernel_rfl) ?_
  simp only [List.take_succ_cons, List.take_zero, List.drop_succ_cons, List.drop_zero]
  repeat (go_big_quiet_step (fail))
  refine wpQuiet_nil ?_
  show Ord.wpSpec _ _ _ _ _ _ _ _ _ _ _
  refine Ord.wpSpec_atR [] (VSome w6.heap.size) (Ord.LateR) rfl (by first | rfl | (simp [viewS, Act.eval]; done)) rfl (by first | rfl | (simp [Region.wanted]; done)) ?_ rfl ?_
  · intro wq hq0 hfq
    clear hfq
    have hq := (H_hCd.out _).1 hq0
    unfold Oper.gives; go_simp
    exact ⟨(H_hCd.out _).2 (hq.trans (((Below.refl _ _).alloc (Nat.le_refl _) _).mono hq.size)), (Below.refl _ _).alloc (Nat.le_refl _) _, _, rfl, hq.size, _, rfl, Blk.newA _ _ _ 26 [.int .u32 0, .int .u32 0, .int .u32 0, .int .u32 0, .int .u32 0, .int .u32 0, .int .u32 0, .int .u32 0, .slice none 0 0, .int .i64 0] rfl rfl⟩
  rintro x10 ⟨_, b10, rfl, -, -⟩
  simp only [Act.put, List.setIfInBounds_toArray, List.set_cons_succ, List.set_cons_zero]
  refine Ord.wpSpec_atR [.pointer (some ⟨b10, 0, none⟩)] (VS w6.heap.size u2 m2 (restL zs) N2 (.pointer (some ⟨b10, 0, none⟩))) (StoR w6.heap.size) rfl (by first | rfl | (simp [viewS, Act.eval]; done)) rfl (by first | rfl | (simp [Region.wanted]; done)) ?_ rfl ?_
  · intro wq hq0 hfq
    have f6 := hfq 6 (by kernel_rfl)
    have f10 := hfq 10 (by kernel_rfl)
    simp only [upd, Nat.beq, cond] at f6 f10
    clear hfq
    have hq := (H_hCd.out _).1 hq0
    obtain ⟨a6', c6', he6, o6⟩ := f6
    cases he6
    obtain ⟨b10', he10, hb10, cs10, hl10, hB10⟩ := f10
    cases he10
    refine gives_store_blk 26 _ _ rfl b10 rfl 26 _ [.int .u32 u2.a, .int .u32 u2.b, .int .u32 u2.c, .int .u32 u2.d, .int .u32 u2.e, .int .u32 u2.f, .int .u32 u2.g, .int .u32 u2.z, .slice a6 m2 c6, .int .i64 N2] rfl hB10 (by rw [hl10]; rfl) infoM (mill_one _ _ _ _ _) fun hS => ?_
    have hR := StoR.of (base := w6.heap.size) hb10 hB10 rfl hS
    exact ⟨(H_hCd.out _).2 (hq.trans hR.1), hR, b10, a6, c6, rfl, hb10, hS, (hR.2.1 _ _ _ _ o6).cellsAt, fun ad e => (o6.addr ad e).1⟩
  rintro x11 -
  simp only [Act.put, List.setIfInBounds_toArray, List.set_cons_succ, List.set_cons_zero]
  refine Ord.wpSpec_quiet 1 (by kernel_rfl) (by kernel_rfl) ?_
  simp only [List.take_succ_cons, List.take_zero, List.drop_succ_cons, List.drop_zero]
  repeat (go_big_quiet_step (fail))
  refine wpQuiet_nil ?_
  show Ord.wpSpec _ _ _ _ _ _ _ _ _ _ _
  intro w7 hq7 hfq
  have f11 := hfq 11
  simp only [upd, Nat.beq, cond] at f11
  have hc7 := (H_hCd.out _).1 hq7
  clear hfq hq7 q0 q1 q2 q3 q4 q5 q6 q7 q8 q9
  have hb7 : Below w.heap.size w w7 := bchain (by repeat' (first | with_reducible exact hb6 | with_reducible refine Below.drew ?_ | with_reducible refine below_drewN ?_ _ | with_reducible refine Below.alloc ?_ (by have := hb6.size; first | (simp; done) | (simp; omega) | omega) _ | with_reducible refine Below.setCell ?_ (by first | (simp; done) | (simp; omega) | omega) _)) hc7
  have hst7 : Below w6.heap.size w6 w7 := bchain (by repeat' (first | with_reducible exact Below.refl _ _ | with_reducible refine Below.drew ?_ | with_reducible refine below_drewN ?_ _ | with_reducible refine Below.alloc ?_ (by first | (simp; done) | (simp; omega) | omega) _ | with_reducible refine Below.setCell ?_ (by first | (simp; done) | (simp; omega) | omega) _)) hc7
  replace W_0 := cell_later hst7 W_0
  replace W_1 := cell_later hst7 W_1
  replace W_2 := cell_later hst7 W_2
  replace W_3 := cell_later hst7 W_3
  replace W_4 := cell_later hst7 W_4
  replace W_5 := cell_later hst7 W_5
  replace W_6 := cell_later hst7 W_6
  replace W_7 := cell_later hst7 W_7
  replace W_f0 := frozen_later hst7 W_l W_f0
  replace W_f1 := frozen_later hst7 W_l W_f1
  replace W_f2 := frozen_later hst7 W_l W_f2
  replace W_f3 := frozen_later hst7 W_l W_f3
  replace W_f4 := frozen_later hst7 W_l W_f4
  replace W_f5 := frozen_later hst7 W_l W_f5
  replace W_f6 := frozen_later hst7 W_l W_f6
  replace W_f7 := frozen_later hst7 W_l W_f7
  replace W_l := Nat.lt_of_lt_of_le W_l hst7.size
  replace hM2 := hM2.later hst7
  replace k2 := k2.later hst7
  replace hM4 := hM4.later hst7
  replace k4 := k4.later hst7
  replace hM6 := hM6.later hst7
  clear hst7
  clear hc7
  obtain ⟨b10', a8, c8, he10, hb10, hM8, k8, -⟩ := f11
  cases he10
  clear hi hz0 hz1 hz2
  have M_0 := hM6.cell (j := 0) (v := .int .u32 u2.a) rfl
  have M_1 := hM6.cell (j := 1) (v := .int .u32 u2.b) rfl
  have M_2 := hM6.cell (j := 2) (v := .int .u32 u2.c) rfl
  have M_3 := hM6.cell (j := 3) (v := .int .u32 u2.d) rfl
  have M_4 := hM6.cell (j := 4) (v := .int .u32 u2.e) rfl
  have M_5 := hM6.cell (j := 5) (v := .int .u32 u2.f) rfl
  have M_6 := hM6.cell (j := 6) (v := .int .u32 u2.g) rfl
  have M_7 := hM6.cell (j := 7) (v := .int .u32 u2.z) rfl
  have M_8 := hM6.cell (j := 8) (v := .slice a4 m2 c4) rfl
  have M_9 := hM6.cell (j := 9) (v := .int .i64 N2) rfl
  have M_l := hM6.lt
  go_wp2_with fail
  with_reducible refine (end_on v hv k H_hk.out zs H_hu2.out N2 m2 H_hN2.out H_hm2.out pv H_pe.out a4 c4 _ k4 hz8 (hK.later hb7) (hwf _ hb7) H_hzl8.out).mono ?_
  rintro e w8 ⟨rfl, hc8⟩
  have hb8 : Below w.heap.size w w8 := bchain (by repeat' (first | with_reducible exact hb7 | with_reducible refine Below.drew ?_ | with_reducible refine below_drewN ?_ _ | with_reducible refine Below.alloc ?_ (by have := hb7.size; first | (simp; done) | (simp; omega) | omega) _ | with_reducible refine Below.setCell ?_ (by first | (simp; done) | (simp; omega) | omega) _)) hc8
  have hst8 : Below w7.heap.size w7 w8 := bchain (by repeat' (first | with_reducible exact Below.refl _ _ | with_reducible refine Below.drew ?_ | with_reducible refine below_drewN ?_ _ | with_reducible refine Below.alloc ?_ (by first | (simp; done) | (simp; omega) | omega) _ | with_reducible refine Below.setCell ?_ (by first | (simp; done) | (simp; omega) | omega) _)) hc8
  replace W_0 := cell_later hst8 W_0
  replace W_1 := cell_later hst8 W_1
  replace W_2 := cell_later hst8 W_2
  replace W_3 := cell_later hst8 W_3
  replace W_4 := cell_later hst8 W_4
  replace W_5 := cell_later hst8 W_5
  replace W_6 := cell_later hst8 W_6
  replace W_7 := cell_later hst8 W_7
  replace W_f0 := frozen_later hst8 W_l W_f0
  replace W_f1 := frozen_later hst8 W_l W_f1
  replace W_f2 := frozen_later hst8 W_l W_f2
  replace W_f3 := frozen_later hst8 W_l W_f3
  replace W_f4 := frozen_later hst8 W_l W_f4
  replace W_f5 := frozen_later hst8 W_l W_f5
  replace W_f6 := frozen_later hst8 W_l W_f6
  replace W_f7 := frozen_later hst8 W_l W_f7
  replace W_l := Nat.lt_of_lt_of_le W_l hst8.size
  replace hM2 := hM2.later hst8
  replace k2 := k2.later hst8
  replace hM4 := hM4.later hst8
  replace k4 := k4.later hst8
  replace hM6 := hM6.later hst8
  replace hM8 := hM8.later hst8
  replace k8 := k8.later hst8
  clear hst8
  clear hc8 hb7
  clear M_0 M_1 M_2 M_3 M_4 M_5 M_6 M_7 M_8 M_9 M_l
  have hN8 := Blk.new w8 w8.heap.size (List.replicate 32 (Value.int .u8 0)) 33 rfl
  go_upto_region 8 with (refine wpList_store_blk rfl 33 _ _ rfl w8.heap.size (by rfl) 33 _ pv (by rfl) hN8 H_pr.out H_pi.out H_po.out ?_; intro w9 hA9 he; have HW := hid he; clear he)
  have hc9 : Below w8.heap.size w8 w9 := HW.out ▸ below_setCells (Nat.le_refl _) _ _ _ ((Below.refl _ _).alloc (Nat.le_refl _) _)
  clear hN8 HW
  have hb9 : Below w.heap.size w w9 := bchain (by repeat' (first | with_reducible exact hb8 | with_reducible refine Below.drew ?_ | with_reducible refine below_drewN ?_ _ | with_reducible refine Below.alloc ?_ (by have := hb8.size; first | (simp; done) | (simp; omega) | omega) _ | with_reducible refine Below.setCell ?_ (by first | (simp; done) | (simp; omega) | omega) _)) hc9
  have hst9 : Below w8.heap.size w8 w9 := bchain (by repeat' (first | with_reducible exact Below.refl _ _ | with_reducible refine Below.drew ?_ | with_reducible refine below_drewN ?_ _ | with_reducible refine Below.alloc ?_ (by first | (simp; done) | (simp; omega) | omega) _ | with_reducible refine Below.setCell ?_ (by first | (simp; done) | (simp; omega) | omega) _)) hc9
  replace W_0 := cell_later hst9 W_0
  replace W_1 := cell_later hst9 W_1
  replace W_2 := cell_later hst9 W_2
  replace W_3 := cell_later hst9 W_3
  replace W_4 := cell_later hst9 W_4
  replace W_5 := cell_later hst9 W_5
  replace W_6 := cell_later hst9 W_6
  replace W_7 := cell_later hst9 W_7
  replace W_f0 := frozen_later hst9 W_l W_f0
  replace W_f1 := frozen_later hst9 W_l W_f1
  replace W_f2 := frozen_later hst9 W_l W_f2
  replace W_f3 := frozen_later hst9 W_l W_f3
  replace W_f4 := frozen_later hst9 W_l W_f4
  replace W_f5 := frozen_later hst9 W_l W_f5
  replace W_f6 := frozen_later hst9 W_l W_f6
  replace W_f7 := frozen_later hst9 W_l W_f7
  replace W_l := Nat.lt_of_lt_of_le W_l hst9.size
  replace hM2 := hM2.later hst9
  replace k2 := k2.later hst9
  replace hM4 := hM4.later hst9
  replace k4 := k4.later hst9
  replace hM6 := hM6.later hst9
  replace hM8 := hM8.later hst9
  replace k8 := k8.later hst9
  clear hst9
  clear hc9
  have M_0 := hM8.cell (j := 0) (v := .int .u32 u2.a) rfl
  have M_1 := hM8.cell (j := 1) (v := .int .u32 u2.b) rfl
  have M_2 := hM8.cell (j := 2) (v := .int .u32 u2.c) rfl
  have M_3 := hM8.cell (j := 3) (v := .int .u32 u2.d) rfl
  have M_4 := hM8.cell (j := 4) (v := .int .u32 u2.e) rfl
  have M_5 := hM8.cell (j := 5) (v := .int .u32 u2.f) rfl
  have M_6 := hM8.cell (j := 6) (v := .int .u32 u2.g) rfl
  have M_7 := hM8.cell (j := 7) (v := .int .u32 u2.z) rfl
  have M_8 := hM8.cell (j := 8) (v := .slice a8 m2 c8) rfl
  have M_9 := hM8.cell (j := 9) (v := .int .i64 N2) rfl
  have M_l := hM8.lt
  go_wp2_with fail
  with_reducible refine (end_on v hv k H_hk.out zs H_hu2.out N2 m2 H_hN2.out H_hm2.out pv H_pe.out a8 c8 _ k8 hz8 (hK.later hb9) (hwf _ hb9) H_hzl8.out).mono ?_
  rintro e w10 ⟨rfl, hc10⟩
  have hb10 : Below w.heap.size w w10 := bchain (by repeat' (first | with_reducible exact hb9 | with_reducible refine Below.drew ?_ | with_reducible refine below_drewN ?_ _ | with_reducible refine Below.alloc ?_ (by have := hb9.size; first | (simp; done) | (simp; omega) | omega) _ | with_reducible refine Below.setCell ?_ (by first | (simp; done) | (simp; omega) | omega) _)) hc10
  have hst10 : Below w9.heap.size w9 w10 := bchain (by repeat' (first | with_reducible exact Below.refl _ _ | with_reducible refine Below.drew ?_ | with_reducible refine below_drewN ?_ _ | with_reducible refine Below.alloc ?_ (by first | (simp; done) | (simp; omega) | omega) _ | with_reducible refine Below.setCell ?_ (by first | (simp; done) | (simp; omega) | omega) _)) hc10
  replace W_0 := cell_later hst10 W_0
  replace W_1 := cell_later hst10 W_1
  replace W_2 := cell_later hst10 W_2
  replace W_3 := cell_later hst10 W_3
  replace W_4 := cell_later hst10 W_4
  replace W_5 := cell_later hst10 W_5
  replace W_6 := cell_later hst10 W_6
  replace W_7 := cell_later hst10 W_7
  replace W_f0 := frozen_later hst10 W_l W_f0
  replace W_f1 := frozen_later hst10 W_l W_f1
  replace W_f2 := frozen_later hst10 W_l W_f2
  replace W_f3 := frozen_later hst10 W_l W_f3
  replace W_f4 := frozen_later hst10 W_l W_f4
  replace W_f5 := frozen_later hst10 W_l W_f5
  replace W_f6 := frozen_later hst10 W_l W_f6
  replace W_f7 := frozen_later hst10 W_l W_f7
  replace W_l := Nat.lt_of_lt_of_le W_l hst10.size
  replace hM2 := hM2.later hst10
  replace k2 := k2.later hst10
  replace hM4 := hM4.later hst10
  replace k4 := k4.later hst10
  replace hM6 := hM6.later hst10
  replace hM8 := hM8.later hst10
  replace k8 := k8.later hst10
  replace hA9 := hA9.later hst10
  clear hst10
  clear hc10 hb9
  clear M_0 M_1 M_2 M_3 M_4 M_5 M_6 M_7 M_8 M_9 M_l
  have hN10 := Blk.new w10 w10.heap.size (List.replicate 32 (Value.int .u8 0)) 33 rfl
  go_upto_region 9 with (refine wpList_store_blk rfl 33 _ _ rfl w10.heap.size (by rfl) 33 _ pv (by rfl) hN10 H_pr.out H_pi.out H_po.out ?_; intro w11 hA11 he; have HW := hid he; clear he)
  have hc11 : Below w10.heap.size w10 w11 := HW.out ▸ below_setCells (Nat.le_refl _) _ _ _ ((Below.refl _ _).alloc (Nat.le_refl _) _)
  clear hN10 HW
  have hb11 : Below w.heap.size w w11 := bchain (by repeat' (first | with_reducible exact hb10 | with_reducible refine Below.drew ?_ | with_reducible refine below_drewN ?_ _ | with_reducible refine Below.alloc ?_ (by have := hb10.size; first | (simp; done) | (simp; omega) | omega) _ | with_reducible refine Below.setCell ?_ (by first | (simp; done) | (simp; omega) | omega) _)) hc11
  have hst11 : Below w10.heap.size w10 w11 := bchain (by repeat' (first | with_reducible exact Below.refl _ _ | with_reducible refine Below.drew ?_ | with_reducible refine below_drewN ?_ _ | with_reducible refine Below.alloc ?_ (by first | (simp; done) | (simp; omega) | omega) _ | with_reducible refine Below.setCell ?_ (by first | (simp; done) | (simp; omega) | omega) _)) hc11
  replace W_0 := cell_later hst11 W_0
  replace W_1 := cell_later hst11 W_1
  replace W_2 := cell_later hst11 W_2
  replace W_3 := cell_later hst11 W_3
  replace W_4 := cell_later hst11 W_4
  replace W_5 := cell_later hst11 W_5
  replace W_6 := cell_later hst11 W_6
  replace W_7 := cell_later hst11 W_7
  replace W_f0 := frozen_later hst11 W_l W_f0
  replace W_f1 := frozen_later hst11 W_l W_f1
  replace W_f2 := frozen_later hst11 W_l W_f2
  replace W_f3 := frozen_later hst11 W_l W_f3
  replace W_f4 := frozen_later hst11 W_l W_f4
  replace W_f5 := frozen_later hst11 W_l W_f5
  replace W_f6 := frozen_later hst11 W_l W_f6
  replace W_f7 := frozen_later hst11 W_l W_f7
  replace W_l := Nat.lt_of_lt_of_le W_l hst11.size
  replace hM2 := hM2.later hst11
  replace k2 := k2.later hst11
  replace hM4 := hM4.later hst11
  replace k4 := k4.later hst11
  replace hM6 := hM6.later hst11
  replace hM8 := hM8.later hst11
  replace k8 := k8.later hst11
  replace hA9 := hA9.later hst11
  clear hst11
  clear hc11
  obtain ⟨Q, hQ⟩ : ∃ Q : Nat, Q = na / 64 := ⟨_, rfl⟩
  have hQI : (na : Int).tdiv 64 = Q := by rw [hQ, Int.tdiv_eq_ediv_of_nonneg (by omega)]; omega
  obtain ⟨R, hR⟩ : ∃ R : Nat, R = Q * 64 := ⟨_, rfl⟩
  have hRI : (Q : Int) * 64 = R := by omega
  have hQb : (Q : Int) ≤ 500 := by omega
  have hRn : R ≤ na := by omega
  have H_hQ := Box.mk hQ
  have H_hR := Box.mk hR
  clear hQ hR
  have hm1b : m1 ≤ 140737488355328 := by have h1 := restL_len xs; have h2 := H_hm1.out; omega
  have hm2b : m2 ≤ 140737488355328 := by have h1 := restL_len zs; have h2 := H_hm2.out; omega
  have hcx := hxc.later hb11
  obtain ⟨a7, hsl, hcut, -⟩ := slice_from_any (P := Tryd.prog) ht_bytes hsz_bytes xa na xc R hRn hxl
  have hRx : (xs.map (Value.int .u8)).drop R = (restL xs).map (Value.int .u8) := by
    rw [← List.map_drop]; unfold restL; rw [H_hR.out, H_hQ.out, H_hna.out]
  have hcx := hcut _ _ hcx (by rw [List.length_map, H_hna.out])
  rw [hRx] at hcx
  have hmR : na - R = (restL xs).length := by
    have e := congrArg List.length hRx
    rw [List.length_drop, List.length_map, List.length_map, ← H_hna.out] at e
    exact e
  have heq := H_pq.out
  have hN1I := H_hN1I.out
  have hK11 := hK.later hb11
  have hw11 := hwf _ hb11
  have M_0 := hM6.cell (j := 0) (v := .int .u32 u2.a) rfl
  have M_1 := hM6.cell (j := 1) (v := .int .u32 u2.b) rfl
  have M_2 := hM6.cell (j := 2) (v := .int .u32 u2.c) rfl
  have M_3 := hM6.cell (j := 3) (v := .int .u32 u2.d) rfl
  have M_4 := hM6.cell (j := 4) (v := .int .u32 u2.e) rfl
  have M_5 := hM6.cell (j := 5) (v := .int .u32 u2.f) rfl
  have M_6 := hM6.cell (j := 6) (v := .int .u32 u2.g) rfl
  have M_7 := hM6.cell (j := 7) (v := .int .u32 u2.z) rfl
  have M_8 := hM6.cell (j := 8) (v := .slice a4 m2 c4) rfl
  have M_9 := hM6.cell (j := 9) (v := .int .i64 N2) rfl
  have M_l := hM6.lt
  have O_0 := hM8.cell (j := 0) (v := .int .u32 u2.a) rfl
  have O_1 := hM8.cell (j := 1) (v := .int .u32 u2.b) rfl
  have O_2 := hM8.cell (j := 2) (v := .int .u32 u2.c) rfl
  have O_3 := hM8.cell (j := 3) (v := .int .u32 u2.d) rfl
  have O_4 := hM8.cell (j := 4) (v := .int .u32 u2.e) rfl
  have O_5 := hM8.cell (j := 5) (v := .int .u32 u2.f) rfl
  have O_6 := hM8.cell (j := 6) (v := .int .u32 u2.g) rfl
  have O_7 := hM8.cell (j := 7) (v := .int .u32 u2.z) rfl
  have O_8 := hM8.cell (j := 8) (v := .slice a8 m2 c8) rfl
  have O_9 := hM8.cell (j := 9) (v := .int .i64 N2) rfl
  have O_l := hM8.lt
  have P_0 := hM4.cell (j := 8) (v := .slice a2 m1 c2) rfl
  have P_1 := hM4.cell (j := 9) (v := .int .i64 N1) rfl
  have P_l := hM4.lt
  have H_hcut := Box.mk hcut
  have H_hRx := Box.mk hRx
  have H_hmR := Box.mk hmR
  have H_hm1b := Box.mk hm1b
  have H_hm2b := Box.mk hm2b
  clear hcut hRx hmR hm1b hm2b
  go_wp2_with fail
  refine wp_gen fun w12 hc12 => ?_
  have hb12 : Below w.heap.size w w12 := bchain (by repeat' (first | with_reducible exact hb11 | with_reducible refine Below.drew ?_ | with_reducible refine below_drewN ?_ _ | with_reducible refine Below.alloc ?_ (by have := hb11.size; first | (simp; done) | (simp; omega) | omega) _ | with_reducible refine Below.setCell ?_ (by first | (simp; done) | (simp; omega) | omega) _)) hc12
  have hst12 : Below w11.heap.size w11 w12 := bchain (by repeat' (first | with_reducible exact Below.refl _ _ | with_reducible refine Below.drew ?_ | with_reducible refine below_drewN ?_ _ | with_reducible refine Below.alloc ?_ (by first | (simp; done) | (simp; omega) | omega) _ | with_reducible refine Below.setCell ?_ (by first | (simp; done) | (simp; omega) | omega) _)) hc12
  replace W_0 := cell_later hst12 W_0
  replace W_1 := cell_later hst12 W_1
  replace W_2 := cell_later hst12 W_2
  replace W_3 := cell_later hst12 W_3
  replace W_4 := cell_later hst12 W_4
  replace W_5 := cell_later hst12 W_5
  replace W_6 := cell_later hst12 W_6
  replace W_7 := cell_later hst12 W_7
  replace W_f0 := frozen_later hst12 W_l W_f0
  replace W_f1 := frozen_later hst12 W_l W_f1
  replace W_f2 := frozen_later hst12 W_l W_f2
  replace W_f3 := frozen_later hst12 W_l W_f3
  replace W_f4 := frozen_later hst12 W_l W_f4
  replace W_f5 := frozen_later hst12 W_l W_f5
  replace W_f6 := frozen_later hst12 W_l W_f6
  replace W_f7 := frozen_later hst12 W_l W_f7
  replace W_l := Nat.lt_of_lt_of_le W_l hst12.size
  replace M_0 := cell_later hst12 M_0
  replace M_1 := cell_later hst12 M_1
  replace M_2 := cell_later hst12 M_2
  replace M_3 := cell_later hst12 M_3
  replace M_4 := cell_later hst12 M_4
  replace M_5 := cell_later hst12 M_5
  replace M_6 := cell_later hst12 M_6
  replace M_7 := cell_later hst12 M_7
  replace M_8 := cell_later hst12 M_8
  replace M_9 := cell_later hst12 M_9
  replace M_l := Nat.lt_of_lt_of_le M_l hst12.size
  replace O_0 := cell_later hst12 O_0
  replace O_1 := cell_later hst12 O_1
  replace O_2 := cell_later hst12 O_2
  replace O_3 := cell_later hst12 O_3
  replace O_4 := cell_later hst12 O_4
  replace O_5 := cell_later hst12 O_5
  replace O_6 := cell_later hst12 O_6
  replace O_7 := cell_later hst12 O_7
  replace O_8 := cell_later hst12 O_8
  replace O_9 := cell_later hst12 O_9
  replace O_l := Nat.lt_of_lt_of_le O_l hst12.size
  replace P_0 := cell_later hst12 P_0
  replace P_1 := cell_later hst12 P_1
  replace P_l := Nat.lt_of_lt_of_le P_l hst12.size
  replace hM2 := hM2.later hst12
  replace k2 := k2.later hst12
  replace hM4 := hM4.later hst12
  replace k4 := k4.later hst12
  replace hM6 := hM6.later hst12
  replace hM8 := hM8.later hst12
  replace k8 := k8.later hst12
  replace hA9 := hA9.later hst12
  replace hA11 := hA11.later hst12
  replace hcx := hcx.later hst12
  replace hK11 := hK11.later hst12
  clear hst12
  have KM_0 := cell_on M_0
  have KM_1 := cell_on M_1
  have KM_2 := cell_on M_2
  have KM_3 := cell_on M_3
  have KM_4 := cell_on M_4
  have KM_5 := cell_on M_5
  have KM_6 := cell_on M_6
  have KM_7 := cell_on M_7
  have KM_8 := cell_on M_8
  have KM_9 := cell_on M_9
  have KO_0 := cell_on O_0
  have KO_1 := cell_on O_1
  have KO_2 := cell_on O_2
  have KO_3 := cell_on O_3
  have KO_4 := cell_on O_4
  have KO_5 := cell_on O_5
  have KO_6 := cell_on O_6
  have KO_7 := cell_on O_7
  have KO_8 := cell_on O_8
  have KO_9 := cell_on O_9
  have KP_0 := cell_on P_0
  have KP_1 := cell_on P_1
  have hw12 : 0 < w12.heap.size := hwf _ hb12
  refine wp_region_on (by kernel_rfl) (by kernel_rfl) ?_
  repeat (first | (refine wpQuiet_load_blk (by first | rfl | (simp [Region.wanted]; done)) 33 _ rfl (w8.heap.size) (by rfl) 33 pv _ hA9 Tryd.underlying33 rfl H_pi.out ?_; simp only [Act.put, List.setIfInBounds_toArray, List.set_cons_succ, List.set_cons_zero]) | (refine wpQuiet_load_blk (by first | rfl | (simp [Region.wanted]; done)) 33 _ rfl (w10.heap.size) (by rfl) 33 pv _ hA11 Tryd.underlying33 rfl H_pi.out ?_; simp only [Act.put, List.setIfInBounds_toArray, List.set_cons_succ, List.set_cons_zero]) | (go_big_quiet_step ((first | (go_at_call 13; with_reducible exact calls_on (same_self u2 u2 N2 (restL zs) a4 a8 m2 m2 c4 c8 _ rfl H_hm2.out H_hm2.out H_hm2b.out (k4.on _) (k8.on _))) | (go_at_call 14; with_reducible exact calls_on (sameBytes_self (restL xs) a2 a7 m1 (na - R) c2 (xc - R) _ H_hm1.out H_hmR.out H_hm1b.out (k2.on _) (hcx.on _))) | (go_at_call 25; with_reducible exact calls_on (alive_any _ (hK11.on _) (Nat.lt_of_lt_of_le hw12 (size_on _ _))))))))
  refine wpQuiet_nil ?_
  intro w13 hc13
  clear KM_0 KM_1 KM_2 KM_3 KM_4 KM_5 KM_6 KM_7 KM_8 KM_9 KO_0 KO_1 KO_2 KO_3 KO_4 KO_5 KO_6 KO_7 KO_8 KO_9 KP_0 KP_1
  have hb13 : Below w.heap.size w w13 := bchain (by repeat' (first | with_reducible exact hb12 | with_reducible refine Below.drew ?_ | with_reducible refine below_drewN ?_ _ | with_reducible refine Below.alloc ?_ (by have := hb12.size; first | (simp; done) | (simp; omega) | omega) _ | with_reducible refine Below.setCell ?_ (by first | (simp; done) | (simp; omega) | omega) _)) hc13
  have hst13 : Below w12.heap.size w12 w13 := bchain (by repeat' (first | with_reducible exact Below.refl _ _ | with_reducible refine Below.drew ?_ | with_reducible refine below_drewN ?_ _ | with_reducible refine Below.alloc ?_ (by first | (simp; done) | (simp; omega) | omega) _ | with_reducible refine Below.setCell ?_ (by first | (simp; done) | (simp; omega) | omega) _)) hc13
  replace W_0 := cell_later hst13 W_0
  replace W_1 := cell_later hst13 W_1
  replace W_2 := cell_later hst13 W_2
  replace W_3 := cell_later hst13 W_3
  replace W_4 := cell_later hst13 W_4
  replace W_5 := cell_later hst13 W_5
  replace W_6 := cell_later hst13 W_6
  replace W_7 := cell_later hst13 W_7
  replace W_f0 := frozen_later hst13 W_l W_f0
  replace W_f1 := frozen_later hst13 W_l W_f1
  replace W_f2 := frozen_later hst13 W_l W_f2
  replace W_f3 := frozen_later hst13 W_l W_f3
  replace W_f4 := frozen_later hst13 W_l W_f4
  replace W_f5 := frozen_later hst13 W_l W_f5
  replace W_f6 := frozen_later hst13 W_l W_f6
  replace W_f7 := frozen_later hst13 W_l W_f7
  replace W_l := Nat.lt_of_lt_of_le W_l hst13.size
  replace M_0 := cell_later hst13 M_0
  replace M_1 := cell_later hst13 M_1
  replace M_2 := cell_later hst13 M_2
  replace M_3 := cell_later hst13 M_3
  replace M_4 := cell_later hst13 M_4
  replace M_5 := cell_later hst13 M_5
  replace M_6 := cell_later hst13 M_6
  replace M_7 := cell_later hst13 M_7
  replace M_8 := cell_later hst13 M_8
  replace M_9 := cell_later hst13 M_9
  replace M_l := Nat.lt_of_lt_of_le M_l hst13.size
  replace O_0 := cell_later hst13 O_0
  replace O_1 := cell_later hst13 O_1
  replace O_2 := cell_later hst13 O_2
  replace O_3 := cell_later hst13 O_3
  replace O_4 := cell_later hst13 O_4
  replace O_5 := cell_later hst13 O_5
  replace O_6 := cell_later hst13 O_6
  replace O_7 := cell_later hst13 O_7
  replace O_8 := cell_later hst13 O_8
  replace O_9 := cell_later hst13 O_9
  replace O_l := Nat.lt_of_lt_of_le O_l hst13.size
  replace P_0 := cell_later hst13 P_0
  replace P_1 := cell_later hst13 P_1
  replace P_l := Nat.lt_of_lt_of_le P_l hst13.size
  replace hM2 := hM2.later hst13
  replace k2 := k2.later hst13
  replace hM4 := hM4.later hst13
  replace k4 := k4.later hst13
  replace hM6 := hM6.later hst13
  replace hM8 := hM8.later hst13
  replace k8 := k8.later hst13
  replace hA9 := hA9.later hst13
  replace hA11 := hA11.later hst13
  replace hcx := hcx.later hst13
  replace hK11 := hK11.later hst13
  clear hst13
  go_wp2_with fail
  go_ret
  exact ⟨rfl, by repeat' (first | with_reducible exact hb13 | with_reducible refine Below.drew ?_ | with_reducible refine below_drewN ?_ _ | with_reducible refine Below.alloc ?_ (by have := hb13.size; first | (simp; done) | (simp; omega) | omega) _ | with_reducible refine Below.setCell ?_ (by first | (simp; done) | (simp; omega) | omega) _)⟩

end Go.Proofs.YtlilodfddojlhaaDoor
