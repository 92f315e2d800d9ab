/- Sum and Pieces, of the program and of the reference. -/
import Derived.Test.YtfabcdpmnbeflaaDoorDigPieces
namespace Go.Proofs.YtfabcdpmnbeflaaDoor
set_option maxRecDepth 100000
set_option linter.unusedSimpArgs false
set_option linter.unusedVariables false
set_option linter.unnecessarySimpa false
open Go.RowKit

/-- What Pieces returns. -/
def sumP (l : List (List Int)) : List Int × Int := if 20 < l.length ∨ l.any longB = true then (List.replicate 32 0, 4) else (ofL l.flatten, 0)
theorem flat_take_succ {l : List (List Int)} {k : Nat} (h : k < l.length) : (l.take (k + 1)).flatten = (l.take k).flatten ++ pc l k := by
  rw [List.take_succ_eq_append_getElem h, List.flatten_append]
  simp [pc, List.getElem?_eq_getElem h]
theorem flat_lenP {l : List (List Int)} (h : l.any longB = false) : ∀ k, (l.take k).flatten.length ≤ 10000 * k
  | 0 => by simp
  | k + 1 => by
    by_cases hk : k < l.length
    · rw [flat_take_succ hk, List.length_append]
      have := flat_lenP h k
      have := pc_of_no h k
      omega
    · have := flat_lenP h k
      rw [List.take_of_length_le (by omega)] at this ⊢
      omega
theorem flat_bytes {w : World} {a : Option Addr} {vs : List Value} {l : List (List Int)} (h : PiecesIn w a vs l) : ∀ k, k ≤ l.length → Bytes8 (l.take k).flatten
  | 0, _ => fun x hx => by simp at hx
  | k + 1, hk => by
    rw [flat_take_succ (by omega)]
    obtain ⟨_, _, _, _, _, _, _, _, _, h8, _⟩ := h.at (i := k) (by omega)
    exact (flat_bytes h k (by omega)).append h8
/-- A mill that has ground the bytes, in memory. -/
def MillHas (w : World) (B : Nat) (bs : List Int) : Prop :=
  ∃ (u : V8) (a : Option Addr) (m c : Nat), Blk w B 95 [.int .u32 u.a, .int .u32 u.b, .int .u32 u.c, .int .u32 u.d, .int .u32 u.e, .int .u32 u.f, .int .u32 u.g, .int .u32 u.z, .slice a m c, .int .i64 bs.length] ∧ u.list = mill v0c.list bs ∧ m = (restL bs).length ∧ CellsAt w a ((restL bs).map (Value.int .u8))
theorem MillHas.later {w w' : World} {B : Nat} {bs : List Int} (h : MillHas w B bs) (hb : Below w.heap.size w w') : MillHas w' B bs :=
  let ⟨u, a, m, c, h1, h2, h3, h4⟩ := h
  ⟨u, a, m, c, h1.later hb, h2, h3, h4.later hb⟩

theorem mill_one (v : V8) (a : Option Addr) (m c : Nat) (N : Int) : ∀ u ∈ ([.int .u32 v.a, .int .u32 v.b, .int .u32 v.c, .int .u32 v.d, .int .u32 v.e, .int .u32 v.f, .int .u32 v.g, .int .u32 v.z, .slice a m c, .int .i64 N] : List Value), u.oneCell' = true := by
  intro u hu
  simp only [List.mem_cons, List.not_mem_nil, or_false] at hu
  rcases hu with rfl | rfl | rfl | rfl | rfl | rfl | rfl | rfl | rfl | rfl <;> rfl
set_option maxRecDepth 100000 in
set_option maxHeartbeats 4000000 in
theorem pieces_bad (l : List (List Int)) (vs : List Value) (a : Option Addr) (n c : Nat) (w : World) (hP : PiecesIn w a vs l) (hn : n = l.length) (hbad : 20 < n ∨ l.any longB = true) :
    Calls Tryd.prog 54 #[.slice a n c] w fun e w' =>
      e = idE (sumP l) ∧ Below w.heap.size w w' := by
  have HA := hid (show sumP l = (List.replicate 32 0, 4) by unfold sumP; rw [if_pos (by rw [← hn]; exact hbad)])
  by_cases h20 : 20 < n
  · have h20I : (20 : Int) < (n : Int) := by omega
    clear hn hbad
    go_enter Tryd.func54, Tryd.ntmps54
    have hb0 := Below.refl w.heap.size w
    go_wp2_with (refine wpList_store_blk rfl 24 _ _ rfl w.heap.size (by rfl) 24 _ (List.replicate 32 (Value.int .u8 0)) (by rfl) (Blk.newA _ _ _ _ (List.replicate 32 (Value.int .u8 0)) (by simp) (by rfl)) rfl info32r oneCell_zeros ?_; intro w7 hB7 he7; have H7 := hid he7; clear he7)
    go_wp2_with fail
    have hb7 : Below w.heap.size w w7 := H7.out ▸ below_setCells (Nat.le_refl _) _ _ _ ((Below.refl _ _).alloc (Nat.le_refl _) _)
    refine bodyPost_ret (results_blk2 (by rfl) _ _ w.heap.size 24 _ _ (.int .i64 4) rfl rfl hB7 Tryd.underlying24 rfl info32r) rfl ⟨?_, hb7⟩
    rw [HA.out, idE_mk]; simp
  · have hlg := hid (hbad.resolve_left h20)
    have h20I : (n : Int) ≤ 20 := by omega
    have hP1 := hP
    have H_hn := hid hn
    clear hn
    clear hbad h20
    go_enter Tryd.func54, Tryd.ntmps54
    have hb0 := Below.refl w.heap.size w
    go_wp2_with fail
    with_reducible refine (hasLong_any l vs a n c _ (hP.later ((Below.refl _ _).alloc (Nat.le_refl _) _)) H_hn.out).mono ?_
    rintro e w1 ⟨rfl, hc1⟩
    rw [hlg.out]
    have hI1 : Blk w1 w.heap.size 24 (List.replicate 32 (Value.int .u8 0)) := Blk.later (Blk.newA _ _ _ _ (List.replicate 32 (Value.int .u8 0)) (by simp) (by rfl)) hc1
    have hb1 : Below w.heap.size w w1 := bchain (by repeat' (first | with_reducible exact hb0 | with_reducible refine Below.drew ?_ | with_reducible refine below_drewN ?_ _ | with_reducible refine Below.alloc ?_ (by have := hb0.size; first | (simp; done) | (simp; omega) | omega) _ | with_reducible refine Below.setCell ?_ (by first | (simp; done) | (simp; omega) | omega) _)) hc1
    clear hc1
    go_wp2_with (refine wpList_store_blk rfl 24 _ _ rfl w.heap.size (by rfl) 24 _ (List.replicate 32 (Value.int .u8 0)) (by rfl) hI1 rfl info32r oneCell_zeros ?_; intro w7 hB7 he7; have H7 := hid he7; clear he7)
    go_wp2_with fail
    have hb7 : Below w.heap.size w w7 := H7.out ▸ below_setCells (Nat.le_refl _) _ _ _ hb1
    refine bodyPost_ret (results_blk2 (by rfl) _ _ w.heap.size 24 _ _ (.int .i64 4) rfl rfl hB7 Tryd.underlying24 rfl info32r) rfl ⟨?_, hb7⟩
    rw [HA.out, idE_mk]; simp

set_option maxRecDepth 100000 in
set_option maxHeartbeats 4000000 in
theorem pieces_ok (l : List (List Int)) (vs : List Value) (a : Option Addr) (n c : Nat) (w : World) (hP : PiecesIn w a vs l) (hn : n = l.length) (h20 : n ≤ 20) (hlong : l.any longB = false) (hK : CellsAt w (some ⟨1, 0, none⟩) (kcs.map (Value.int .u32))) (hw0 : 1 < w.heap.size) :
    Calls Tryd.prog 54 #[.slice a n c] w fun e w' =>
      e = idE (ofL l.flatten, 0) ∧ Below w.heap.size w w' := by
  have hlg := hid hlong
  have h20I : (n : Int) ≤ 20 := by omega
  have HFL := hid (flat_lenP hlong)
  have HF8 := hid (flat_bytes hP)
  have H_hn := hid hn
  clear hn
  clear hlong
  go_enter Tryd.func54, Tryd.ntmps54
  have hb0 := Below.refl w.heap.size w
  go_wp2_with fail
  with_reducible refine (hasLong_any l vs a n c _ (hP.later ((Below.refl _ _).alloc (Nat.le_refl _) _)) H_hn.out).mono ?_
  rintro e w1 ⟨rfl, hc1⟩
  rw [hlg.out]
  have hI : Blk w1 w.heap.size 24 (List.replicate 32 (Value.int .u8 0)) := Blk.later (Blk.newA _ _ _ _ (List.replicate 32 (Value.int .u8 0)) (by simp) (by rfl)) hc1
  have hb1 : Below w.heap.size w w1 := bchain (by repeat' (first | with_reducible exact hb0 | with_reducible refine Below.drew ?_ | with_reducible refine below_drewN ?_ _ | with_reducible refine Below.alloc ?_ (by have := hb0.size; first | (simp; done) | (simp; omega) | omega) _ | with_reducible refine Below.setCell ?_ (by first | (simp; done) | (simp; omega) | omega) _)) hc1
  clear hc1
  have hwf : ∀ W, Below w.heap.size w W → 1 < W.heap.size := fun W h => Nat.lt_of_lt_of_le hw0 h.size
  go_wp2_with fail
  with_reducible refine (start_any _).mono ?_
  rintro e w2 ⟨rfl, hc2⟩
  have hb2 : Below w.heap.size w w2 := bchain (by repeat' (first | with_reducible exact hb1 | with_reducible refine Below.drew ?_ | with_reducible refine below_drewN ?_ _ | with_reducible refine Below.alloc ?_ (by have := hb1.size; first | (simp; done) | (simp; omega) | omega) _ | with_reducible refine Below.setCell ?_ (by first | (simp; done) | (simp; omega) | omega) _)) hc2
  have hst2 : Below w1.heap.size w1 w2 := bchain (by repeat' (first | with_reducible exact Below.refl _ _ | with_reducible refine Below.drew ?_ | with_reducible refine below_drewN ?_ _ | with_reducible refine Below.alloc ?_ (by first | (simp; done) | (simp; omega) | omega) _ | with_reducible refine Below.setCell ?_ (by first | (simp; done) | (simp; omega) | omega) _)) hc2
  replace hI := hI.later hst2
  clear hst2
  clear hc2 hb1
  have zI := hI.lt
  have hN2 := Blk.newA w2 w2.heap.size _ 95 [.int .u32 0, .int .u32 0, .int .u32 0, .int .u32 0, .int .u32 0, .int .u32 0, .int .u32 0, .int .u32 0, .slice none 0 0, .int .i64 0] rfl rfl
  go_upto_region 4 with (refine wpList_store_blk rfl 95 _ _ rfl w2.heap.size (by rfl) 95 _ [.int .u32 v0c.a, .int .u32 v0c.b, .int .u32 v0c.c, .int .u32 v0c.d, .int .u32 v0c.e, .int .u32 v0c.f, .int .u32 v0c.g, .int .u32 v0c.z, .slice none 0 0, .int .i64 0] (by rfl) hN2 (by rfl) infoM (mill_one _ _ _ _ _) ?_; intro w3 hM he3; have H3 := hid he3; clear he3)
  have hc3 : Below w2.heap.size w2 w3 := H3.out ▸ below_setCells (Nat.le_refl _) _ _ _ ((Below.refl _ _).alloc (Nat.le_refl _) _)
  clear hN2
  have hb3 : Below w.heap.size w w3 := bchain (by repeat' (first | with_reducible exact hb2 | with_reducible refine Below.drew ?_ | with_reducible refine below_drewN ?_ _ | with_reducible refine Below.alloc ?_ (by have := hb2.size; first | (simp; done) | (simp; omega) | omega) _ | with_reducible refine Below.setCell ?_ (by first | (simp; done) | (simp; omega) | omega) _)) hc3
  have hst3 : Below w2.heap.size w2 w3 := bchain (by repeat' (first | with_reducible exact Below.refl _ _ | with_reducible refine Below.drew ?_ | with_reducible refine below_drewN ?_ _ | with_reducible refine Below.alloc ?_ (by first | (simp; done) | (simp; omega) | omega) _ | with_reducible refine Below.setCell ?_ (by first | (simp; done) | (simp; omega) | omega) _)) hc3
  replace hI := hI.later hst3
  clear hst3
  clear hc3 hb2 H3
  have z3 := hM.lt
  have z2 : w.heap.size < w2.heap.size := zI
  have hMH : MillHas w3 w2.heap.size (l.take 0).flatten := by rw [List.take_zero, List.flatten_nil]; exact ⟨v0c, none, 0, 0, hM, rfl, rfl, .inl rfl⟩
  have r0 := Below.refl w3.heap.size w3
  go_wp2_with fail
  go_loopw [18] (fun q wr => ∃ (k : Nat), k ≤ n ∧ q = .int .i64 k ∧ Below w.heap.size w wr ∧ Blk wr w.heap.size 24 (List.replicate 32 (Value.int .u8 0)) ∧ MillHas wr w2.heap.size (l.take k).flatten) (fun q _ => n - (intOf q).toNat)
  case atStart => exact ⟨0, Nat.zero_le _, rfl, hb3, hI, hMH⟩
  case round =>
    clear hb3 hI hMH hM r0 z3 zI
    obtain ⟨k, hk, rfl, hbw, hI, ⟨u, ar, m, cr, hM, hu, hm, kr⟩⟩ := hrel
    obtain ⟨bs, hbs⟩ : ∃ bs, bs = (l.take k).flatten := ⟨_, rfl⟩
    rw [← hbs] at hM hu hm kr
    have hN : bs.length ≤ 200000 := by have := HFL.out k; rw [← hbs] at this; omega
    obtain ⟨N, hNe⟩ : ∃ N, N = bs.length := ⟨_, rfl⟩
    rw [← hNe] at hM hN
    have hNI : (N : Int) ≤ 200000 := by omega
    have hm64 : m ≤ 64 := by rw [hm, restL_len]; omega
    have huk := mill_ok v0c_ok bs hu
    have hb8 : Bytes8 bs := hbs ▸ HF8.out k (by have := H_hn.out; omega)
    have M_0 := hM.cell (j := 0) (v := .int .u32 u.a) rfl
    have M_1 := hM.cell (j := 1) (v := .int .u32 u.b) rfl
    have M_2 := hM.cell (j := 2) (v := .int .u32 u.c) rfl
    have M_3 := hM.cell (j := 3) (v := .int .u32 u.d) rfl
    have M_4 := hM.cell (j := 4) (v := .int .u32 u.e) rfl
    have M_5 := hM.cell (j := 5) (v := .int .u32 u.f) rfl
    have M_6 := hM.cell (j := 6) (v := .int .u32 u.g) rfl
    have M_7 := hM.cell (j := 7) (v := .int .u32 u.z) rfl
    have M_8 := hM.cell (j := 8) (v := .slice ar m cr) rfl
    have M_9 := hM.cell (j := 9) (v := .int .i64 N) rfl
    have H_hbs := hid hbs
    have H_hu := hid hu
    have H_hm := hid hm
    have H_huk := hid huk
    have H_hNe := hid hNe
    clear hbs hu hm huk hNe
    by_cases hlt : k < n
    · have hlt' : (k : Int) < (n : Int) := by omega
      obtain ⟨b, o, x, p, cp, rfl, cc, hp, kx, h8x, hpm⟩ := (hP.later hbw).at (i := k) (by have := H_hn.out; omega)
      have Hp := hid hp
      have hsum : m + p ≤ 140737488355327 := by
        have h1 := HFL.out (k + 1)
        rw [flat_take_succ (by have := H_hn.out; omega), List.length_append, ← hp] at h1
        omega
      clear hp
      go_wp2_with fail
      with_reducible refine (feed_any u (restL bs) (pc l k) N ar x m cr p cp _ H_huk.out H_hm.out Hp.out kr kx hb8.rest h8x (hK.later hbw) (hwf _ hbw) hsum (by omega) (by omega)).mono ?_
      rintro e w5 ⟨u2, a2, m2, c2, rfl, hu2, hm2, o2, hc5⟩
      have hM5 := hM.later hc5
      have z2M := hM5.lt
      have hI5 := hI.later hc5
      have hb5 := bchain hbw hc5
      have Hu2 := hid hu2
      have Hm2 := hid hm2
      have z5 := hc5.size
      have zM := hM.lt
      clear hu2 hm2 hM hI hc5 M_0 M_1 M_2 M_3 M_4 M_5 M_6 M_7 M_8 M_9 cc
      go_wp2_with (refine wpList_store_blk rfl 95 _ _ rfl w2.heap.size (by rfl) 95 _ [.int .u32 u2.a, .int .u32 u2.b, .int .u32 u2.c, .int .u32 u2.d, .int .u32 u2.e, .int .u32 u2.f, .int .u32 u2.g, .int .u32 u2.z, .slice a2 m2 c2, .int .i64 ((N : Int) + (p : Int))] (by rfl) hM5 (by rfl) infoM (mill_one _ _ _ _ _) ?_; intro w6 hM6 he6; have H6 := hid he6; clear he6)
      go_wp2_with fail
      go_roundw
      case rel =>
        have hb6 : Below w.heap.size w w6 := H6.out ▸ below_setCells (Nat.le_of_lt z2) _ _ _ hb5
        refine ⟨k + 1, by omega, by go_num, hb6, H6.out ▸ Blk.setCellsFar (by omega) _ _ _ hI5, ?_⟩
        have e1 : (l.take (k + 1)).flatten = bs ++ pc l k := by rw [H_hbs.out]; exact flat_take_succ (by have := H_hn.out; omega)
        rw [e1]
        have e2 : ((bs ++ pc l k).length : Int) = (N : Int) + (p : Int) := by rw [List.length_append, H_hNe.out, Hp.out]; omega
        refine ⟨u2, a2, m2, c2, ?_, ?_, ?_, ?_⟩
        · rw [e2]; exact hM6
        · rw [Hu2.out, H_hu.out, mill_append]
        · rw [Hm2.out, ← restL_append]
          unfold restL
          rw [List.length_drop]; omega
        · rw [← restL_append]
          exact H6.out ▸ CellsAt.setCellsFar (fun ad e => by have := (o2.addr ad e).1; omega) _ _ _ o2.cellsAt
      case measure => simp [intOf]; omega
    · have hge : (n : Int) ≤ (k : Int) := by omega
      obtain ⟨ws, hws⟩ : ∃ ws, ws = (ofL l.flatten).map (Value.int .u8) := ⟨_, rfl⟩
      have hvl : ws.length = 32 := by rw [hws, List.length_map, ofL_len]
      have ho : ∀ x ∈ ws, x.oneCell' = true := by rw [hws]; exact oneCell_ints _ _
      have hi2 : (Tryd.prog.info? 24).map (·.size) = some ws.length := by rw [hvl]; exact info32
      have hlr : ws.length = (List.replicate 32 (Value.int .u8 0)).length := by rw [hvl]; rfl
      have hof := hid (show endL u.list (restL bs) N = ofL l.flatten by
        have hb : bs = l.flatten := by rw [H_hbs.out, List.take_of_length_le (by have := H_hn.out; omega)]
        rw [H_hu.out, H_hNe.out, endL_of, hb])
      have hmN := hid (show m = N % 64 by rw [H_hm.out, restL_len, H_hNe.out])
      have H_hws := hid hws
      have H_hvl := hid hvl
      have H_ho := hid ho
      have H_hi2 := hid hi2
      have H_hlr := hid hlr
      clear hws hvl ho hi2 hlr
      go_wp2_with fail
      with_reducible refine (end_any u (restL bs) N ar m cr _ H_huk.out H_hm.out kr hb8.rest (hK.later hbw) (hwf _ hbw) hN hmN.out).mono ?_
      rintro e w5 ⟨rfl, hc5⟩
      rw [hof.out, ← H_hws.out]
      have hI5 := hI.later hc5
      have hb5 := bchain hbw hc5
      clear hc5 M_0 M_1 M_2 M_3 M_4 M_5 M_6 M_7 M_8 M_9 hM hI kr
      go_wp2_with (refine wpList_store_blk rfl 24 _ _ rfl w.heap.size (by rfl) 24 _ ws (by rfl) hI5 H_hlr.out H_hi2.out H_ho.out ?_; intro w7 hB7 he7; have H7 := hid he7; clear he7)
      go_wp2_with fail
      have hb7 : Below w.heap.size w w7 := H7.out ▸ below_setCells (Nat.le_refl _) _ _ _ hb5
      refine bodyPost_ret (results_blk2 (by rfl) _ _ w.heap.size 24 _ _ (.int .i64 0) rfl rfl hB7 Tryd.underlying24 rfl H_hi2.out) rfl ⟨?_, hb7⟩
      rw [idE_mk, H_hws.out]

end Go.Proofs.YtfabcdpmnbeflaaDoor
