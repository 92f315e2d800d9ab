/- The reference's Whole, Of, Pieces, Sum, Long; the program's Sum. -/
import Derived.Test.YtfabcdpmnbeflaaDoorDigSums
namespace Go.Proofs.YtfabcdpmnbeflaaDoor
set_option maxRecDepth 100000
set_option linter.unusedSimpArgs false
set_option linter.unusedVariables false
set_option linter.unnecessarySimpa false
open Go.RowKit

set_option maxRecDepth 100000 in
set_option maxHeartbeats 4000000 in
theorem of_any (bs : List Int) (a : Option Addr) (n c : Nat) (w : World) (hn : n = bs.length) (hb : CellsAt w a (bs.map (Value.int .u8))) (h8 : Bytes8 bs) (hnl : n ≤ 1099511627776) :
    Calls Tryd.prog 57 #[.slice a n c] w fun e w' =>
      e = .returned (.agg ((ofL bs).map (Value.int .u8)).toArray) ∧ Below w.heap.size w w' := by
  obtain ⟨i0, hi, hz0, hz1, hz2⟩ := info_parts info_u8
  obtain ⟨ts, hts⟩ : ∃ ts, ts = tailL n := ⟨_, rfl⟩
  obtain ⟨z, hz⟩ : ∃ z, z = 9 + zn n := ⟨_, rfl⟩
  have hzl : z ≤ 100 := by have := zn_lt n; omega
  obtain ⟨m, hm⟩ : ∃ m, n + z = m := ⟨_, rfl⟩
  have hml : m ≤ 1199511627776 := by omega
  obtain ⟨xs, hxs⟩ : ∃ xs, xs = bs ++ ts := ⟨_, rfl⟩
  have hx8 : Bytes8 xs := hxs ▸ h8.append (hts ▸ tailL_bytes n)
  have hxl : m = xs.length := by rw [hxs, List.length_append, hts, tailL_len, ← hn]; omega
  obtain ⟨u, hu⟩ := V8.of_list (mill v0c.list xs) ((grindN_len _ _ _).trans rfl)
  have huk := mill_ok v0c_ok xs hu
  have hl1 : (bs.map (Value.int .u8)).length = n * 1 := by rw [List.length_map, ← hn, Nat.mul_one]
  have hl2 : (ts.map (Value.int .u8)).length = z * 1 := by rw [List.length_map, hts, tailL_len, Nat.mul_one]; omega
  have hnI : (n : Int) ≤ 1099511627776 := by omega
  have hres := hid (show wr32 u.list 32 = ofL bs by rw [hu, hxs, hts, hn]; rfl)
  have H_hn := hid hn
  have H_hts := hid hts
  have H_hz := hid hz
  have H_hm := hid hm
  have H_hxs := hid hxs
  have H_hxl := hid hxl
  have H_hu := hid hu
  have H_huk := hid huk
  have H_hl1 := hid hl1
  have H_hl2 := hid hl2
  clear hn hts hz hm hxs hxl hu huk hl1 hl2
  go_enter Tryd.func57, Tryd.ntmps57
  have hb0 := Below.refl w.heap.size w
  go_wp2_with fail
  with_reducible refine (first_any _).mono ?_
  rintro e w1 ⟨rfl, hc1⟩
  have hI : Blk w1 w.heap.size 24 (List.replicate 32 (Value.int .u8 0)) := Blk.later (Blk.newA _ _ _ _ (List.replicate 32 (Value.int .u8 0)) (by simp) (by rfl)) hc1
  have hb1 : Below w.heap.size w w1 := bchain (by repeat' (first | with_reducible exact hb0 | with_reducible refine Below.drew ?_ | with_reducible refine below_drewN ?_ _ | with_reducible refine Below.alloc ?_ (by have := hb0.size; first | (simp; done) | (simp; omega) | omega) _ | with_reducible refine Below.setCell ?_ (by first | (simp; done) | (simp; omega) | omega) _)) hc1
  clear hc1
  have kb := hb.later hb1
  have zI := hI.lt
  clear hb
  go_wp2_with (at_builtin; refine stop ?_)
  refine Stop.go ?_
  refine wpList_append_cup _ rfl _ _ 39 rfl w1.heap.size 5 i0 (.int .u8 0) 1 1 Tryd.underlying39 hi hz0 hz1 hz2 rfl (by decide) (.slice (some ⟨w1.heap.size, 0, none⟩) 0 0) 0 [] rfl (CupX.zero _ _ _ _ _) a n c (bs.map (Value.int .u8)) rfl H_hl1.out (kb.alloc _) (ints_oneCell _ _) n (Nat.zero_add _) (by unfold maxLen; omega) (by omega) (by simp) ?_
  intro a5 c5 w5 o5 hb5
  have hc5 : Below w1.heap.size w1 w5 := Below.trans ((Below.refl _ _).alloc (Nat.le_refl _) _) hb5
  have hI5 := hI.later hc5
  have hbw5 := bchain hb1 hc5
  have z5 := hc5.size
  clear hb5 hc5 hI kb
  go_wp2_with fail
  with_reducible refine (tail_any n _ hnl).mono ?_
  rintro e w6 ⟨a6, c6, rfl, o6, hc6⟩
  rw [← H_hz.out] at o6
  rw [← H_hts.out] at o6
  rw [← H_hz.out]
  have o56 := o5.later hc6
  have hI6 := hI5.later hc6
  have hbw6 := bchain hbw5 hc6
  have z6 := hc6.size
  clear hc6 o5 hI5
  go_wp2_with (at_builtin; refine stop ?_)
  refine Stop.go ?_
  refine wpList_append_cup _ rfl _ _ 39 rfl w1.heap.size 5 i0 (.int .u8 0) 1 1 Tryd.underlying39 hi hz0 hz1 hz2 rfl (by decide) (.slice a5 n c5) n _ rfl o56 a6 z c6 (ts.map (Value.int .u8)) rfl H_hl2.out o6.cellsAt (ints_oneCell _ _) m H_hm.out (by unfold maxLen; omega) (by omega) (by omega) ?_
  intro a7 c7 w7 o7 hb7
  have hI7 := hI6.below hb7 zI
  have hbw7 : Below w.heap.size w w7 := hbw6.trans (hb7.mono hb1.size)
  have z7 := hb7.size
  clear hb7 hI6 o6 o56
  obtain ⟨h7c, k7⟩ := o7.cells
  rw [List.nil_append, ← List.map_append, ← H_hxs.out] at k7
  clear o7
  go_wp2_with fail
  with_reducible refine (blocks_v u v0c xs a7 m c7 _ v0c_ok H_hxl.out h7c (by omega) k7 hx8 H_hu.out).mono ?_
  rintro e w8 ⟨rfl, hc8⟩
  have hI8 := hI7.later hc8
  have hbw8 := bchain hbw7 hc8
  clear hc8 hI7 k7
  go_wp2_with fail
  with_reducible refine (written_any u _ H_huk.out).mono ?_
  rintro e w9 ⟨rfl, hc9⟩
  have hI9 := hI8.later hc9
  have hbw9 := bchain hbw8 hc9
  clear hc9 hI8
  obtain ⟨ws, hws⟩ : ∃ ws, ws = (wr32 u.list 32).map (Value.int .u8) := ⟨_, rfl⟩
  have hvl : ws.length = 32 := by rw [hws, List.length_map, wr32_len]
  have ho : ∀ x ∈ ws, x.oneCell' = true := by rw [hws]; exact oneCell_ints _ _
  have hi2 : (Tryd.prog.info? 24).map (·.size) = some ws.length := by rw [hvl]; exact info32
  have hlr : ws.length = (List.replicate 32 (Value.int .u8 0)).length := by rw [hvl]; rfl
  rw [← hws]
  have H_hws := hid hws
  have H_hvl := hid hvl
  have H_ho := hid ho
  have H_hi2 := hid hi2
  have H_hlr := hid hlr
  clear hws hvl ho hi2 hlr
  go_wp2_with (refine wpList_store_blk rfl 24 _ _ rfl w.heap.size (by rfl) 24 _ ws (by rfl) hI9 H_hlr.out H_hi2.out H_ho.out ?_; intro wz hBz hez; have Hz := hid hez; clear hez)
  go_wp2_with fail
  have hbz : Below w.heap.size w wz := Hz.out ▸ below_setCells (Nat.le_refl _) _ _ _ hbw9
  refine bodyPost_ret (results_blk (by rfl) _ _ w.heap.size 24 _ _ rfl hBz Tryd.underlying24 rfl H_hi2.out) rfl ⟨?_, hbz⟩
  rw [H_hws.out, hres.out]

theorem pieces_any (l : List (List Int)) (vs : List Value) (a : Option Addr) (n c : Nat) (w : World) (hP : PiecesIn w a vs l) (hn : n = l.length) (hK : CellsAt w (some ⟨1, 0, none⟩) (kcs.map (Value.int .u32))) (hw0 : 1 < w.heap.size) :
    Calls Tryd.prog 54 #[.slice a n c] w fun e w' =>
      e = idE (sumP l) ∧ Below w.heap.size w w' := by
  by_cases h20 : 20 < n
  · exact pieces_bad l vs a n c w hP hn (.inl h20)
  · cases hlg : l.any longB with
    | true => exact pieces_bad l vs a n c w hP hn (.inr hlg)
    | false =>
      have : sumP l = (ofL l.flatten, 0) := by
        unfold sumP
        rw [if_neg (by rintro (h | h); omega; rw [hlg] at h; cases h)]
      rw [this]
      exact pieces_ok l vs a n c w hP hn (by omega) hlg hK hw0
theorem sumP_len (l : List (List Int)) : (sumP l).1.length = 32 := by
  unfold sumP
  split
  · simp
  · simp only [ofL_len]
theorem pieces_one {w : World} {a : Option Addr} {n c : Nat} {bs : List Int} {B : Nat} {t : TypeId} (hB : Blk w B t [.slice a n c]) (hn : n = bs.length) (hb : CellsAt w a (bs.map (Value.int .u8))) (h8 : Bytes8 bs) (hl : bs.length ≤ maxLen) : PiecesIn w (some ⟨B, 0, none⟩) [.slice a n c] [bs] :=
  ⟨.inr ⟨B, 0, rfl, fun j u hj => by rw [Nat.zero_add]; exact hB.cell hj⟩, ⟨⟨a, c, by rw [hn], hb, h8, hl⟩, trivial⟩, rfl, by simp [maxLen]⟩

set_option maxRecDepth 100000 in
set_option maxHeartbeats 4000000 in
theorem sum_any (bs : List Int) (a : Option Addr) (n c : Nat) (w : World) (hn : n = bs.length) (hb : CellsAt w a (bs.map (Value.int .u8))) (h8 : Bytes8 bs) (hl : bs.length ≤ maxLen) (hK : CellsAt w (some ⟨1, 0, none⟩) (kcs.map (Value.int .u32))) (hw0 : 1 < w.heap.size) :
    Calls Tryd.prog 42 #[.slice a n c] w fun e w' =>
      e = idE (sumP [bs]) ∧ Below w.heap.size w w' := by
  obtain ⟨dl, de, hD⟩ : ∃ dl de, sumP [bs] = (dl, de) := ⟨_, _, rfl⟩
  have hdl : dl.length = 32 := by have := sumP_len [bs]; rw [hD] at this; exact this
  rw [hD, idE_mk]
  obtain ⟨dv, hdv⟩ : ∃ dv, dv = dl.map (Value.int .u8) := ⟨_, rfl⟩
  rw [← hdv]
  have hvl : dv.length = 32 := by rw [hdv, List.length_map, hdl]
  have ho : ∀ x ∈ dv, x.oneCell' = true := by rw [hdv]; exact oneCell_ints _ _
  have hi2 : (Tryd.prog.info? 24).map (·.size) = some dv.length := by rw [hvl]; exact info32
  have hlr : dv.length = (List.replicate 32 (Value.int .u8 0)).length := by rw [hvl]; rfl
  have H_hdv := hid hdv
  have H_hvl := hid hvl
  have H_ho := hid ho
  have H_hi2 := hid hi2
  have H_hlr := hid hlr
  clear hdv hvl ho hi2 hlr
  have hp := fun (w' : World) (B : Nat) (hP : PiecesIn w' (some ⟨B, 0, none⟩) [.slice a n c] [bs]) (hK : CellsAt w' (some ⟨1, 0, none⟩) (kcs.map (Value.int .u32))) (hw0 : 1 < w'.heap.size) => by
    have := pieces_any [bs] [.slice a n c] (some ⟨B, 0, none⟩) 1 1 w' hP rfl hK hw0
    rw [hD, idE_mk, ← H_hdv.out] at this
    exact this
  have H_hD := hid hD
  have H_hn := hid hn
  have H_hdl := hid hdl
  clear hD hn hdl
  go_enter Tryd.func42, Tryd.ntmps42
  have hb0 := Below.refl w.heap.size w
  go_wp2_with fail
  with_reducible refine (hp _ (w.heap.size + 1) (pieces_one (Blk.newA _ _ _ _ [.slice a n c] (by simp) rfl) H_hn.out ((by repeat' (first | with_reducible exact hb | with_reducible refine CellsAt.setFar ?_ ?_ _ | with_reducible refine CellsAt.alloc ?_ _ | with_reducible refine CellsAt.drew ?_ | with_reducible refine CellsAt.drewN ?_ _ | assumption | (simp; omega) | omega))) h8 hl) ((by repeat' (first | with_reducible exact hK | with_reducible refine CellsAt.setFar ?_ ?_ _ | with_reducible refine CellsAt.alloc ?_ _ | with_reducible refine CellsAt.drew ?_ | with_reducible refine CellsAt.drewN ?_ _ | assumption | (simp; omega) | omega))) (by first | (simp; done) | (simp; omega))).mono ?_
  rintro e w1 ⟨rfl, hc1⟩
  have hI : Blk w1 w.heap.size 24 (List.replicate 32 (Value.int .u8 0)) := Blk.later (Blk.alloc (Blk.newA _ _ _ _ (List.replicate 32 (Value.int .u8 0)) (by simp) (by rfl)) _) hc1
  have hb1 : Below w.heap.size w w1 := bchain (by repeat' (first | with_reducible exact hb0 | with_reducible refine Below.drew ?_ | with_reducible refine below_drewN ?_ _ | with_reducible refine Below.alloc ?_ (by have := hb0.size; first | (simp; done) | (simp; omega) | omega) _ | with_reducible refine Below.setCell ?_ (by first | (simp; done) | (simp; omega) | omega) _)) hc1
  clear hc1
  go_wp2_with (refine wpList_store_blk rfl 24 _ _ rfl w.heap.size (by rfl) 24 _ dv (by rfl) hI H_hlr.out H_hi2.out H_ho.out ?_; intro wz hBz hez; have Hz := hid hez; clear hez)
  go_wp2_with fail
  have hbz : Below w.heap.size w wz := Hz.out ▸ below_setCells (Nat.le_refl _) _ _ _ hb1
  exact bodyPost_ret (results_blk2 (by rfl) _ _ w.heap.size 24 _ _ (.int .i64 de) rfl rfl hBz Tryd.underlying24 rfl H_hi2.out) rfl ⟨rfl, hbz⟩
/-- What Long hands back. -/
def LongR (l : List (List Int)) (e : Ending) : Prop := ∃ b : Bool, e = .returned (.bool b) ∧ (b = false → l.length ≤ 30)
end Go.Proofs.YtfabcdpmnbeflaaDoor
