/- The reference's Whole, Of, Pieces, Sum, Long; the program's Sum. -/
import Derived.Test.YtlilodfddojlhaaDoorDigSums
namespace Go.Proofs.YtlilodfddojlhaaDoor
set_option linter.unusedSimpArgs false
set_option linter.unusedVariables false
set_option linter.unnecessarySimpa false
open Go.RowKit

set_option maxRecDepth 100000 in
set_option maxHeartbeats 4000000 in
theorem of_any (bs : List Int) (a : Option Addr) (n c : Nat) (w : World) (hn : n = bs.length) (hb : CellsAt w a (bs.map (Value.int .u8))) (h8 : Bytes8 bs) (hnl : n ≤ 1099511627776) :
    Calls Tryd.prog 35 #[.slice a n c] w fun e w' =>
      e = .returned (.agg ((ofL bs).map (Value.int .u8)).toArray) ∧ Below w.heap.size w w' := by
  obtain ⟨i0, hi, hz0, hz1, hz2⟩ := info_parts info_u8
  obtain ⟨ts, hts⟩ : ∃ ts, ts = tailL n := ⟨_, rfl⟩
  obtain ⟨z, hz⟩ : ∃ z, z = 9 + zn n := ⟨_, rfl⟩
  have hzl : z ≤ 100 := by have := zn_lt n; omega
  obtain ⟨m, hm⟩ : ∃ m, n + z = m := ⟨_, rfl⟩
  have hml : m ≤ 1199511627776 := by omega
  obtain ⟨xs, hxs⟩ : ∃ xs, xs = bs ++ ts := ⟨_, rfl⟩
  have hx8 : Bytes8 xs := hxs ▸ h8.append (hts ▸ tailL_bytes n)
  have hxl : m = xs.length := by rw [hxs, List.length_append, hts, tailL_len, ← hn]; omega
  obtain ⟨u, hu⟩ := V8.of_list (mill v0c.list xs) ((grindN_len _ _ _).trans rfl)
  have huk := mill_ok v0c_ok xs hu
  have hl1 : (bs.map (Value.int .u8)).length = n * 1 := by rw [List.length_map, ← hn, Nat.mul_one]
  have hl2 : (ts.map (Value.int .u8)).length = z * 1 := by rw [List.length_map, hts, tailL_len, Nat.mul_one]; omega
  have hnI : (n : Int) ≤ 1099511627776 := by omega
  have hres := hid (show wr32 u.list 32 = ofL bs by rw [hu, hxs, hts, hn]; rfl)
  have H_hn := hid hn
  have H_hts := hid hts
  have H_hz := hid hz
  have H_hm := hid hm
  have H_hxs := hid hxs
  have H_hxl := hid hxl
  have H_hu := hid hu
  have H_huk := hid huk
  have H_hl1 := hid hl1
  have H_hl2 := hid hl2
  clear hn hts hz hm hxs hxl hu huk hl1 hl2
  go_enter Tryd.func35, Tryd.ntmps35
  have hb0 := Below.refl w.heap.size w
  go_wp2_with fail
  with_reducible refine (first_any _).mono ?_
  rintro e w1 ⟨rfl, hc1⟩
  have hI : Blk w1 w.heap.size 33 (List.replicate 32 (Value.int .u8 0)) := Blk.later (Blk.newA _ _ _ _ (List.replicate 32 (Value.int .u8 0)) (by simp) (by rfl)) hc1
  have hb1 : Below w.heap.size w w1 := bchain (by repeat' (first | with_reducible exact hb0 | with_reducible refine Below.drew ?_ | with_reducible refine below_drewN ?_ _ | with_reducible refine Below.alloc ?_ (by have := hb0.size; first | (simp; done) | (simp; omega) | omega) _ | with_reducible refine Below.setCell ?_ (by first | (simp; done) | (simp; omega) | omega) _)) hc1
  clear hc1
  have kb := hb.later hb1
  have zI := hI.lt
  clear hb
  go_wp2_with (at_builtin; refine stop ?_)
  refine Stop.go ?_
  refine wpList_append_cup _ rfl _ _ 24 rfl w1.heap.size 5 i0 (.int .u8 0) 1 1 Tryd.underlying24 hi hz0 hz1 hz2 rfl (by decide) (.slice (some ⟨w1.heap.size, 0, none⟩) 0 0) 0 [] rfl (CupX.zero _ _ _ _ _) a n c (bs.map (Value.int .u8)) rfl H_hl1.out (kb.alloc _) (ints_oneCell _ _) n (Nat.zero_add _) (by unfold maxLen; omega) (by omega) (by simp) ?_
  intro a5 c5 w5 o5 hb5
  have hc5 : Below w1.heap.size w1 w5 := Below.trans ((Below.refl _ _).alloc (Nat.le_refl _) _) hb5
  have hI5 := hI.later hc5
  have hbw5 := bchain hb1 hc5
  have z5 := hc5.size
  clear hb5 hc5 hI kb
  go_wp2_with fail
  with_reducible refine (tail_any n _ hnl).mono ?_
  rintro e w6 ⟨a6, c6, rfl, o6, hc6⟩
  rw [← H_hz.out] at o6
  rw [← H_hts.out] at o6
  rw [← H_hz.out]
  have o56 := o5.later hc6
  have hI6 := hI5.later hc6
  have hbw6 := bchain hbw5 hc6
  have z6 := hc6.size
  clear hc6 o5 hI5
  go_wp2_with (at_builtin; refine stop ?_)
  refine Stop.go ?_
  refine wpList_append_cup _ rfl _ _ 24 rfl w1.heap.size 5 i0 (.int .u8 0) 1 1 Tryd.underlying24 hi hz0 hz1 hz2 rfl (by decide) (.slice a5 n c5) n _ rfl o56 a6 z c6 (ts.map (Value.int .u8)) rfl H_hl2.out o6.cellsAt (ints_oneCell _ _) m H_hm.out (by unfold maxLen; omega) (by omega) (by omega) ?_
  intro a7 c7 w7 o7 hb7
  have hI7 := hI6.below hb7 zI
  have hbw7 : Below w.heap.size w w7 := hbw6.trans (hb7.mono hb1.size)
  have z7 := hb7.size
  clear hb7 hI6 o6 o56
  obtain ⟨h7c, k7⟩ := o7.cells
  rw [List.nil_append, ← List.map_append, ← H_hxs.out] at k7
  clear o7
  go_wp2_with fail
  with_reducible refine (blocks_v u v0c xs a7 m c7 _ v0c_ok H_hxl.out h7c (by omega) k7 hx8 H_hu.out).mono ?_
  rintro e w8 ⟨rfl, hc8⟩
  have hI8 := hI7.later hc8
  have hbw8 := bchain hbw7 hc8
  clear hc8 hI7 k7
  go_wp2_with fail
  with_reducible refine (written_any u _ H_huk.out).mono ?_
  rintro e w9 ⟨rfl, hc9⟩
  have hI9 := hI8.later hc9
  have hbw9 := bchain hbw8 hc9
  clear hc9 hI8
  obtain ⟨ws, hws⟩ : ∃ ws, ws = (wr32 u.list 32).map (Value.int .u8) := ⟨_, rfl⟩
  have hvl : ws.length = 32 := by rw [hws, List.length_map, wr32_len]
  have ho : ∀ x ∈ ws, x.oneCell' = true := by rw [hws]; exact oneCell_ints _ _
  have hi2 : (Tryd.prog.info? 33).map (·.size) = some ws.length := by rw [hvl]; exact info32
  have hlr : ws.length = (List.replicate 32 (Value.int .u8 0)).length := by rw [hvl]; rfl
  rw [← hws]
  have H_hws := hid hws
  have H_hvl := hid hvl
  have H_ho := hid ho
  have H_hi2 := hid hi2
  have H_hlr := hid hlr
  clear hws hvl ho hi2 hlr
  go_wp2_with (refine wpList_store_blk rfl 33 _ _ rfl w.heap.size (by rfl) 33 _ ws (by rfl) hI9 H_hlr.out H_hi2.out H_ho.out ?_; intro wz hBz hez; have Hz := hid hez; clear hez)
  go_wp2_with fail
  have hbz : Below w.heap.size w wz := Hz.out ▸ below_setCells (Nat.le_refl _) _ _ _ hbw9
  refine bodyPost_ret (results_blk (by rfl) _ _ w.heap.size 33 _ _ rfl hBz Tryd.underlying33 rfl H_hi2.out) rfl ⟨?_, hbz⟩
  rw [H_hws.out, hres.out]

set_option maxHeartbeats 1000000 in
theorem whole_any (l : List (List Int)) (vs : List Value) (a : Option Addr) (n c : Nat) (w : World) (hP : PiecesIn w a vs l) (hn : n = l.length) (hsum : l.flatten.length ≤ 70368744177664) :
    Calls Tryd.prog 18 #[.slice a n c] w fun e w' =>
      (∃ (a' : Option Addr) (m c' : Nat), e = .returned (.slice a' m c') ∧ m = l.flatten.length ∧ OwnX w' w.heap.size 5 1 (.slice a' m c') m (l.flatten.map (Value.int .u8))) ∧ Below w.heap.size w w' := by
  obtain ⟨i0, hi, hz0, hz1, hz2⟩ := info_parts info_u8
  have hml := hP.len
  unfold maxLen at hml
  rw [← hn] at hml
  have hnI : (n : Int) ≤ 9223372036854775807 := by omega
  have HS := hid hsum
  have H_hn := hid hn
  clear hn
  clear hsum
  go_enter Tryd.func18, Tryd.ntmps18
  have hb0 := Below.refl w.heap.size w
  go_wp2_with fail
  have o0 := OwnX.nil w w.heap.size 5 1
  go_loopw [3, 4] (fun s q wr => ∃ (k : Nat) (av : Option Addr) (cv m : Nat), k ≤ n ∧ q = .int .i64 k ∧ Hid (m = (l.take k).flatten.length) ∧ s = .slice av m cv ∧ Below w.heap.size w wr ∧ OwnX wr w.heap.size 5 1 (.slice av m cv) m ((l.take k).flatten.map (Value.int .u8))) (fun _ q _ => n - (intOf q).toNat)
  case atStart => exact ⟨0, none, 0, 0, Nat.zero_le _, rfl, hid rfl, rfl, hb0, by simpa using o0⟩
  case round =>
    clear o0
    obtain ⟨k, av, cv, m, hk, rfl, Hm, rfl, hbw, ow⟩ := hrel
    by_cases hlt : k < n
    · have hlt' : (k : Int) < (n : Int) := by omega
      obtain ⟨b, o, x, p, cp, rfl, cc, hp, kx, h8x, hpm⟩ := (hP.later hbw).at (i := k) (by have := H_hn.out; omega)
      have hfs := hid (flat_take_succ (l := l) (k := k) (by have := H_hn.out; omega))
      have hl2 := hid (show ((pc l k).map (Value.int .u8)).length = p * 1 by rw [List.length_map, hp, Nat.mul_one])
      have hmp : m + p ≤ 70368744177664 := by
        have h1 : (l.take (k + 1)).flatten.length ≤ l.flatten.length := by
          conv => rhs; rw [← List.take_append_drop (k + 1) l, List.flatten_append, List.length_append]
          omega
        have h2 := HS.out
        rw [hfs.out, List.length_append, ← hp, ← Hm.out] at h1
        omega
      have Hp := hid hp
      have z2 := hbw.size
      clear hp
      go_wp2_with (at_builtin; refine stop ?_)
      refine Stop.go ?_
      refine wpList_append_x _ rfl _ _ 24 rfl w.heap.size 5 i0 (.int .u8 0) 1 1 Tryd.underlying24 hi hz0 hz1 hz2 rfl (by decide) (.slice av m cv) m _ rfl ow x p cp ((pc l k).map (Value.int .u8)) rfl hl2.out kx (ints_oneCell _ _) (by unfold maxLen; omega) (by omega) z2 ?_
      intro a5 c5 w5 o5 hg hk5
      have hb5 : Below w.heap.size w w5 := below_grownX hbw hg z2 (fun q h => (ow.lt q h).1)
      go_wp2_with fail
      go_roundw
      case rel =>
        refine ⟨k + 1, a5, c5, m + p, by omega, by go_num, hid (by rw [hfs.out, List.length_append, ← Hp.out, ← Hm.out]), rfl, hb5, ?_⟩
        rw [hfs.out, List.map_append]; exact o5
      case measure => simp [intOf]; omega
    · have hge : (n : Int) ≤ (k : Int) := by omega
      have hall := hid (show l.take k = l from List.take_of_length_le (by have := H_hn.out; omega))
      go_wp2_with fail
      go_ret
      rw [hall.out] at Hm ow
      exact ⟨⟨_, _, _, rfl, Hm.out, ow⟩, hbw⟩

set_option maxRecDepth 100000 in
set_option maxHeartbeats 4000000 in
theorem rpieces_any (l : List (List Int)) (vs : List Value) (a : Option Addr) (n c : Nat) (w : World) (hP : PiecesIn w a vs l) (hn : n = l.length) :
    Calls Tryd.prog 22 #[.slice a n c] w fun e w' =>
      e = idE (sumP l) ∧ Below w.heap.size w w' := by
  have hml := hP.len
  unfold maxLen at hml
  rw [← hn] at hml
  by_cases h20 : 20 < n
  · have HA := hid (show sumP l = (List.replicate 32 0, 4) by unfold sumP; rw [if_pos (by rw [← hn]; exact .inl h20)])
    have h20I : (20 : Int) < (n : Int) := by omega
    clear hn
    go_enter Tryd.func22, Tryd.ntmps22
    have hb0 := Below.refl w.heap.size w
    go_wp2_with (refine wpList_store_blk rfl 33 _ _ rfl w.heap.size (by rfl) 33 _ (List.replicate 32 (Value.int .u8 0)) (by rfl) (Blk.newA _ _ _ _ (List.replicate 32 (Value.int .u8 0)) (by simp) (by rfl)) rfl info32r oneCell_zeros ?_; intro w7 hB7 he7; have H7 := hid he7; clear he7)
    go_wp2_with fail
    have hb7 : Below w.heap.size w w7 := H7.out ▸ below_setCells (Nat.le_refl _) _ _ _ ((Below.refl _ _).alloc (Nat.le_refl _) _)
    refine bodyPost_ret (results_blk2 (by rfl) _ _ w.heap.size 33 _ _ (.int .i64 4) rfl rfl hB7 Tryd.underlying33 rfl info32r) rfl ⟨?_, hb7⟩
    rw [HA.out, idE_mk]; simp
  · have h20I : (n : Int) ≤ 20 := by omega
    have H_hn := hid hn
    clear hn
    go_enter Tryd.func22, Tryd.ntmps22
    have hb0 := Below.refl w.heap.size w
    go_wp2_with fail
    refine wp_gen fun w1 hc1 => ?_
    have hI1 : Blk w1 w.heap.size 33 (List.replicate 32 (Value.int .u8 0)) := Blk.later (Blk.newA _ _ _ _ (List.replicate 32 (Value.int .u8 0)) (by simp) (by rfl)) hc1
    have hb1 : Below w.heap.size w w1 := bchain (by repeat' (first | with_reducible exact hb0 | with_reducible refine Below.drew ?_ | with_reducible refine below_drewN ?_ _ | with_reducible refine Below.alloc ?_ (by have := hb0.size; first | (simp; done) | (simp; omega) | omega) _ | with_reducible refine Below.setCell ?_ (by first | (simp; done) | (simp; omega) | omega) _)) hc1
    clear hc1
    go_loopw [4] (fun q wr => ∃ (k : Nat), k ≤ n ∧ q = .int .i64 k ∧ Below w.heap.size w wr ∧ Blk wr w.heap.size 33 (List.replicate 32 (Value.int .u8 0)) ∧ Hid (∀ j, j < k → longB (pc l j) = false)) (fun q _ => n - (intOf q).toNat)
    case atStart => exact ⟨0, Nat.zero_le _, rfl, hb1, hI1, hid (fun j hj => by omega)⟩
    case round =>
      clear hb1 hI1
      obtain ⟨k, hk, rfl, hbw, hI, Hall⟩ := hrel
      by_cases hlt : k < n
      · have hlt' : (k : Int) < (n : Int) := by omega
        obtain ⟨b, o, x, m, cx, rfl, cc, hm, _⟩ := (hP.later hbw).at (i := k) (by have := H_hn.out; omega)
        have Hm := hid hm
        clear hm hP
        by_cases hp : (10000 : Int) < (m : Int)
        · have HA := hid (show sumP l = (List.replicate 32 0, 4) by
            unfold sumP
            rw [if_pos (.inr (any_long_of (l := l) (k := k) (by have := H_hn.out; omega) (by unfold longB; rw [← Hm.out]; simpa using hp)))])
          go_wp2_with (refine wpList_store_blk rfl 33 _ _ rfl w.heap.size (by rfl) 33 _ (List.replicate 32 (Value.int .u8 0)) (by rfl) hI rfl info32r oneCell_zeros ?_; intro w7 hB7 he7; have H7 := hid he7; clear he7)
          go_wp2_with fail
          have hb7 : Below w.heap.size w w7 := H7.out ▸ below_setCells (Nat.le_refl _) _ _ _ hbw
          refine bodyPost_ret (results_blk2 (by rfl) _ _ w.heap.size 33 _ _ (.int .i64 4) rfl rfl hB7 Tryd.underlying33 rfl info32r) rfl ⟨?_, hb7⟩
          rw [HA.out, idE_mk]; simp
        · have hp' : (m : Int) ≤ 10000 := by omega
          go_wp2_with fail
          go_roundw
          case rel => exact ⟨k + 1, by omega, by go_num, hbw, hI, hid (fun j hj => by
            by_cases hjk : j < k
            · exact Hall.out j hjk
            · obtain rfl : j = k := by omega
              unfold longB; rw [← Hm.out]; simpa using hp')⟩
          case measure => simp [intOf]; omega
      · have hge : (n : Int) ≤ (k : Int) := by omega
        have hno := no_long_of (l := l) fun j hj => Hall.out j (by have := H_hn.out; omega)
        have HA := hid (show sumP l = (ofL l.flatten, 0) by
          unfold sumP
          rw [if_neg (by rintro (h | h); have := H_hn.out; omega; rw [hno] at h; cases h)])
        have hfl : l.flatten.length ≤ 200000 := by
          have := flat_lenP hno l.length
          rw [List.take_length] at this
          have := H_hn.out
          omega
        have hf8 := hid (flat_bytes hP l.length (Nat.le_refl _))
        rw [List.take_length] at hf8
        have H_hno := hid hno
        clear hno
        have hfs : l.flatten.length ≤ 70368744177664 := by omega
        have hPw := hP.later hbw
        have hbw' := hbw
        have Hfl := hid hfl
        clear hfl
        go_wp2_with fail
        with_reducible refine (whole_any l vs a n c _ hPw H_hn.out hfs).mono ?_
        rintro e w5 ⟨⟨a5, m5, c5, rfl, hm5, o5⟩, hc5⟩
        have hI5 := hI.later hc5
        have hb5 := bchain hbw hc5
        have Hm5 := hid hm5
        have hmle : m5 ≤ 1099511627776 := by have := Hfl.out; omega
        clear hm5 hc5 hI
        go_wp2_with fail
        with_reducible refine (of_any l.flatten a5 m5 c5 _ Hm5.out o5.cellsAt hf8.out hmle).mono ?_
        rintro e w6 ⟨rfl, hc6⟩
        have hI6 := hI5.later hc6
        have hb6 := bchain hb5 hc6
        clear hc6 hI5 o5
        obtain ⟨ws, hws⟩ : ∃ ws, ws = (ofL l.flatten).map (Value.int .u8) := ⟨_, rfl⟩
        have hvl : ws.length = 32 := by rw [hws, List.length_map, ofL_len]
        have ho : ∀ x ∈ ws, x.oneCell' = true := by rw [hws]; exact oneCell_ints _ _
        have hi2 : (Tryd.prog.info? 33).map (·.size) = some ws.length := by rw [hvl]; exact info32
        have hlr : ws.length = (List.replicate 32 (Value.int .u8 0)).length := by rw [hvl]; rfl
        rw [← hws]
        have H_hws := hid hws
        have H_hvl := hid hvl
        have H_ho := hid ho
        have H_hi2 := hid hi2
        have H_hlr := hid hlr
        clear hws hvl ho hi2 hlr
        go_wp2_with (refine wpList_store_blk rfl 33 _ _ rfl w.heap.size (by rfl) 33 _ ws (by rfl) hI6 H_hlr.out H_hi2.out H_ho.out ?_; intro wz hBz hez; have Hz := hid hez; clear hez)
        go_wp2_with fail
        have hbz : Below w.heap.size w wz := Hz.out ▸ below_setCells (Nat.le_refl _) _ _ _ hb6
        refine bodyPost_ret (results_blk2 (by rfl) _ _ w.heap.size 33 _ _ (.int .i64 0) rfl rfl hBz Tryd.underlying33 rfl H_hi2.out) rfl ⟨?_, hbz⟩
        rw [HA.out, idE_mk, H_hws.out]

theorem pieces_any (l : List (List Int)) (vs : List Value) (a : Option Addr) (n c : Nat) (w : World) (hP : PiecesIn w a vs l) (hn : n = l.length) (hK : CellsAt w (some ⟨0, 0, none⟩) (kcs.map (Value.int .u32))) (hw0 : 0 < w.heap.size) :
    Calls Tryd.prog 21 #[.slice a n c] w fun e w' =>
      e = idE (sumP l) ∧ Below w.heap.size w w' := by
  by_cases h20 : 20 < n
  · exact pieces_bad l vs a n c w hP hn (.inl h20)
  · cases hlg : l.any longB with
    | true => exact pieces_bad l vs a n c w hP hn (.inr hlg)
    | false =>
      have : sumP l = (ofL l.flatten, 0) := by
        unfold sumP
        rw [if_neg (by rintro (h | h); omega; rw [hlg] at h; cases h)]
      rw [this]
      exact pieces_ok l vs a n c w hP hn (by omega) hlg hK hw0
theorem sumP_len (l : List (List Int)) : (sumP l).1.length = 32 := by
  unfold sumP
  split
  · simp
  · simp only [ofL_len]
theorem pieces_one {w : World} {a : Option Addr} {n c : Nat} {bs : List Int} {B : Nat} {t : TypeId} (hB : Blk w B t [.slice a n c]) (hn : n = bs.length) (hb : CellsAt w a (bs.map (Value.int .u8))) (h8 : Bytes8 bs) (hl : bs.length ≤ maxLen) : PiecesIn w (some ⟨B, 0, none⟩) [.slice a n c] [bs] :=
  ⟨.inr ⟨B, 0, rfl, fun j u hj => by rw [Nat.zero_add]; exact hB.cell hj⟩, ⟨⟨a, c, by rw [hn], hb, h8, hl⟩, trivial⟩, rfl, by simp [maxLen]⟩

set_option maxRecDepth 100000 in
set_option maxHeartbeats 4000000 in
theorem sum_any (bs : List Int) (a : Option Addr) (n c : Nat) (w : World) (hn : n = bs.length) (hb : CellsAt w a (bs.map (Value.int .u8))) (h8 : Bytes8 bs) (hl : bs.length ≤ maxLen) (hK : CellsAt w (some ⟨0, 0, none⟩) (kcs.map (Value.int .u32))) (hw0 : 0 < w.heap.size) :
    Calls Tryd.prog 19 #[.slice a n c] w fun e w' =>
      e = idE (sumP [bs]) ∧ Below w.heap.size w w' := by
  obtain ⟨dl, de, hD⟩ : ∃ dl de, sumP [bs] = (dl, de) := ⟨_, _, rfl⟩
  have hdl : dl.length = 32 := by have := sumP_len [bs]; rw [hD] at this; exact this
  rw [hD, idE_mk]
  obtain ⟨dv, hdv⟩ : ∃ dv, dv = dl.map (Value.int .u8) := ⟨_, rfl⟩
  rw [← hdv]
  have hvl : dv.length = 32 := by rw [hdv, List.length_map, hdl]
  have ho : ∀ x ∈ dv, x.oneCell' = true := by rw [hdv]; exact oneCell_ints _ _
  have hi2 : (Tryd.prog.info? 33).map (·.size) = some dv.length := by rw [hvl]; exact info32
  have hlr : dv.length = (List.replicate 32 (Value.int .u8 0)).length := by rw [hvl]; rfl
  have H_hdv := hid hdv
  have H_hvl := hid hvl
  have H_ho := hid ho
  have H_hi2 := hid hi2
  have H_hlr := hid hlr
  clear hdv hvl ho hi2 hlr
  have hp := fun (w' : World) (B : Nat) (hP : PiecesIn w' (some ⟨B, 0, none⟩) [.slice a n c] [bs]) (hK : CellsAt w' (some ⟨0, 0, none⟩) (kcs.map (Value.int .u32))) (hw0 : 0 < w'.heap.size) => by
    have := pieces_any [bs] [.slice a n c] (some ⟨B, 0, none⟩) 1 1 w' hP rfl hK hw0
    rw [hD, idE_mk, ← H_hdv.out] at this
    exact this
  have H_hD := hid hD
  have H_hn := hid hn
  have H_hdl := hid hdl
  clear hD hn hdl
  go_enter Tryd.func19, Tryd.ntmps19
  have hb0 := Below.refl w.heap.size w
  go_wp2_with fail
  with_reducible refine (hp _ (w.heap.size + 1) (pieces_one (Blk.newA _ _ _ _ [.slice a n c] (by simp) rfl) H_hn.out ((by repeat' (first | with_reducible exact hb | with_reducible refine CellsAt.setFar ?_ ?_ _ | with_reducible refine CellsAt.alloc ?_ _ | with_reducible refine CellsAt.drew ?_ | with_reducible refine CellsAt.drewN ?_ _ | assumption | (simp; omega) | omega))) h8 hl) ((by repeat' (first | with_reducible exact hK | with_reducible refine CellsAt.setFar ?_ ?_ _ | with_reducible refine CellsAt.alloc ?_ _ | with_reducible refine CellsAt.drew ?_ | with_reducible refine CellsAt.drewN ?_ _ | assumption | (simp; omega) | omega))) (by first | (simp; done) | (simp; omega))).mono ?_
  rintro e w1 ⟨rfl, hc1⟩
  have hI : Blk w1 w.heap.size 33 (List.replicate 32 (Value.int .u8 0)) := Blk.later (Blk.alloc (Blk.newA _ _ _ _ (List.replicate 32 (Value.int .u8 0)) (by simp) (by rfl)) _) hc1
  have hb1 : Below w.heap.size w w1 := bchain (by repeat' (first | with_reducible exact hb0 | with_reducible refine Below.drew ?_ | with_reducible refine below_drewN ?_ _ | with_reducible refine Below.alloc ?_ (by have := hb0.size; first | (simp; done) | (simp; omega) | omega) _ | with_reducible refine Below.setCell ?_ (by first | (simp; done) | (simp; omega) | omega) _)) hc1
  clear hc1
  go_wp2_with (refine wpList_store_blk rfl 33 _ _ rfl w.heap.size (by rfl) 33 _ dv (by rfl) hI H_hlr.out H_hi2.out H_ho.out ?_; intro wz hBz hez; have Hz := hid hez; clear hez)
  go_wp2_with fail
  have hbz : Below w.heap.size w wz := Hz.out ▸ below_setCells (Nat.le_refl _) _ _ _ hb1
  exact bodyPost_ret (results_blk2 (by rfl) _ _ w.heap.size 33 _ _ (.int .i64 de) rfl rfl hBz Tryd.underlying33 rfl H_hi2.out) rfl ⟨rfl, hbz⟩
set_option maxRecDepth 100000 in
set_option maxHeartbeats 4000000 in
theorem rsum_any (bs : List Int) (a : Option Addr) (n c : Nat) (w : World) (hn : n = bs.length) (hb : CellsAt w a (bs.map (Value.int .u8))) (h8 : Bytes8 bs) (hl : bs.length ≤ maxLen) :
    Calls Tryd.prog 20 #[.slice a n c] w fun e w' =>
      e = idE (sumP [bs]) ∧ Below w.heap.size w w' := by
  unfold maxLen at hl
  by_cases hp : (10000 : Int) < (n : Int)
  · have HA := hid (show sumP [bs] = (List.replicate 32 0, 4) by
      unfold sumP
      rw [if_pos (.inr (by simp [longB]; omega))])
    clear hn
    go_enter Tryd.func20, Tryd.ntmps20
    have hb0 := Below.refl w.heap.size w
    go_wp2_with (refine wpList_store_blk rfl 33 _ _ rfl w.heap.size (by rfl) 33 _ (List.replicate 32 (Value.int .u8 0)) (by rfl) (Blk.newA _ _ _ _ (List.replicate 32 (Value.int .u8 0)) (by simp) (by rfl)) rfl info32r oneCell_zeros ?_; intro w7 hB7 he7; have H7 := hid he7; clear he7)
    go_wp2_with fail
    have hb7 : Below w.heap.size w w7 := H7.out ▸ below_setCells (Nat.le_refl _) _ _ _ ((Below.refl _ _).alloc (Nat.le_refl _) _)
    refine bodyPost_ret (results_blk2 (by rfl) _ _ w.heap.size 33 _ _ (.int .i64 4) rfl rfl hB7 Tryd.underlying33 rfl info32r) rfl ⟨?_, hb7⟩
    rw [HA.out, idE_mk]; simp
  · have hp' : (n : Int) ≤ 10000 := by omega
    have HA := hid (show sumP [bs] = (ofL bs, 0) by
      unfold sumP
      rw [if_neg (by simp [longB]; omega)]; simp)
    have H_hn := hid hn
    clear hn
    go_enter Tryd.func20, Tryd.ntmps20
    have hb0 := Below.refl w.heap.size w
    go_wp2_with fail
    with_reducible refine (of_any bs a n c _ H_hn.out ((by repeat' (first | with_reducible exact hb | with_reducible refine CellsAt.setFar ?_ ?_ _ | with_reducible refine CellsAt.alloc ?_ _ | with_reducible refine CellsAt.drew ?_ | with_reducible refine CellsAt.drewN ?_ _ | assumption | (simp; omega) | omega))) h8 (by omega)).mono ?_
    rintro e w6 ⟨rfl, hc6⟩
    have hI6 : Blk w6 w.heap.size 33 (List.replicate 32 (Value.int .u8 0)) := Blk.later (Blk.newA _ _ _ _ (List.replicate 32 (Value.int .u8 0)) (by simp) (by rfl)) hc6
    have hb6 : Below w.heap.size w w6 := bchain (by repeat' (first | with_reducible exact hb0 | with_reducible refine Below.drew ?_ | with_reducible refine below_drewN ?_ _ | with_reducible refine Below.alloc ?_ (by have := hb0.size; first | (simp; done) | (simp; omega) | omega) _ | with_reducible refine Below.setCell ?_ (by first | (simp; done) | (simp; omega) | omega) _)) hc6
    clear hc6
    obtain ⟨ws, hws⟩ : ∃ ws, ws = (ofL bs).map (Value.int .u8) := ⟨_, rfl⟩
    have hvl : ws.length = 32 := by rw [hws, List.length_map, ofL_len]
    have ho : ∀ x ∈ ws, x.oneCell' = true := by rw [hws]; exact oneCell_ints _ _
    have hi2 : (Tryd.prog.info? 33).map (·.size) = some ws.length := by rw [hvl]; exact info32
    have hlr : ws.length = (List.replicate 32 (Value.int .u8 0)).length := by rw [hvl]; rfl
    rw [← hws]
    have H_hws := hid hws
    have H_hvl := hid hvl
    have H_ho := hid ho
    have H_hi2 := hid hi2
    have H_hlr := hid hlr
    clear hws hvl ho hi2 hlr
    go_wp2_with (refine wpList_store_blk rfl 33 _ _ rfl w.heap.size (by rfl) 33 _ ws (by rfl) hI6 H_hlr.out H_hi2.out H_ho.out ?_; intro wz hBz hez; have Hz := hid hez; clear hez)
    go_wp2_with fail
    have hbz : Below w.heap.size w wz := Hz.out ▸ below_setCells (Nat.le_refl _) _ _ _ hb6
    refine bodyPost_ret (results_blk2 (by rfl) _ _ w.heap.size 33 _ _ (.int .i64 0) rfl rfl hBz Tryd.underlying33 rfl H_hi2.out) rfl ⟨?_, hbz⟩
    rw [HA.out, idE_mk, H_hws.out]

/-- What Long hands back. -/
def LongR (l : List (List Int)) (e : Ending) : Prop := ∃ b : Bool, e = .returned (.bool b) ∧ (b = false → l.length ≤ 30)
set_option maxHeartbeats 1000000 in
theorem long_any (l : List (List Int)) (vs : List Value) (a : Option Addr) (n c : Nat) (w : World) (hP : PiecesIn w a vs l) (hn : n = l.length) :
    Calls Tryd.prog 17 #[.slice a n c] w fun e w' =>
      LongR l e ∧ Below w.heap.size w w' := by
  have hml := hP.len
  unfold maxLen at hml
  rw [← hn] at hml
  have H_hn := hid hn
  clear hn
  go_enter Tryd.func17, Tryd.ntmps17
  have hb0 := Below.refl w.heap.size w
  go_wp2_with fail
  go_loopw [3, 4] (fun s q wr => ∃ (k t : Nat), k ≤ n ∧ k ≤ 31 ∧ q = .int .i64 k ∧ s = .int .i64 t ∧ t ≤ 10000 * k ∧ Below w.heap.size w wr) (fun _ q _ => n - (intOf q).toNat)
  case atStart => exact ⟨0, 0, Nat.zero_le _, by omega, rfl, rfl, by omega, hb0⟩
  case round =>
    obtain ⟨k, t, hk, hk31, rfl, rfl, ht, hbw⟩ := hrel
    by_cases hlt : k < n ∧ k ≤ 30
    · obtain ⟨hlt1, hlt2⟩ := hlt
      have hlt' : (k : Int) < (n : Int) := by omega
      have hlt2' : (k : Int) ≤ 30 := by omega
      obtain ⟨b, o, x, m, cx, rfl, cc, hm, _⟩ := (hP.later hbw).at (i := k) (by have := H_hn.out; omega)
      clear hm hP
      by_cases hp : (m : Int) ≤ 10000
      · go_wp2_with fail
        go_roundw
        case rel => exact ⟨k + 1, t + m, by omega, by omega, by go_num, by go_num, by omega, hbw⟩
        case measure => simp [intOf]; omega
      · have hp' : (10000 : Int) < (m : Int) := by omega
        go_wp2_with fail
        go_roundw
        case rel => exact ⟨k + 1, t, by omega, by omega, by go_num, rfl, by omega, hbw⟩
        case measure => simp [intOf]; omega
    · by_cases h30 : 30 < n
      · have h30I : (30 : Int) < (n : Int) := by omega
        by_cases hge : n ≤ k
        · have hge' : (n : Int) ≤ (k : Int) := by omega
          clear hlt
          go_wp2_with fail
          go_ret
          exact ⟨⟨_, rfl, fun h => by cases h⟩, hbw⟩
        · have hlt' : (k : Int) < (n : Int) := by omega
          have hge' : (30 : Int) < (k : Int) := by omega
          clear hlt
          go_wp2_with fail
          go_ret
          exact ⟨⟨_, rfl, fun h => by cases h⟩, hbw⟩
      · have h30I : (n : Int) ≤ 30 := by omega
        have hge' : (n : Int) ≤ (k : Int) := by omega
        clear hlt
        go_wp2_with fail
        go_ret
        exact ⟨⟨_, rfl, fun h => by have := H_hn.out; omega⟩, hbw⟩

end Go.Proofs.YtlilodfddojlhaaDoor
