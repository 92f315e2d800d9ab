/- sign.hash: the number of the digest of a byte, some numbers and a message. -/
import Derived.Test.YtdlacedminebdaaDoorGroupLast
import Derived.Test.YtdlacedminebdaaDoorDigOf
import Derived.Test.YtdlacedminebdaaDoorDigCard
namespace Go.Proofs.YtdlacedminebdaaDoor
set_option linter.unusedSimpArgs false
set_option linter.unusedVariables false
set_option linter.unnecessarySimpa false
open Go.RowKit

def four (x : Int) : List Int := [x / 16777216 % 256, x / 65536 % 256, x / 256 % 256, x % 256]
def fours : List Int → List Int
  | [] => []
  | x :: l => four x ++ fours l
theorem four_bytes (x : Int) : Bytes8 (four x) := fun y hy => by
  simp only [four, List.mem_cons, List.not_mem_nil, or_false] at hy
  rcases hy with h | h | h | h <;> omega
theorem fours_bytes : ∀ l, Bytes8 (fours l)
  | [] => fun y hy => by cases hy
  | x :: l => (four_bytes x).append (fours_bytes l)
theorem fours_append : ∀ l m, fours (l ++ m) = fours l ++ fours m
  | [], _ => rfl
  | x :: l, m => by simp [fours, fours_append l m]
theorem fours_len : ∀ l, (fours l).length = 4 * l.length
  | [] => rfl
  | x :: l => by simp [fours, four, fours_len l]; omega
theorem fours_take {l : List Int} {k : Nat} (h : k < l.length) : fours (l.take (k + 1)) = fours (l.take k) ++ four (l[k]?.getD 0) := by
  rw [List.take_succ_eq_append_getElem h, fours_append, List.getElem?_eq_getElem h]
  simp [fours]
def numK (d : List Int) : Nat → Int
  | 0 => 0
  | k + 1 => numK d k * 256 + d[k]?.getD 0
theorem numK_rng {d : List Int} (h : Bytes8 d) : ∀ k, 0 ≤ numK d k ∧ numK d k < 256 ^ k
  | 0 => by simp [numK]
  | k + 1 => by
    have h1 := numK_rng h k
    have h2 := h.at k
    rw [numK, Int.pow_succ]
    omega
def numL (bs : List Int) : Int := numK (ofL bs) 8
theorem ofL_bytes (bs : List Int) : Bytes8 (ofL bs) := wr32_bytes _ 32
theorem numL_rng (bs : List Int) : 0 ≤ numL bs ∧ numL bs < 18446744073709551616 := by
  have := numK_rng (ofL_bytes bs) 8
  unfold numL
  omega
theorem bits_or_u64_nat (a b : Nat) (ha : a < 18446744073709551616) (hb : b < 18446744073709551616) : bits .or .u64 (a : Int) (b : Int) = ((a ||| b : Nat) : Int) := by
  have hx : a ||| b < 2 ^ 64 := Nat.or_lt_two_pow (by omega) (by omega)
  have h1 : (BitVec.ofInt 64 (a : Int)).toNat = a := by
    rw [BitVec.ofInt_natCast, BitVec.toNat_ofNat]; exact Nat.mod_eq_of_lt (by omega)
  have h2 : (BitVec.ofInt 64 (b : Int)).toNat = b := by
    rw [BitVec.ofInt_natCast, BitVec.toNat_ofNat]; exact Nat.mod_eq_of_lt (by omega)
  show IntKind.u64.wrap ((BitVec.ofInt 64 (a : Int) ||| BitVec.ofInt 64 (b : Int)).toNat : Int) = _
  rw [BitVec.toNat_or, h1, h2, IntKind.wrap_u64]
  omega
theorem or_byte64 (x b : Int) (hx0 : 0 ≤ x) (hx1 : x < 72057594037927936) (hb0 : 0 ≤ b) (hb1 : b < 256) : bits .or .u64 (x * 256) b = x * 256 + b := by
  obtain ⟨m, rfl⟩ : ∃ m : Nat, x = m := ⟨x.toNat, by omega⟩
  obtain ⟨n, rfl⟩ : ∃ n : Nat, b = n := ⟨b.toNat, by omega⟩
  have h1 : (m : Int) * 256 = ((m * 256 : Nat) : Int) := by omega
  rw [h1, bits_or_u64_nat _ _ (by omega) (by omega)]
  have h2 := Nat.shiftLeft_add_eq_or_of_lt (show n < 2 ^ 8 by omega) m
  rw [Nat.shiftLeft_eq] at h2
  have h3 : m * 256 ||| n = m * 256 + n := h2.symm
  rw [h3]; omega
theorem sumP_two {x y : List Int} (h1 : x.length ≤ 10000) (h2 : y.length ≤ 10000) : sumP [x, y] = (ofL (x ++ y), 0) := by
  unfold sumP
  rw [if_neg]
  · simp
  · simp [longB]; omega
theorem piecesAt_two {w : World} {a b : Option Addr} {m n c d : Nat} {x y : List Int} (hm : m = x.length) (hn : n = y.length) (hx : CellsAt w a (x.map (Value.int .u8))) (hy : CellsAt w b (y.map (Value.int .u8))) (h1 : Bytes8 x) (h2 : Bytes8 y) (l1 : m ≤ maxLen) (l2 : n ≤ maxLen) :
    PiecesAt w [.slice a m c, .slice b n d] [x, y] :=
  ⟨⟨a, c, by rw [hm], hx, h1, hm ▸ l1⟩, ⟨b, d, by rw [hn], hy, h2, hn ▸ l2⟩, trivial⟩

set_option maxRecDepth 100000 in
set_option maxHeartbeats 2000000 in
theorem hash_many (kd : Int) (a la : Option Addr) (n c ln lc : Nat) (w : World) (hn : 9991 < n) (hn2 : n ≤ 140737488355328) :
    Calls Tryd.prog 33 #[.int .u8 kd, .slice a n c, .slice la ln lc] w fun e w' =>
      e = .returned (.tuple #[.int .u64 0, .int .i64 4]) ∧ Below w.heap.size w w' := by
  have hnI : (9991 : Int) < (n : Int) := by omega
  go_enter Tryd.func33, Tryd.ntmps33
  have hb0 := Below.refl w.heap.size w
  go_wp2_with fail
  go_ret2
  exact ⟨rfl, by repeat' (first | with_reducible exact hb0 | with_reducible refine Below.drew ?_ | with_reducible refine below_drewN ?_ _ | with_reducible refine Below.alloc ?_ (by have := hb0.size; first | (simp; done) | (simp; omega) | omega) _ | with_reducible refine Below.setCell ?_ (by first | (simp; done) | (simp; omega) | omega) _)⟩

set_option maxRecDepth 100000 in
set_option maxHeartbeats 4000000 in
theorem hash_any (kd : Int) (l bs xs : List Int) (a : Option Addr) (n c lb ln : Nat) (w : World) (hkd : 0 ≤ kd) (hkd' : kd < 256) (hln : ln = l.length) (hl2 : ln ≤ 2) (hlr : ∀ x ∈ l, 0 ≤ x ∧ x < 4294967296)
    (hlc : CellsAt w (some ⟨lb, 0, none⟩) (l.map (Value.int .u32))) (hn : n = bs.length) (hb : CellsAt w a (bs.map (Value.int .u8))) (h8 : Bytes8 bs) (hnl : n ≤ 9991) (hxs : xs = kd :: fours l ++ bs)
    (hK : CellsAt w (some ⟨0, 0, none⟩) (kcs.map (Value.int .u32))) (hw0 : 0 < w.heap.size) :
    Calls Tryd.prog 33 #[.int .u8 kd, .slice a n c, .slice (some ⟨lb, 0, none⟩) ln ln] w fun e w' =>
      e = .returned (.tuple #[.int .u64 (numL xs), .int .i64 0]) ∧ Below w.heap.size w w' := by
  obtain ⟨i0, hi, hz0, hz1, hz2⟩ := info_parts info_u8
  have hnI : (n : Int) ≤ 9991 := by omega
  have hl2I : (ln : Int) ≤ 2 := by omega
  have hwf : ∀ W, Below w.heap.size w W → 0 < W.heap.size := fun W h => Nat.lt_of_lt_of_le hw0 h.size
  have H_hn := hid hn
  have H_hln := hid hln
  have H_hxs := hid hxs
  have H_hnl := hid hnl
  have H_hl2 := hid hl2
  clear hn hln hxs hnl hl2
  go_enter Tryd.func33, Tryd.ntmps33
  have hb0 := Below.refl w.heap.size w
  go_wp2_with fail
  refine wp_gen fun w1 hc1 => ?_
  have o1 : OwnX w1 w.heap.size 5 1 (.slice (some ⟨w.heap.size, 0, none⟩) 1 1) 1 [.int .u8 kd] := OwnX.later (OwnX.made w [.int .u8 kd] _ _ 1 1 (Nat.le_refl _) (by simp [maxLen]) rfl) hc1
  have hb1 : Below w.heap.size w w1 := bchain (by repeat' (first | with_reducible exact hb0 | with_reducible refine Below.drew ?_ | with_reducible refine below_drewN ?_ _ | with_reducible refine Below.alloc ?_ (by have := hb0.size; first | (simp; done) | (simp; omega) | omega) _ | with_reducible refine Below.setCell ?_ (by first | (simp; done) | (simp; omega) | omega) _)) hc1
  clear hc1
  go_loopw [8, 23] (fun s q wr => ∃ (k : Nat) (av : Option Addr) (cv m : Nat), k ≤ ln ∧ q = .int .i64 k ∧ Hid (m = 1 + 4 * k) ∧ s = .slice av m cv ∧ Below w.heap.size w wr ∧ OwnX wr w.heap.size 5 1 (.slice av m cv) m ((kd :: fours (l.take k)).map (Value.int .u8))) (fun _ q _ => ln - (intOf q).toNat)
  case atStart => exact ⟨0, _, _, 1, Nat.zero_le _, rfl, hid rfl, rfl, hb1, o1⟩
  case round =>
    clear o1 hb1
    obtain ⟨k, av, cv, m, hk, rfl, Hm, rfl, hbw, ow⟩ := hrel
    by_cases hlt : k < ln
    · have hkl : k < l.length := by have := H_hln.out; omega
      obtain ⟨b0, o0, e0, cl⟩ := (hlc.later hbw).int (by omega)
      cases e0
      replace cl := cl k hkl
      rw [Nat.zero_add] at cl
      obtain ⟨x, hx⟩ : ∃ x, x = l[k]?.getD 0 := ⟨_, rfl⟩
      have hxr : 0 ≤ x ∧ x < 4294967296 := by
        rw [hx, List.getElem?_eq_getElem hkl]; exact hlr _ (List.getElem_mem hkl)
      obtain ⟨hx1, hx2⟩ := hxr
      rw [← hx] at cl
      have HT := hid (fours_take hkl)
      rw [← hx] at HT
      have H_hx := hid hx
      have H_hkl := hid hkl
      clear hx hkl
      have hkI : (k : Int) < (ln : Int) := by omega
      have hm64 : (m : Int) ≤ 64 := by have := Hm.out; have := H_hl2.out; omega
      have hz2' := hbw.size
      go_wp2_with (at_builtin; refine stop ?_)
      refine Stop.go ?_
      refine wpList_append_x _ rfl _ _ 23 rfl w.heap.size 5 i0 (.int .u8 0) 1 1 Tryd.underlying23 hi hz0 hz1 hz2 rfl (by decide) (.slice av m cv) m _ rfl (ow.alloc _) (some ⟨wr.heap.size, 0, none⟩) 4 4 [.int .u8 _, .int .u8 _, .int .u8 _, .int .u8 _] rfl rfl (cellsAt_newL wr _ _ rfl) (by intro u hu; simp only [List.mem_cons, List.not_mem_nil, or_false] at hu; rcases hu with h | h | h | h <;> (subst h; rfl)) (by unfold maxLen; omega) (by omega) (by simp; omega) ?_
      intro a5 c5 w5 o5 hg hk5
      have hb5 : Below w.heap.size w w5 := below_grownX (hbw.alloc hz2' _) hg (by simp; omega) (fun q h => (ow.lt q h).1)
      go_wp2_with fail
      go_roundw
      case rel =>
        refine ⟨k + 1, a5, c5, m + 4, by omega, by go_num, hid (by have := Hm.out; omega), rfl, hb5, ?_⟩
        rw [HT.out]
        have e4 : x / 16777216 % 256 = x / 16777216 := by omega
        simp [four, e4] at o5 ⊢
        exact o5
      case measure => simp [intOf]; omega
    · have hge : (ln : Int) ≤ (k : Int) := by omega
      have hkk : k = ln := by omega
      obtain ⟨hd, hhd⟩ : ∃ hd, hd = kd :: fours l := ⟨_, rfl⟩
      have ow' : OwnX wr w.heap.size 5 1 (.slice av m cv) m (hd.map (Value.int .u8)) := by
        rw [hkk, H_hln.out, List.take_length, ← hhd] at ow
        exact ow
      have Hml : Hid (m = hd.length) := hid (by have := Hm.out; have := H_hln.out; rw [hhd, List.length_cons, fours_len]; omega)
      have hd8 : Bytes8 hd := by
        rw [hhd]
        intro y hy
        rcases List.mem_cons.1 hy with h | h
        · subst h; exact ⟨hkd, hkd'⟩
        · exact fours_bytes l y h
      have hmle : m ≤ 9 := by have := Hm.out; have := H_hl2.out; omega
      have Hxs : Hid (hd ++ bs = xs) := hid (by rw [H_hxs.out, hhd])
      obtain ⟨d, hdd⟩ : ∃ d, d = ofL xs := ⟨_, rfl⟩
      have hd32 : d.length = 32 := by rw [hdd]; exact ofL_len _
      have hdb : Bytes8 d := by rw [hdd]; exact ofL_bytes _
      have hP : PiecesAt wr [.slice av m cv, .slice a n c] [hd, bs] := piecesAt_two Hml.out H_hn.out ow'.cellsAt (hb.later hbw) hd8 h8 (by unfold maxLen; omega) (by unfold maxLen; omega)
      obtain ⟨dv, hdv⟩ : ∃ dv, dv = d.map (Value.int .u8) := ⟨_, rfl⟩
      have Hsum : Hid (idE (sumP [hd, bs]) = .returned (.tuple #[.agg dv.toArray, .int .i64 0])) := hid (by
        rw [sumP_two (by have := Hml.out; omega) (by have := H_hn.out; have := H_hnl.out; omega), Hxs.out, ← hdd, hdv]; rfl)
      have hr : dv.length = (List.replicate 32 (Value.int .u8 0)).length := by rw [hdv, List.length_map, hd32]; rfl
      have hiv : (Tryd.prog.info? 68).map (·.size) = some dv.length := by rw [hdv, List.length_map, hd32]; exact info32
      have hov : ∀ x ∈ dv, x.oneCell' = true := by rw [hdv]; exact oneCell_ints _ _
      have Hnum : Hid (numL xs = numK d 8) := hid (by rw [hdd]; rfl)
      have H_hdd := hid hdd
      have H_hr := hid hr
      have H_hiv := hid hiv
      have H_hov := hid hov
      have H_hkk := hid hkk
      have H_hhd := hid hhd
      clear hdd hr hiv hov hkk hhd
      clear ow
      go_wp2_with fail
      with_reducible refine (pieces_any [hd, bs] [.slice av m cv, .slice a n c] (some ⟨wr.heap.size, 0, none⟩) 2 2 _ ⟨cellsAt_newL wr _ _ rfl, hP.later ((Below.refl _ _).alloc (Nat.le_refl _) _), rfl, by simp [maxLen]⟩ rfl ((hK.later hbw).alloc _) (by simp)).mono ?_
      rintro e w2 ⟨rfl, hc2⟩
      have hb2 : Below w.heap.size w w2 := bchain (hbw.alloc hbw.size _) hc2
      clear hc2 hP ow'
      rw [Hsum.out]
      have hN2 := Blk.new w2 w2.heap.size (List.replicate 32 (Value.int .u8 0)) 68 rfl
      go_upto_region 10 with (refine wpList_store_blk rfl 68 _ _ rfl w2.heap.size (by first | rfl | (simp [Act.eval]; done) | (go_simp; done)) 68 _ dv (by first | rfl | (simp [Act.eval]; done) | (go_simp; done)) hN2 H_hr.out H_hiv.out H_hov.out ?_; intro w3 hA3 he; have HW := hid he; clear he)
      have hc3 : Below w2.heap.size w2 w3 := HW.out ▸ below_setCells (Nat.le_refl _) _ _ _ ((Below.refl _ _).alloc (Nat.le_refl _) _)
      have hb3 : Below w.heap.size w w3 := bchain hb2 hc3
      clear hN2 HW hc3
      rw [hdv] at hA3
      go_wp2_with fail
      go_loopw [13, 51] (fun s q wr => ∃ (k : Nat), k ≤ 8 ∧ q = .int .i64 k ∧ s = .int .u64 (numK d k) ∧ wr = w3) (fun _ q _ => 8 - (intOf q).toNat)
      case atStart => exact ⟨0, Nat.zero_le _, rfl, rfl, rfl⟩
      case round =>
        obtain ⟨j, hj, rfl, rfl, rfl⟩ := hrel
        by_cases hlt : j < 8
        · have hjI : (j : Int) < 8 := by omega
          have cA := hA3.cellI (j := j) (by rw [hd32]; omega)
          have hn1 := numK_rng hdb j
          have hn2 : numK d j < 72057594037927936 := by
            have h7 : ∀ i : Fin 8, (256 : Int) ^ i.val ≤ 72057594037927936 := by decide
            have := h7 ⟨j, hlt⟩
            simp only at this
            omega
          have hy8 := hdb.at j
          have HN := hid (show numK d (j + 1) = numK d j * 256 + d[j]?.getD 0 from rfl)
          obtain ⟨hn0, _⟩ := hn1
          obtain ⟨y, hy⟩ : ∃ y, y = d[j]?.getD 0 := ⟨_, rfl⟩
          obtain ⟨z, hz⟩ : ∃ z, z = numK d j := ⟨_, rfl⟩
          rw [← hy] at cA hy8
          rw [← hy, ← hz] at HN
          rw [← hz] at hn0 hn2
          obtain ⟨hy1, hy2⟩ := hy8
          have hor := or_byte64 z y hn0 hn2 hy1 hy2
          have H_hy := hid hy
          have H_hz := hid hz
          clear hy hz
          rw [← H_hz.out]
          go_wp2_with fail
          go_roundw
          case rel => exact ⟨j + 1, by omega, by go_num, by rw [HN.out], by first | rfl | trivial⟩
          case measure => simp [intOf]; omega
        · have hge : (8 : Int) ≤ (j : Int) := by omega
          have hj8 : j = 8 := by omega
          rw [hj8, ← Hnum.out]
          have H_hj8 := hid hj8
          clear hj8
          go_wp2_with fail
          go_ret2
          exact ⟨rfl, hb3⟩

end Go.Proofs.YtdlacedminebdaaDoor
