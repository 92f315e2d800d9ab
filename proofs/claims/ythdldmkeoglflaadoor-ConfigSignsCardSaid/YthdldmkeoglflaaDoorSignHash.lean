/- sign.hash: the number of the digest of a byte, some numbers and a message. -/
import Derived.Test.YthdldmkeoglflaaDoorCfgSign
import Derived.Test.YthdldmkeoglflaaDoorCfgPlain
import Derived.Test.YthdldmkeoglflaaDoorGroupLast
import Derived.Test.YthdldmkeoglflaaDoorDigD
namespace Go.Proofs.YthdldmkeoglflaaDoor
set_option maxRecDepth 100000
set_option linter.unusedSimpArgs false
set_option linter.unusedVariables false
set_option linter.unnecessarySimpa false
open Go.RowKit

def four (x : Int) : List Int := [x / 16777216 % 256, x / 65536 % 256, x / 256 % 256, x % 256]
def fours : List Int → List Int
  | [] => []
  | x :: l => four x ++ fours l
theorem four_bytes (x : Int) : Bytes8 (four x) := fun y hy => by
  simp only [four, List.mem_cons, List.not_mem_nil, or_false] at hy
  rcases hy with h | h | h | h <;> omega
theorem fours_bytes : ∀ l, Bytes8 (fours l)
  | [] => fun y hy => by cases hy
  | x :: l => (four_bytes x).append (fours_bytes l)
theorem fours_append : ∀ l m, fours (l ++ m) = fours l ++ fours m
  | [], _ => rfl
  | x :: l, m => by simp [fours, fours_append l m]
theorem fours_len : ∀ l, (fours l).length = 4 * l.length
  | [] => rfl
  | x :: l => by simp [fours, four, fours_len l]; omega
theorem fours_take {l : List Int} {k : Nat} (h : k < l.length) : fours (l.take (k + 1)) = fours (l.take k) ++ four (l[k]?.getD 0) := by
  rw [List.take_succ_eq_append_getElem h, fours_append, List.getElem?_eq_getElem h]
  simp [fours]
def numK (d : List Int) : Nat → Int
  | 0 => 0
  | k + 1 => numK d k * 256 + d[k]?.getD 0
theorem numK_rng {d : List Int} (h : Bytes8 d) : ∀ k, 0 ≤ numK d k ∧ numK d k < 256 ^ k
  | 0 => by simp [numK]
  | k + 1 => by
    have h1 := numK_rng h k
    have h2 := h.at k
    rw [numK, Int.pow_succ]
    omega
def numL (bs : List Int) : Int := numK (ofL bs) 8
theorem ofL_bytes (bs : List Int) : Bytes8 (ofL bs) := wr32_bytes _ 32
theorem numL_rng (bs : List Int) : 0 ≤ numL bs ∧ numL bs < 18446744073709551616 := by
  have := numK_rng (ofL_bytes bs) 8
  unfold numL
  omega
theorem bits_or_u64_nat (a b : Nat) (ha : a < 18446744073709551616) (hb : b < 18446744073709551616) : bits .or .u64 (a : Int) (b : Int) = ((a ||| b : Nat) : Int) := by
  have hx : a ||| b < 2 ^ 64 := Nat.or_lt_two_pow (by omega) (by omega)
  have h1 : (BitVec.ofInt 64 (a : Int)).toNat = a := by
    rw [BitVec.ofInt_natCast, BitVec.toNat_ofNat]; exact Nat.mod_eq_of_lt (by omega)
  have h2 : (BitVec.ofInt 64 (b : Int)).toNat = b := by
    rw [BitVec.ofInt_natCast, BitVec.toNat_ofNat]; exact Nat.mod_eq_of_lt (by omega)
  show IntKind.u64.wrap ((BitVec.ofInt 64 (a : Int) ||| BitVec.ofInt 64 (b : Int)).toNat : Int) = _
  rw [BitVec.toNat_or, h1, h2, IntKind.wrap_u64]
  omega
theorem or_byte64 (x b : Int) (hx0 : 0 ≤ x) (hx1 : x < 72057594037927936) (hb0 : 0 ≤ b) (hb1 : b < 256) : bits .or .u64 (x * 256) b = x * 256 + b := by
  obtain ⟨m, rfl⟩ : ∃ m : Nat, x = m := ⟨x.toNat, by omega⟩
  obtain ⟨n, rfl⟩ : ∃ n : Nat, b = n := ⟨b.toNat, by omega⟩
  have h1 : (m : Int) * 256 = ((m * 256 : Nat) : Int) := by omega
  rw [h1, bits_or_u64_nat _ _ (by omega) (by omega)]
  have h2 := Nat.shiftLeft_add_eq_or_of_lt (show n < 2 ^ 8 by omega) m
  rw [Nat.shiftLeft_eq] at h2
  have h3 : m * 256 ||| n = m * 256 + n := h2.symm
  rw [h3]; omega
theorem sumP_two {x y : List Int} (h1 : x.length ≤ 10000) (h2 : y.length ≤ 10000) : sumP [x, y] = (ofL (x ++ y), 0) := by
  unfold sumP
  rw [if_neg]
  · simp
  · simp [longB]; omega
theorem piecesAt_two {w : World} {a b : Option Addr} {m n c d : Nat} {x y : List Int} (hm : m = x.length) (hn : n = y.length) (hx : CellsAt w a (x.map (Value.int .u8))) (hy : CellsAt w b (y.map (Value.int .u8))) (h1 : Bytes8 x) (h2 : Bytes8 y) (l1 : m ≤ maxLen) (l2 : n ≤ maxLen) :
    PiecesAt w [.slice a m c, .slice b n d] [x, y] :=
  ⟨⟨a, c, by rw [hm], hx, h1, hm ▸ l1⟩, ⟨b, d, by rw [hn], hy, h2, hn ▸ l2⟩, trivial⟩

set_option maxRecDepth 100000 in
set_option maxHeartbeats 2000000 in
theorem hash_many (kd : Int) (a la : Option Addr) (n c ln lc : Nat) (w : World) (hn : 9991 < n) (hn2 : n ≤ 140737488355328) :
    Calls Tryd.prog 78 #[.int .u8 kd, .slice a n c, .slice la ln lc] w fun e w' =>
      e = .returned (.tuple #[.int .u64 0, .int .i64 4]) ∧ Below w.heap.size w w' := by
  have hnI : (9991 : Int) < (n : Int) := by omega
  go_enter Tryd.func78, Tryd.ntmps78
  have hb0 := Below.refl w.heap.size w
  go_wp2_with fail
  go_ret2
  exact ⟨rfl, by repeat' (first | with_reducible exact hb0 | with_reducible refine Below.drew ?_ | with_reducible refine below_drewN ?_ _ | with_reducible refine Below.alloc ?_ (by have := hb0.size; first | (simp; done) | (simp; omega) | omega) _ | with_reducible refine Below.setCell ?_ (by first | (simp; done) | (simp; omega) | omega) _)⟩

set_option maxRecDepth 100000 in
set_option maxHeartbeats 4000000 in
theorem hash_any (kd : Int) (l bs xs : List Int) (a : Option Addr) (n c lb ln : Nat) (w : World) (hkd : 0 ≤ kd) (hkd' : kd < 256) (hln : ln = l.length) (hl2 : ln ≤ 2) (hlr : ∀ x ∈ l, 0 ≤ x ∧ x < 4294967296)
    (hlc : CellsAt w (some ⟨lb, 0, none⟩) (l.map (Value.int .u32))) (hn : n = bs.length) (hb : CellsAt w a (bs.map (Value.int .u8))) (h8 : Bytes8 bs) (hnl : n ≤ 9991) (hxs : xs = kd :: fours l ++ bs)
    (hK : CellsAt w (some ⟨6, 0, none⟩) (kcs.map (Value.int .u32))) (hw0 : 6 < w.heap.size) :
    Calls Tryd.prog 78 #[.int .u8 kd, .slice a n c, .slice (some ⟨lb, 0, none⟩) ln ln] w fun e w' =>
      e = .returned (.tuple #[.int .u64 (numL xs), .int .i64 0]) ∧ Below w.heap.size w w' := by
  obtain ⟨i0, hi, hz0, hz1, hz2⟩ := info_parts info_u8
  have hnI : (n : Int) ≤ 9991 := by omega
  have hl2I : (ln : Int) ≤ 2 := by omega
  have hwf : ∀ W, Below w.heap.size w W → 6 < W.heap.size := fun W h => Nat.lt_of_lt_of_le hw0 h.size
  have H_hn := hid hn
  have H_hln := hid hln
  have H_hxs := hid hxs
  have H_hnl := hid hnl
  have H_hl2 := hid hl2
  clear hn hln hxs hnl hl2
  go_enter Tryd.func78, Tryd.ntmps78
  have hb0 := Below.refl w.heap.size w
  go_wp2_with fail
  refine wp_gen fun w1 hc1 => ?_
  have o1 : OwnX w1 w.heap.size 5 1 (.slice (some ⟨w.heap.size, 0, none⟩) 1 1) 1 [.int .u8 kd] := OwnX.later (OwnX.made w [.int .u8 kd] _ _ 1 1 (Nat.le_refl _) (by simp [maxLen]) rfl) hc1
  have hb1 : Below w.heap.size w w1 := bchain (by repeat' (first | with_reducible exact hb0 | with_reducible refine Below.drew ?_ | with_reducible refine below_drewN ?_ _ | with_reducible refine Below.alloc ?_ (by have := hb0.size; first | (simp; done) | (simp; omega) | omega) _ | with_reducible refine Below.setCell ?_ (by first | (simp; done) | (simp; omega) | omega) _)) hc1
  clear hc1
  go_loopw [8, 23] (fun s q wr => ∃ (k : Nat) (av : Option Addr) (cv m : Nat), k ≤ ln ∧ q = .int .i64 k ∧ Hid (m = 1 + 4 * k) ∧ s = .slice av m cv ∧ Below w.heap.size w wr ∧ OwnX wr w.heap.size 5 1 (.slice av m cv) m ((kd :: fours (l.take k)).map (Value.int .u8))) (fun _ q _ => ln - (intOf q).toNat)
  case atStart => exact ⟨0, _, _, 1, Nat.zero_le _, rfl, hid rfl, rfl, hb1, o1⟩
  case round =>
    clear o1 hb1
    obtain ⟨k, av, cv, m, hk, rfl, Hm, rfl, hbw, ow⟩ := hrel
    by_cases hlt : k < ln
    · have hkl : k < l.length := by have := H_hln.out; omega
      obtain ⟨b0, o0, e0, cl⟩ := (hlc.later hbw).int (by omega)
      cases e0
      replace cl := cl k hkl
      rw [Nat.zero_add] at cl
      obtain ⟨x, hx⟩ : ∃ x, x = l[k]?.getD 0 := ⟨_, rfl⟩
      have hxr : 0 ≤ x ∧ x < 4294967296 := by
        rw [hx, List.getElem?_eq_getElem hkl]; exact hlr _ (List.getElem_mem hkl)
      obtain ⟨hx1, hx2⟩ := hxr
      rw [← hx] at cl
      have HT := hid (fours_take hkl)
      rw [← hx] at HT
      have H_hx := hid hx
      have H_hkl := hid hkl
      clear hx hkl
      have hkI : (k : Int) < (ln : Int) := by omega
      have hm64 : (m : Int) ≤ 64 := by have := Hm.out; have := H_hl2.out; omega
      have hz2' := hbw.size
      go_wp2_with (at_builtin; refine stop ?_)
      refine Stop.go ?_
      refine wpList_append_x _ rfl _ _ 43 rfl w.heap.size 5 i0 (.int .u8 0) 1 1 Tryd.underlying43 hi hz0 hz1 hz2 rfl (by decide) (.slice av m cv) m _ rfl (ow.alloc _) (some ⟨wr.heap.size, 0, none⟩) 4 4 [.int .u8 _, .int .u8 _, .int .u8 _, .int .u8 _] rfl rfl (cellsAt_newL wr _ _ rfl) (by intro u hu; simp only [List.mem_cons, List.not_mem_nil, or_false] at hu; rcases hu with h | h | h | h <;> (subst h; rfl)) (by unfold maxLen; omega) (by omega) (by simp; omega) ?_
      intro a5 c5 w5 o5 hg hk5
      have hb5 : Below w.heap.size w w5 := below_grownX (hbw.alloc hz2' _) hg (by simp; omega) (fun q h => (ow.lt q h).1)
      go_wp2_with fail
      go_roundw
      case rel =>
        refine ⟨k + 1, a5, c5, m + 4, by omega, by go_num, hid (by have := Hm.out; omega), rfl, hb5, ?_⟩
        rw [HT.out]
        have e4 : x / 16777216 % 256 = x / 16777216 := by omega
        simp [four, e4] at o5 ⊢
        exact o5
      case measure => simp [intOf]; omega
    · have hge : (ln : Int) ≤ (k : Int) := by omega
      have hkk : k = ln := by omega
      obtain ⟨hd, hhd⟩ : ∃ hd, hd = kd :: fours l := ⟨_, rfl⟩
      have ow' : OwnX wr w.heap.size 5 1 (.slice av m cv) m (hd.map (Value.int .u8)) := by
        rw [hkk, H_hln.out, List.take_length, ← hhd] at ow
        exact ow
      have Hml : Hid (m = hd.length) := hid (by have := Hm.out; have := H_hln.out; rw [hhd, List.length_cons, fours_len]; omega)
      have hd8 : Bytes8 hd := by
        rw [hhd]
        intro y hy
        rcases List.mem_cons.1 hy with h | h
        · subst h; exact ⟨hkd, hkd'⟩
        · exact fours_bytes l y h
      have hmle : m ≤ 9 := by have := Hm.out; have := H_hl2.out; omega
      have Hxs : Hid (hd ++ bs = xs) := hid (by rw [H_hxs.out, hhd])
      obtain ⟨d, hdd⟩ : ∃ d, d = ofL xs := ⟨_, rfl⟩
      have hd32 : d.length = 32 := by rw [hdd]; exact ofL_len _
      have hdb : Bytes8 d := by rw [hdd]; exact ofL_bytes _
      have hP : PiecesAt wr [.slice av m cv, .slice a n c] [hd, bs] := piecesAt_two Hml.out H_hn.out ow'.cellsAt (hb.later hbw) hd8 h8 (by unfold maxLen; omega) (by unfold maxLen; omega)
      obtain ⟨dv, hdv⟩ : ∃ dv, dv = d.map (Value.int .u8) := ⟨_, rfl⟩
      have Hsum : Hid (idE (sumP [hd, bs]) = .returned (.tuple #[.agg dv.toArray, .int .i64 0])) := hid (by
        rw [sumP_two (by have := Hml.out; omega) (by have := H_hn.out; have := H_hnl.out; omega), Hxs.out, ← hdd, hdv]; rfl)
      have hr : dv.length = (List.replicate 32 (Value.int .u8 0)).length := by rw [hdv, List.length_map, hd32]; rfl
      have hiv : (Tryd.prog.info? 138).map (·.size) = some dv.length := by rw [hdv, List.length_map, hd32]; exact info32
      have hov : ∀ x ∈ dv, x.oneCell' = true := by rw [hdv]; exact oneCell_ints _ _
      have Hnum : Hid (numL xs = numK d 8) := hid (by rw [hdd]; rfl)
      have H_hdd := hid hdd
      have H_hr := hid hr
      have H_hiv := hid hiv
      have H_hov := hid hov
      have H_hkk := hid hkk
      have H_hhd := hid hhd
      clear hdd hr hiv hov hkk hhd
      clear ow
      go_wp2_with fail
      with_reducible refine (pieces_any [hd, bs] [.slice av m cv, .slice a n c] (some ⟨wr.heap.size, 0, none⟩) 2 2 _ ⟨cellsAt_newL wr _ _ rfl, hP.later ((Below.refl _ _).alloc (Nat.le_refl _) _), rfl, by simp [maxLen]⟩ rfl ((hK.later hbw).alloc _) (by have := hwf _ hbw; simp; omega)).mono ?_
      rintro e w2 ⟨rfl, hc2⟩
      have hb2 : Below w.heap.size w w2 := bchain (hbw.alloc hbw.size _) hc2
      clear hc2 hP ow'
      rw [Hsum.out]
      have hN2 := Blk.new w2 w2.heap.size (List.replicate 32 (Value.int .u8 0)) 138 rfl
      go_upto_region 10 with (refine wpList_store_blk rfl 138 _ _ rfl w2.heap.size (by first | rfl | (simp [Act.eval]; done) | (go_simp; done)) 138 _ dv (by first | rfl | (simp [Act.eval]; done) | (go_simp; done)) hN2 H_hr.out H_hiv.out H_hov.out ?_; intro w3 hA3 he; have HW := hid he; clear he)
      have hc3 : Below w2.heap.size w2 w3 := HW.out ▸ below_setCells (Nat.le_refl _) _ _ _ ((Below.refl _ _).alloc (Nat.le_refl _) _)
      have hb3 : Below w.heap.size w w3 := bchain hb2 hc3
      clear hN2 HW hc3
      rw [hdv] at hA3
      go_wp2_with fail
      go_loopw [13, 51] (fun s q wr => ∃ (k : Nat), k ≤ 8 ∧ q = .int .i64 k ∧ s = .int .u64 (numK d k) ∧ wr = w3) (fun _ q _ => 8 - (intOf q).toNat)
      case atStart => exact ⟨0, Nat.zero_le _, rfl, rfl, rfl⟩
      case round =>
        obtain ⟨j, hj, rfl, rfl, rfl⟩ := hrel
        by_cases hlt : j < 8
        · have hjI : (j : Int) < 8 := by omega
          have cA := hA3.cellI (j := j) (by rw [hd32]; omega)
          have hn1 := numK_rng hdb j
          have hn2 : numK d j < 72057594037927936 := by
            have h7 : ∀ i : Fin 8, (256 : Int) ^ i.val ≤ 72057594037927936 := by decide
            have := h7 ⟨j, hlt⟩
            simp only at this
            omega
          have hy8 := hdb.at j
          have HN := hid (show numK d (j + 1) = numK d j * 256 + d[j]?.getD 0 from rfl)
          obtain ⟨hn0, _⟩ := hn1
          obtain ⟨y, hy⟩ : ∃ y, y = d[j]?.getD 0 := ⟨_, rfl⟩
          obtain ⟨z, hz⟩ : ∃ z, z = numK d j := ⟨_, rfl⟩
          rw [← hy] at cA hy8
          rw [← hy, ← hz] at HN
          rw [← hz] at hn0 hn2
          obtain ⟨hy1, hy2⟩ := hy8
          have hor := or_byte64 z y hn0 hn2 hy1 hy2
          have H_hy := hid hy
          have H_hz := hid hz
          clear hy hz
          rw [← H_hz.out]
          go_wp2_with fail
          go_roundw
          case rel => exact ⟨j + 1, by omega, by go_num, by rw [HN.out], by first | rfl | trivial⟩
          case measure => simp [intOf]; omega
        · have hge : (8 : Int) ≤ (j : Int) := by omega
          have hj8 : j = 8 := by omega
          rw [hj8, ← Hnum.out]
          have H_hj8 := hid hj8
          clear hj8
          go_wp2_with fail
          go_ret2
          exact ⟨rfl, hb3⟩


def nonX (s : Int) (bs : List Int) : List Int := 110 :: fours [s] ++ bs
def nonP (s : Int) (bs : List Int) : Int := numL (nonX s bs) % 500000002 + 1
def chaX (r y : Int) (bs : List Int) : List Int := 99 :: fours [r, y] ++ bs
def chaP (r y : Int) (bs : List Int) : Int := numL (chaX r y bs) % 500000003
def sgE (s : Int) (bs : List Int) : Int := chaP (pubK (nonP s bs)) (pubK s) bs
def sgS (s : Int) (bs : List Int) : Int := (nonP s bs + sgE s bs * s % 500000003) % 500000003
theorem pubK_in (s : Int) : isB (pubK s) = true := isB_pow is_4 _
theorem nonP_rng (s : Int) (bs : List Int) : 1 ≤ nonP s bs ∧ nonP s bs < 500000003 := by unfold nonP; omega
theorem chaP_rng (r y : Int) (bs : List Int) : 0 ≤ chaP r y bs ∧ chaP r y bs < 500000003 := by unfold chaP; omega
theorem sgS_rng (s : Int) (bs : List Int) : 0 ≤ sgS s bs ∧ sgS s bs < 500000003 := by unfold sgS; omega
theorem sgE_rng (s : Int) (bs : List Int) : 0 ≤ sgE s bs ∧ sgE s bs < 500000003 := chaP_rng _ _ _

/-- A message: its cells. -/
structure MsgIn (w : World) (a : Option Addr) (n : Nat) (bs : List Int) : Prop where
  len : n = bs.length
  cells : CellsAt w a (bs.map (Value.int .u8))
  bytes : Bytes8 bs
theorem MsgIn.later {w w' : World} {a : Option Addr} {n : Nat} {bs : List Int} (h : MsgIn w a n bs) (hb : Below w.heap.size w w') : MsgIn w' a n bs := ⟨h.len, h.cells.later hb, h.bytes⟩
/-- The table of constants. -/
structure TabK (w : World) : Prop where
  cells : CellsAt w (some ⟨6, 0, none⟩) (kcs.map (Value.int .u32))
  pos : 6 < w.heap.size
theorem TabK.later {w w' : World} (h : TabK w) (hb : Below w.heap.size w w') : TabK w' := ⟨h.cells.later hb, Nat.lt_of_lt_of_le h.pos hb.size⟩
theorem below_alloc (w : World) (o : Obj) : Below w.heap.size w (w.alloc o) := (Below.refl _ _).alloc (Nat.le_refl _) _

theorem nonce_ok (s : Int) (bs : List Int) (a : Option Addr) (n c : Nat) (w : World) (h1 : 1 ≤ s) (h2 : s < 500000003) (hm : MsgIn w a n bs) (hn : n ≤ 9991) (hT : TabK w) :
    Calls Tryd.prog 53 #[.int .u32 s, .slice a n c] w fun e w' =>
      e = .returned (.tuple #[.int .u32 (nonP s bs), .int .i64 0]) ∧ Below w.heap.size w w' := by
  obtain ⟨xs, hxs⟩ : ∃ xs, xs = nonX s bs := ⟨_, rfl⟩
  have hxl := hid (show xs = 110 :: fours [s] ++ bs from hxs)
  obtain ⟨hz1, hz2⟩ := numL_rng xs
  have hR := hid (show nonP s bs = numL xs % 500000002 + 1 by rw [hxs]; rfl)
  obtain ⟨z, hz⟩ : ∃ z, numL xs = z := ⟨_, rfl⟩
  rw [hz] at hz1 hz2 hR
  obtain ⟨q, hq⟩ : ∃ q, q = z % 500000002 := ⟨_, rfl⟩
  have hq1 : 0 ≤ q := by omega
  have hq2 : q < 500000002 := by omega
  rw [← hq] at hR
  have e1 : IntKind.u32.wrap q = q := by rw [IntKind.wrap_u32]; omega
  have e2 : IntKind.u32.wrap (q + 1) = q + 1 := by rw [IntKind.wrap_u32]; omega
  have e3 : z % 500000002 = q := hq.symm
  have H_hxs := hid hxs
  have H_hz := hid hz
  clear hxs hz
  clear hq
  go_enter Tryd.func53, Tryd.ntmps53
  have hb0 := Below.refl w.heap.size w
  go_wp2_with fail
  refine (check_ok s _ h1 h2).mono ?_
  rintro e w' ⟨rfl, rfl⟩
  go_wp2_with fail
  with_reducible refine (hash_any 110 [s] bs xs a n c _ 1 _ (by omega) (by omega) rfl (by omega) (by intro x hx; rw [List.mem_singleton.1 hx]; omega) (cellsAt_newL (a := #[.int .u32 s]) _ _ _ rfl) hm.len (hm.cells.alloc _) hm.bytes hn hxl.out (hT.cells.alloc _) (hT.later (below_alloc _ _)).pos).mono ?_
  rintro e w1 ⟨rfl, hc1⟩
  have hb1 : Below w.heap.size w w1 := bchain (by repeat' (first | with_reducible exact hb0 | with_reducible refine Below.drew ?_ | with_reducible refine below_drewN ?_ _ | with_reducible refine Below.alloc ?_ (by have := hb0.size; first | (simp; done) | (simp; omega) | omega) _ | with_reducible refine Below.setCell ?_ (by first | (simp; done) | (simp; omega) | omega) _)) hc1
  clear hc1 hb0
  rw [H_hz.out]
  go_wp2_with fail
  go_ret2
  exact ⟨by rw [hR.out]; rfl, (by repeat' (first | with_reducible exact hb1 | with_reducible refine Below.drew ?_ | with_reducible refine below_drewN ?_ _ | with_reducible refine Below.alloc ?_ (by have := hb1.size; first | (simp; done) | (simp; omega) | omega) _ | with_reducible refine Below.setCell ?_ (by first | (simp; done) | (simp; omega) | omega) _))⟩
theorem nonce_many (s : Int) (a : Option Addr) (n c : Nat) (w : World) (h1 : 1 ≤ s) (h2 : s < 500000003) (hn : 9991 < n) (hn2 : n ≤ 140737488355328) :
    Calls Tryd.prog 53 #[.int .u32 s, .slice a n c] w fun e w' =>
      e = .returned (.tuple #[.int .u32 0, .int .i64 4]) ∧ Below w.heap.size w w' := by
  go_enter Tryd.func53, Tryd.ntmps53
  have hb0 := Below.refl w.heap.size w
  go_wp2_with fail
  refine (check_ok s _ h1 h2).mono ?_
  rintro e w' ⟨rfl, rfl⟩
  go_wp2_with fail
  with_reducible refine (hash_many 110 a _ n c 1 1 _ hn hn2).mono ?_
  rintro e w1 ⟨rfl, hc1⟩
  have hb1 : Below w.heap.size w w1 := bchain (by repeat' (first | with_reducible exact hb0 | with_reducible refine Below.drew ?_ | with_reducible refine below_drewN ?_ _ | with_reducible refine Below.alloc ?_ (by have := hb0.size; first | (simp; done) | (simp; omega) | omega) _ | with_reducible refine Below.setCell ?_ (by first | (simp; done) | (simp; omega) | omega) _)) hc1
  clear hc1 hb0
  go_wp2_with fail
  go_ret2
  exact ⟨rfl, by repeat' (first | with_reducible exact hb1 | with_reducible refine Below.drew ?_ | with_reducible refine below_drewN ?_ _ | with_reducible refine Below.alloc ?_ (by have := hb1.size; first | (simp; done) | (simp; omega) | omega) _ | with_reducible refine Below.setCell ?_ (by first | (simp; done) | (simp; omega) | omega) _)⟩
theorem nonce_no (s : Int) (a : Option Addr) (n c : Nat) (w : World) (h0 : 0 ≤ s) (h4 : s < 4294967296) (h : s = 0 ∨ 500000003 ≤ s) :
    Calls Tryd.prog 53 #[.int .u32 s, .slice a n c] w fun e w' =>
      e = .returned (.tuple #[.int .u32 0, .int .i64 2]) ∧ Below w.heap.size w w' := by
  have H := hid h
  clear h
  go_enter Tryd.func53, Tryd.ntmps53
  have hb0 := Below.refl w.heap.size w
  go_wp2_with fail
  refine (check_no s _ h0 h4 H.out).mono ?_
  rintro e w' ⟨rfl, rfl⟩
  go_wp2_with fail
  go_ret2
  exact ⟨rfl, by repeat' (first | with_reducible exact hb0 | with_reducible refine Below.drew ?_ | with_reducible refine below_drewN ?_ _ | with_reducible refine Below.alloc ?_ (by have := hb0.size; first | (simp; done) | (simp; omega) | omega) _ | with_reducible refine Below.setCell ?_ (by first | (simp; done) | (simp; omega) | omega) _)⟩

theorem challenge_ok (r y : Int) (bs : List Int) (a : Option Addr) (n c : Nat) (w : World) (r0 : 0 ≤ r) (r4 : r < 4294967296) (y0 : 0 ≤ y) (y4 : y < 4294967296) (hm : MsgIn w a n bs) (hn : n ≤ 9991) (hT : TabK w) :
    Calls Tryd.prog 54 #[.int .u32 r, .int .u32 y, .slice a n c] w fun e w' =>
      e = .returned (.tuple #[.int .u32 (chaP r y bs), .int .i64 0]) ∧ Below w.heap.size w w' := by
  obtain ⟨xs, hxs⟩ : ∃ xs, xs = chaX r y bs := ⟨_, rfl⟩
  have hxl := hid (show xs = 99 :: fours [r, y] ++ bs from hxs)
  obtain ⟨hz1, hz2⟩ := numL_rng xs
  have hR := hid (show chaP r y bs = numL xs % 500000003 by rw [hxs]; rfl)
  obtain ⟨z, hz⟩ : ∃ z, numL xs = z := ⟨_, rfl⟩
  rw [hz] at hz1 hz2 hR
  obtain ⟨q, hq⟩ : ∃ q, q = z % 500000003 := ⟨_, rfl⟩
  have hq1 : 0 ≤ q := by omega
  have hq2 : q < 500000003 := by omega
  rw [← hq] at hR
  have e1 : IntKind.u32.wrap q = q := by rw [IntKind.wrap_u32]; omega
  have e3 : z % 500000003 = q := hq.symm
  have H_hxs := hid hxs
  have H_hz := hid hz
  clear hxs hz
  clear hq
  go_enter Tryd.func54, Tryd.ntmps54
  have hb0 := Below.refl w.heap.size w
  go_wp2_with fail
  with_reducible refine (hash_any 99 [r, y] bs xs a n c _ 2 _ (by omega) (by omega) rfl (by omega) (by intro x hx; simp only [List.mem_cons, List.not_mem_nil, or_false] at hx; omega) (cellsAt_newL (a := #[.int .u32 r, .int .u32 y]) _ _ _ rfl) hm.len (hm.cells.alloc _) hm.bytes hn hxl.out (hT.cells.alloc _) (hT.later (below_alloc _ _)).pos).mono ?_
  rintro e w1 ⟨rfl, hc1⟩
  have hb1 : Below w.heap.size w w1 := bchain (by repeat' (first | with_reducible exact hb0 | with_reducible refine Below.drew ?_ | with_reducible refine below_drewN ?_ _ | with_reducible refine Below.alloc ?_ (by have := hb0.size; first | (simp; done) | (simp; omega) | omega) _ | with_reducible refine Below.setCell ?_ (by first | (simp; done) | (simp; omega) | omega) _)) hc1
  clear hc1 hb0
  rw [H_hz.out]
  go_wp2_with fail
  go_ret2
  exact ⟨by rw [hR.out]; rfl, (by repeat' (first | with_reducible exact hb1 | with_reducible refine Below.drew ?_ | with_reducible refine below_drewN ?_ _ | with_reducible refine Below.alloc ?_ (by have := hb1.size; first | (simp; done) | (simp; omega) | omega) _ | with_reducible refine Below.setCell ?_ (by first | (simp; done) | (simp; omega) | omega) _))⟩
theorem challenge_many (r y : Int) (a : Option Addr) (n c : Nat) (w : World) (hn : 9991 < n) (hn2 : n ≤ 140737488355328) :
    Calls Tryd.prog 54 #[.int .u32 r, .int .u32 y, .slice a n c] w fun e w' =>
      e = .returned (.tuple #[.int .u32 0, .int .i64 4]) ∧ Below w.heap.size w w' := by
  go_enter Tryd.func54, Tryd.ntmps54
  have hb0 := Below.refl w.heap.size w
  go_wp2_with fail
  with_reducible refine (hash_many 99 a _ n c 2 2 _ hn hn2).mono ?_
  rintro e w1 ⟨rfl, hc1⟩
  have hb1 : Below w.heap.size w w1 := bchain (by repeat' (first | with_reducible exact hb0 | with_reducible refine Below.drew ?_ | with_reducible refine below_drewN ?_ _ | with_reducible refine Below.alloc ?_ (by have := hb0.size; first | (simp; done) | (simp; omega) | omega) _ | with_reducible refine Below.setCell ?_ (by first | (simp; done) | (simp; omega) | omega) _)) hc1
  clear hc1 hb0
  go_wp2_with fail
  go_ret2
  exact ⟨rfl, by repeat' (first | with_reducible exact hb1 | with_reducible refine Below.drew ?_ | with_reducible refine below_drewN ?_ _ | with_reducible refine Below.alloc ?_ (by have := hb1.size; first | (simp; done) | (simp; omega) | omega) _ | with_reducible refine Below.setCell ?_ (by first | (simp; done) | (simp; omega) | omega) _)⟩

set_option maxRecDepth 100000 in
set_option maxHeartbeats 2000000 in
theorem sign_ok (s : Int) (bs : List Int) (a : Option Addr) (n c : Nat) (w : World) (h1 : 1 ≤ s) (h2 : s < 500000003) (hm : MsgIn w a n bs) (hn : n ≤ 9991) (hT : TabK w) :
    Calls Tryd.prog 24 #[.int .u32 s, .slice a n c] w fun e w' =>
      e = .returned (.tuple #[.agg #[.int .u32 (sgE s bs), .int .u32 (sgS s bs)], .int .i64 0]) ∧ Below w.heap.size w w' := by
  obtain ⟨k, hk⟩ : ∃ k, nonP s bs = k := ⟨_, rfl⟩
  obtain ⟨y, hy⟩ : ∃ y, pubK s = y := ⟨_, rfl⟩
  obtain ⟨r, hr⟩ : ∃ r, pubK k = r := ⟨_, rfl⟩
  obtain ⟨E, hE⟩ : ∃ E, chaP r y bs = E := ⟨_, rfl⟩
  obtain ⟨x, hx⟩ : ∃ x, E * s % 500000003 = x := ⟨_, rfl⟩
  obtain ⟨S, hS⟩ : ∃ S, (k + x) % 500000003 = S := ⟨_, rfl⟩
  have e1 : sgE s bs = E := by unfold sgE; rw [hk, hy, hr, hE]
  have e2 : sgS s bs = S := by unfold sgS; rw [e1, hk, hx, hS]
  have k1 := nonP_rng s bs
  have y1 := pubK_rng s
  have r1 := pubK_rng k
  have E1 := chaP_rng r y bs
  rw [hk] at k1; rw [hy] at y1; rw [hr] at r1; rw [hE] at E1
  obtain ⟨k1, k2⟩ := k1
  obtain ⟨y1, y2⟩ := y1
  obtain ⟨r1, r2⟩ := r1
  obtain ⟨E1, E2⟩ := E1
  have x1 : 0 ≤ x := by omega
  have x2 : x < 500000003 := by omega
  have hwf : ∀ W, Below w.heap.size w W → MsgIn W a n bs ∧ TabK W := fun W h => ⟨hm.later h, hT.later h⟩
  rw [e1, e2]
  have hrk := hid (show gpw 4 k.toNat 1000000007 = r from hr)
  have H_hk := hid hk
  have H_hy := hid hy
  have H_hr := hid hr
  have H_hE := hid hE
  have H_hx := hid hx
  have H_hS := hid hS
  clear hk hy hr hE hx hS
  clear e1 e2
  go_enter Tryd.func24, Tryd.ntmps24
  have hb0 := Below.refl w.heap.size w
  go_wp2_with fail
  with_reducible refine (nonce_ok s bs a n c _ h1 h2 (hm.later (below_alloc _ _)) hn (hT.later (below_alloc _ _))).mono ?_
  rintro e w1 ⟨rfl, hc1⟩
  have hb1 : Below w.heap.size w w1 := bchain (by repeat' (first | with_reducible exact hb0 | with_reducible refine Below.drew ?_ | with_reducible refine below_drewN ?_ _ | with_reducible refine Below.alloc ?_ (by have := hb0.size; first | (simp; done) | (simp; omega) | omega) _ | with_reducible refine Below.setCell ?_ (by first | (simp; done) | (simp; omega) | omega) _)) hc1
  have O_0 : w1.cell? ⟨w.heap.size, 0, none⟩ = some (.int .u32 0) := (hc1.cell (p := ⟨w.heap.size, 0, none⟩) (by first | (simp; done) | (simp; omega))).trans (by first | (simp; done) | go_simp)
  have O_1 : w1.cell? ⟨w.heap.size, 1, none⟩ = some (.int .u32 0) := (hc1.cell (p := ⟨w.heap.size, 1, none⟩) (by first | (simp; done) | (simp; omega))).trans (by first | (simp; done) | go_simp)
  have O_f0 : w1.frozen? ⟨w.heap.size, 0, none⟩ = false := (hc1.frozen (p := ⟨w.heap.size, 0, none⟩) (by first | (simp; done) | (simp; omega))).trans (by first | (simp; done) | go_simp)
  have O_f1 : w1.frozen? ⟨w.heap.size, 1, none⟩ = false := (hc1.frozen (p := ⟨w.heap.size, 1, none⟩) (by first | (simp; done) | (simp; omega))).trans (by first | (simp; done) | go_simp)
  have O_l : w.heap.size < w1.heap.size := Nat.lt_of_lt_of_le (by first | (simp; done) | (simp; omega)) hc1.size
  clear hc1 hb0
  rw [H_hk.out]
  go_wp2_with fail
  with_reducible refine (public_ok s _ h1 h2).mono ?_
  rintro e w2 ⟨rfl, hc2⟩
  have hb2 : Below w.heap.size w w2 := bchain (by repeat' (first | with_reducible exact hb1 | with_reducible refine Below.drew ?_ | with_reducible refine below_drewN ?_ _ | with_reducible refine Below.alloc ?_ (by have := hb1.size; first | (simp; done) | (simp; omega) | omega) _ | with_reducible refine Below.setCell ?_ (by first | (simp; done) | (simp; omega) | omega) _)) hc2
  have hst2 : Below w1.heap.size w1 w2 := bchain (by repeat' (first | with_reducible exact Below.refl _ _ | with_reducible refine Below.drew ?_ | with_reducible refine below_drewN ?_ _ | with_reducible refine Below.alloc ?_ (by first | (simp; done) | (simp; omega) | omega) _ | with_reducible refine Below.setCell ?_ (by first | (simp; done) | (simp; omega) | omega) _)) hc2
  replace O_0 := cell_later hst2 O_0
  replace O_1 := cell_later hst2 O_1
  replace O_f0 := frozen_later hst2 O_l O_f0
  replace O_f1 := frozen_later hst2 O_l O_f1
  replace O_l := Nat.lt_of_lt_of_le O_l hst2.size
  clear hst2
  clear hc2 hb1
  rw [H_hy.out]
  go_wp2_with fail
  with_reducible refine (base_I k _ (by omega) (by omega)).mono ?_
  rintro e w3 ⟨rfl, hc3⟩
  have hb3 : Below w.heap.size w w3 := bchain (by repeat' (first | with_reducible exact hb2 | with_reducible refine Below.drew ?_ | with_reducible refine below_drewN ?_ _ | with_reducible refine Below.alloc ?_ (by have := hb2.size; first | (simp; done) | (simp; omega) | omega) _ | with_reducible refine Below.setCell ?_ (by first | (simp; done) | (simp; omega) | omega) _)) hc3
  have hst3 : Below w2.heap.size w2 w3 := bchain (by repeat' (first | with_reducible exact Below.refl _ _ | with_reducible refine Below.drew ?_ | with_reducible refine below_drewN ?_ _ | with_reducible refine Below.alloc ?_ (by first | (simp; done) | (simp; omega) | omega) _ | with_reducible refine Below.setCell ?_ (by first | (simp; done) | (simp; omega) | omega) _)) hc3
  replace O_0 := cell_later hst3 O_0
  replace O_1 := cell_later hst3 O_1
  replace O_f0 := frozen_later hst3 O_l O_f0
  replace O_f1 := frozen_later hst3 O_l O_f1
  replace O_l := Nat.lt_of_lt_of_le O_l hst3.size
  clear hst3
  clear hc3 hb2
  rw [hrk.out]
  go_wp2_with fail
  with_reducible refine (challenge_ok r y bs a n c _ r1 (by omega) y1 (by omega) (hwf _ hb3).1 hn (hwf _ hb3).2).mono ?_
  rintro e w4 ⟨rfl, hc4⟩
  have hb4 : Below w.heap.size w w4 := bchain (by repeat' (first | with_reducible exact hb3 | with_reducible refine Below.drew ?_ | with_reducible refine below_drewN ?_ _ | with_reducible refine Below.alloc ?_ (by have := hb3.size; first | (simp; done) | (simp; omega) | omega) _ | with_reducible refine Below.setCell ?_ (by first | (simp; done) | (simp; omega) | omega) _)) hc4
  have hst4 : Below w3.heap.size w3 w4 := bchain (by repeat' (first | with_reducible exact Below.refl _ _ | with_reducible refine Below.drew ?_ | with_reducible refine below_drewN ?_ _ | with_reducible refine Below.alloc ?_ (by first | (simp; done) | (simp; omega) | omega) _ | with_reducible refine Below.setCell ?_ (by first | (simp; done) | (simp; omega) | omega) _)) hc4
  replace O_0 := cell_later hst4 O_0
  replace O_1 := cell_later hst4 O_1
  replace O_f0 := frozen_later hst4 O_l O_f0
  replace O_f1 := frozen_later hst4 O_l O_f1
  replace O_l := Nat.lt_of_lt_of_le O_l hst4.size
  clear hst4
  clear hc4 hb3
  rw [H_hE.out]
  go_wp2_with fail
  with_reducible refine (times_ok E s _ E1 E2 (by omega) h2).mono ?_
  rintro e w5 ⟨rfl, hc5⟩
  have hb5 : Below w.heap.size w w5 := bchain (by repeat' (first | with_reducible exact hb4 | with_reducible refine Below.drew ?_ | with_reducible refine below_drewN ?_ _ | with_reducible refine Below.alloc ?_ (by have := hb4.size; first | (simp; done) | (simp; omega) | omega) _ | with_reducible refine Below.setCell ?_ (by first | (simp; done) | (simp; omega) | omega) _)) hc5
  have hst5 : Below w4.heap.size w4 w5 := bchain (by repeat' (first | with_reducible exact Below.refl _ _ | with_reducible refine Below.drew ?_ | with_reducible refine below_drewN ?_ _ | with_reducible refine Below.alloc ?_ (by first | (simp; done) | (simp; omega) | omega) _ | with_reducible refine Below.setCell ?_ (by first | (simp; done) | (simp; omega) | omega) _)) hc5
  replace O_0 := cell_later hst5 O_0
  replace O_1 := cell_later hst5 O_1
  replace O_f0 := frozen_later hst5 O_l O_f0
  replace O_f1 := frozen_later hst5 O_l O_f1
  replace O_l := Nat.lt_of_lt_of_le O_l hst5.size
  clear hst5
  clear hc5 hb4
  rw [H_hx.out]
  go_wp2_with fail
  refine (plus_ok k x _ (by omega) k2 x1 x2).mono ?_
  rintro e w' ⟨rfl, rfl⟩
  rw [H_hS.out]
  go_wp2_with fail
  refine bodyPost_ret (v := .tuple #[.agg #[.int .u32 E, .int .u32 S], .int .i64 0]) (by simp [results, Tryd.results24, go_sem, *]) rfl ⟨rfl, ?_⟩
  exact (by repeat' (first | with_reducible exact hb5 | with_reducible refine Below.drew ?_ | with_reducible refine below_drewN ?_ _ | with_reducible refine Below.alloc ?_ (by have := hb5.size; first | (simp; done) | (simp; omega) | omega) _ | with_reducible refine Below.setCell ?_ (by first | (simp; done) | (simp; omega) | omega) _))
theorem sign_many (s : Int) (a : Option Addr) (n c : Nat) (w : World) (h1 : 1 ≤ s) (h2 : s < 500000003) (hn : 9991 < n) (hn2 : n ≤ 140737488355328) :
    Calls Tryd.prog 24 #[.int .u32 s, .slice a n c] w fun e w' =>
      e = .returned (.tuple #[.agg #[.int .u32 0, .int .u32 0], .int .i64 4]) ∧ Below w.heap.size w w' := by
  go_enter Tryd.func24, Tryd.ntmps24
  have hb0 := Below.refl w.heap.size w
  go_wp2_with fail
  with_reducible refine (nonce_many s a n c _ h1 h2 hn hn2).mono ?_
  rintro e w1 ⟨rfl, hc1⟩
  have hb1 : Below w.heap.size w w1 := bchain (by repeat' (first | with_reducible exact hb0 | with_reducible refine Below.drew ?_ | with_reducible refine below_drewN ?_ _ | with_reducible refine Below.alloc ?_ (by have := hb0.size; first | (simp; done) | (simp; omega) | omega) _ | with_reducible refine Below.setCell ?_ (by first | (simp; done) | (simp; omega) | omega) _)) hc1
  have O_0 : w1.cell? ⟨w.heap.size, 0, none⟩ = some (.int .u32 0) := (hc1.cell (p := ⟨w.heap.size, 0, none⟩) (by first | (simp; done) | (simp; omega))).trans (by first | (simp; done) | go_simp)
  have O_1 : w1.cell? ⟨w.heap.size, 1, none⟩ = some (.int .u32 0) := (hc1.cell (p := ⟨w.heap.size, 1, none⟩) (by first | (simp; done) | (simp; omega))).trans (by first | (simp; done) | go_simp)
  have O_f0 : w1.frozen? ⟨w.heap.size, 0, none⟩ = false := (hc1.frozen (p := ⟨w.heap.size, 0, none⟩) (by first | (simp; done) | (simp; omega))).trans (by first | (simp; done) | go_simp)
  have O_f1 : w1.frozen? ⟨w.heap.size, 1, none⟩ = false := (hc1.frozen (p := ⟨w.heap.size, 1, none⟩) (by first | (simp; done) | (simp; omega))).trans (by first | (simp; done) | go_simp)
  have O_l : w.heap.size < w1.heap.size := Nat.lt_of_lt_of_le (by first | (simp; done) | (simp; omega)) hc1.size
  clear hc1 hb0
  go_wp2_with fail
  refine bodyPost_ret (v := .tuple #[.agg #[.int .u32 0, .int .u32 0], .int .i64 4]) (by simp [results, Tryd.results24, go_sem, *]) rfl ⟨rfl, ?_⟩
  exact (by repeat' (first | with_reducible exact hb1 | with_reducible refine Below.drew ?_ | with_reducible refine below_drewN ?_ _ | with_reducible refine Below.alloc ?_ (by have := hb1.size; first | (simp; done) | (simp; omega) | omega) _ | with_reducible refine Below.setCell ?_ (by first | (simp; done) | (simp; omega) | omega) _))
theorem sign_no (s : Int) (a : Option Addr) (n c : Nat) (w : World) (h0 : 0 ≤ s) (h4 : s < 4294967296) (h : s = 0 ∨ 500000003 ≤ s) :
    Calls Tryd.prog 24 #[.int .u32 s, .slice a n c] w fun e w' =>
      e = .returned (.tuple #[.agg #[.int .u32 0, .int .u32 0], .int .i64 2]) ∧ Below w.heap.size w w' := by
  have H := hid h
  clear h
  go_enter Tryd.func24, Tryd.ntmps24
  have hb0 := Below.refl w.heap.size w
  go_wp2_with fail
  with_reducible refine (nonce_no s a n c _ h0 h4 H.out).mono ?_
  rintro e w1 ⟨rfl, hc1⟩
  have hb1 : Below w.heap.size w w1 := bchain (by repeat' (first | with_reducible exact hb0 | with_reducible refine Below.drew ?_ | with_reducible refine below_drewN ?_ _ | with_reducible refine Below.alloc ?_ (by have := hb0.size; first | (simp; done) | (simp; omega) | omega) _ | with_reducible refine Below.setCell ?_ (by first | (simp; done) | (simp; omega) | omega) _)) hc1
  have O_0 : w1.cell? ⟨w.heap.size, 0, none⟩ = some (.int .u32 0) := (hc1.cell (p := ⟨w.heap.size, 0, none⟩) (by first | (simp; done) | (simp; omega))).trans (by first | (simp; done) | go_simp)
  have O_1 : w1.cell? ⟨w.heap.size, 1, none⟩ = some (.int .u32 0) := (hc1.cell (p := ⟨w.heap.size, 1, none⟩) (by first | (simp; done) | (simp; omega))).trans (by first | (simp; done) | go_simp)
  have O_f0 : w1.frozen? ⟨w.heap.size, 0, none⟩ = false := (hc1.frozen (p := ⟨w.heap.size, 0, none⟩) (by first | (simp; done) | (simp; omega))).trans (by first | (simp; done) | go_simp)
  have O_f1 : w1.frozen? ⟨w.heap.size, 1, none⟩ = false := (hc1.frozen (p := ⟨w.heap.size, 1, none⟩) (by first | (simp; done) | (simp; omega))).trans (by first | (simp; done) | go_simp)
  have O_l : w.heap.size < w1.heap.size := Nat.lt_of_lt_of_le (by first | (simp; done) | (simp; omega)) hc1.size
  clear hc1 hb0
  go_wp2_with fail
  refine bodyPost_ret (v := .tuple #[.agg #[.int .u32 0, .int .u32 0], .int .i64 2]) (by simp [results, Tryd.results24, go_sem, *]) rfl ⟨rfl, ?_⟩
  exact (by repeat' (first | with_reducible exact hb1 | with_reducible refine Below.drew ?_ | with_reducible refine below_drewN ?_ _ | with_reducible refine Below.alloc ?_ (by have := hb1.size; first | (simp; done) | (simp; omega) | omega) _ | with_reducible refine Below.setCell ?_ (by first | (simp; done) | (simp; omega) | omega) _))


/-- The number that a signature's numbers give. -/
def backR (y E S : Int) : Int := pubK S * gpw y (500000003 - E).toNat 1000000007 % 1000000007
theorem backR_rng (y E S : Int) : 0 ≤ backR y E S ∧ backR y E S < 1000000007 := by unfold backR; omega
theorem back_pow {y : Int} (hy : isB y = true) (E : Int) (h0 : 0 ≤ E) (h1 : E < 500000003) : gpw y (500000003 - E).toNat 1000000007 = gpw (gpw y E.toNat 1000000007) 500000002 1000000007 := by
  have e := pwI_mul y E 500000002 h0 (by omega)
  rw [show (500000002 : Int).toNat = 500000002 from rfl] at e
  rw [e, ← pwI_rem hy (E * 500000002) (by omega), ← pwI_rem hy (500000003 - E) (by omega)]
  congr 2
  omega

theorem verify_no (y E S : Int) (a : Option Addr) (n c : Nat) (w : World) (y0 : 0 ≤ y) (y4 : y < 4294967296) (h : isB y = false) :
    Calls Tryd.prog 26 #[.int .u32 y, .slice a n c, .agg #[.int .u32 E, .int .u32 S]] w fun e w' =>
      e = .returned (.int .i64 2) ∧ Below w.heap.size w w' := by
  have H_h := hid h
  clear h
  go_enter Tryd.func26, Tryd.ntmps26
  have hb0 := Below.refl w.heap.size w
  go_wp2_with fail
  with_reducible refine (is_any y _ y0 y4).mono ?_
  rintro e w1 ⟨rfl, hc1⟩
  have hb1 : Below w.heap.size w w1 := bchain (by repeat' (first | with_reducible exact hb0 | with_reducible refine Below.drew ?_ | with_reducible refine below_drewN ?_ _ | with_reducible refine Below.alloc ?_ (by have := hb0.size; first | (simp; done) | (simp; omega) | omega) _ | with_reducible refine Below.setCell ?_ (by first | (simp; done) | (simp; omega) | omega) _)) hc1
  have O_0 : w1.cell? ⟨w.heap.size, 0, none⟩ = some (.int .u32 E) := (hc1.cell (p := ⟨w.heap.size, 0, none⟩) (by first | (simp; done) | (simp; omega))).trans (by first | (simp; done) | go_simp)
  have O_1 : w1.cell? ⟨w.heap.size, 1, none⟩ = some (.int .u32 S) := (hc1.cell (p := ⟨w.heap.size, 1, none⟩) (by first | (simp; done) | (simp; omega))).trans (by first | (simp; done) | go_simp)
  have O_l : w.heap.size < w1.heap.size := Nat.lt_of_lt_of_le (by first | (simp; done) | (simp; omega)) hc1.size
  clear hc1 hb0
  rw [H_h.out]
  go_wp2_with fail
  go_ret
  exact ⟨rfl, by repeat' (first | with_reducible exact hb1 | with_reducible refine Below.drew ?_ | with_reducible refine below_drewN ?_ _ | with_reducible refine Below.alloc ?_ (by have := hb1.size; first | (simp; done) | (simp; omega) | omega) _ | with_reducible refine Below.setCell ?_ (by first | (simp; done) | (simp; omega) | omega) _)⟩
theorem verify_many (y E S : Int) (a : Option Addr) (n c : Nat) (w : World) (y0 : 0 ≤ y) (y4 : y < 4294967296) (h : isB y = true) (hn : 9991 < n) :
    Calls Tryd.prog 26 #[.int .u32 y, .slice a n c, .agg #[.int .u32 E, .int .u32 S]] w fun e w' =>
      e = .returned (.int .i64 4) ∧ Below w.heap.size w w' := by
  have hnI : (9991 : Int) < (n : Int) := by omega
  have H_h := hid h
  clear h
  go_enter Tryd.func26, Tryd.ntmps26
  have hb0 := Below.refl w.heap.size w
  go_wp2_with fail
  with_reducible refine (is_any y _ y0 y4).mono ?_
  rintro e w1 ⟨rfl, hc1⟩
  have hb1 : Below w.heap.size w w1 := bchain (by repeat' (first | with_reducible exact hb0 | with_reducible refine Below.drew ?_ | with_reducible refine below_drewN ?_ _ | with_reducible refine Below.alloc ?_ (by have := hb0.size; first | (simp; done) | (simp; omega) | omega) _ | with_reducible refine Below.setCell ?_ (by first | (simp; done) | (simp; omega) | omega) _)) hc1
  have O_0 : w1.cell? ⟨w.heap.size, 0, none⟩ = some (.int .u32 E) := (hc1.cell (p := ⟨w.heap.size, 0, none⟩) (by first | (simp; done) | (simp; omega))).trans (by first | (simp; done) | go_simp)
  have O_1 : w1.cell? ⟨w.heap.size, 1, none⟩ = some (.int .u32 S) := (hc1.cell (p := ⟨w.heap.size, 1, none⟩) (by first | (simp; done) | (simp; omega))).trans (by first | (simp; done) | go_simp)
  have O_l : w.heap.size < w1.heap.size := Nat.lt_of_lt_of_le (by first | (simp; done) | (simp; omega)) hc1.size
  clear hc1 hb0
  rw [H_h.out]
  go_wp2_with fail
  go_ret
  exact ⟨rfl, by repeat' (first | with_reducible exact hb1 | with_reducible refine Below.drew ?_ | with_reducible refine below_drewN ?_ _ | with_reducible refine Below.alloc ?_ (by have := hb1.size; first | (simp; done) | (simp; omega) | omega) _ | with_reducible refine Below.setCell ?_ (by first | (simp; done) | (simp; omega) | omega) _)⟩
theorem verify_big (y E S : Int) (a : Option Addr) (n c : Nat) (w : World) (y0 : 0 ≤ y) (y4 : y < 4294967296) (h : isB y = true) (hn : n ≤ 9991) (hE0 : 0 ≤ E) (hS0 : 0 ≤ S) (hb : 500000003 ≤ E ∨ 500000003 ≤ S) :
    Calls Tryd.prog 26 #[.int .u32 y, .slice a n c, .agg #[.int .u32 E, .int .u32 S]] w fun e w' =>
      e = .returned (.int .i64 22) ∧ Below w.heap.size w w' := by
  have hnI : (n : Int) ≤ 9991 := by omega
  by_cases hES : E < S
  · have hS : 500000003 ≤ S := by omega
    clear hb
    have H_h := hid h
    clear h
    go_enter Tryd.func26, Tryd.ntmps26
    have hb0 := Below.refl w.heap.size w
    go_wp2_with fail
    with_reducible refine (is_any y _ y0 y4).mono ?_
    rintro e w1 ⟨rfl, hc1⟩
    have hb1 : Below w.heap.size w w1 := bchain (by repeat' (first | with_reducible exact hb0 | with_reducible refine Below.drew ?_ | with_reducible refine below_drewN ?_ _ | with_reducible refine Below.alloc ?_ (by have := hb0.size; first | (simp; done) | (simp; omega) | omega) _ | with_reducible refine Below.setCell ?_ (by first | (simp; done) | (simp; omega) | omega) _)) hc1
    have O_0 : w1.cell? ⟨w.heap.size, 0, none⟩ = some (.int .u32 E) := (hc1.cell (p := ⟨w.heap.size, 0, none⟩) (by first | (simp; done) | (simp; omega))).trans (by first | (simp; done) | go_simp)
    have O_1 : w1.cell? ⟨w.heap.size, 1, none⟩ = some (.int .u32 S) := (hc1.cell (p := ⟨w.heap.size, 1, none⟩) (by first | (simp; done) | (simp; omega))).trans (by first | (simp; done) | go_simp)
    have O_l : w.heap.size < w1.heap.size := Nat.lt_of_lt_of_le (by first | (simp; done) | (simp; omega)) hc1.size
    clear hc1 hb0
    rw [H_h.out]
    go_wp2_with fail
    go_ret
    exact ⟨rfl, by repeat' (first | with_reducible exact hb1 | with_reducible refine Below.drew ?_ | with_reducible refine below_drewN ?_ _ | with_reducible refine Below.alloc ?_ (by have := hb1.size; first | (simp; done) | (simp; omega) | omega) _ | with_reducible refine Below.setCell ?_ (by first | (simp; done) | (simp; omega) | omega) _)⟩
  · have hS : 500000003 ≤ E := by omega
    have hSE : S ≤ E := by omega
    clear hb
    have H_h := hid h
    clear h
    go_enter Tryd.func26, Tryd.ntmps26
    have hb0 := Below.refl w.heap.size w
    go_wp2_with fail
    with_reducible refine (is_any y _ y0 y4).mono ?_
    rintro e w1 ⟨rfl, hc1⟩
    have hb1 : Below w.heap.size w w1 := bchain (by repeat' (first | with_reducible exact hb0 | with_reducible refine Below.drew ?_ | with_reducible refine below_drewN ?_ _ | with_reducible refine Below.alloc ?_ (by have := hb0.size; first | (simp; done) | (simp; omega) | omega) _ | with_reducible refine Below.setCell ?_ (by first | (simp; done) | (simp; omega) | omega) _)) hc1
    have O_0 : w1.cell? ⟨w.heap.size, 0, none⟩ = some (.int .u32 E) := (hc1.cell (p := ⟨w.heap.size, 0, none⟩) (by first | (simp; done) | (simp; omega))).trans (by first | (simp; done) | go_simp)
    have O_1 : w1.cell? ⟨w.heap.size, 1, none⟩ = some (.int .u32 S) := (hc1.cell (p := ⟨w.heap.size, 1, none⟩) (by first | (simp; done) | (simp; omega))).trans (by first | (simp; done) | go_simp)
    have O_l : w.heap.size < w1.heap.size := Nat.lt_of_lt_of_le (by first | (simp; done) | (simp; omega)) hc1.size
    clear hc1 hb0
    rw [H_h.out]
    go_wp2_with fail
    go_ret
    exact ⟨rfl, by repeat' (first | with_reducible exact hb1 | with_reducible refine Below.drew ?_ | with_reducible refine below_drewN ?_ _ | with_reducible refine Below.alloc ?_ (by have := hb1.size; first | (simp; done) | (simp; omega) | omega) _ | with_reducible refine Below.setCell ?_ (by first | (simp; done) | (simp; omega) | omega) _)⟩

set_option maxRecDepth 100000 in
set_option maxHeartbeats 2000000 in
theorem verify_go (y E S : Int) (bs : List Int) (a : Option Addr) (n c : Nat) (w : World) (h : isB y = true) (hm : MsgIn w a n bs) (hn : n ≤ 9991) (hT : TabK w) (hE0 : 0 ≤ E) (hE : E < 500000003) (hS0 : 0 ≤ S) (hS : S < 500000003) :
    Calls Tryd.prog 26 #[.int .u32 y, .slice a n c, .agg #[.int .u32 E, .int .u32 S]] w fun e w' =>
      e = .returned (.int .i64 (if chaP (backR y E S) y bs = E then 0 else 22)) ∧ Below w.heap.size w w' := by
  have hnI : (n : Int) ≤ 9991 := by omega
  have hy := isB_bd h
  obtain ⟨hy0, hy1⟩ := hy
  obtain ⟨z, hz⟩ : ∃ z, gpw y (500000003 - E).toNat 1000000007 = z := ⟨_, rfl⟩
  have hzB : isB z = true := by rw [← hz]; exact isB_pow h _
  obtain ⟨u, hu⟩ : ∃ u, gpw 4 S.toNat 1000000007 = u := ⟨_, rfl⟩
  have huB : isB u = true := by rw [← hu]; exact isB_pow is_4 _
  obtain ⟨r, hr⟩ : ∃ r, u * z % 1000000007 = r := ⟨_, rfl⟩
  have e1 : backR y E S = r := by rw [← hr, ← hu, ← hz]; rfl
  have hr0 : 0 ≤ r := by omega
  have hr1 : r < 1000000007 := by omega
  obtain ⟨C, hC⟩ : ∃ C, chaP r y bs = C := ⟨_, rfl⟩
  have e2 : IntKind.u64.wrap (500000003 - E) = 500000003 - E := by rw [IntKind.wrap_u64]; omega
  have hwf : ∀ W, Below w.heap.size w W → MsgIn W a n bs ∧ TabK W := fun W h => ⟨hm.later h, hT.later h⟩
  rw [e1, hC]
  clear e1
  have H_h := Box.mk h
  have H_hz := Box.mk hz
  have H_hzB := Box.mk hzB
  have H_hu := Box.mk hu
  have H_huB := Box.mk huB
  have H_hr := Box.mk hr
  have H_hC := Box.mk hC
  have H_hwf := Box.mk hwf
  have H_hm := Box.mk hm
  have H_hT := Box.mk hT
  have H_e2 := Box.mk e2
  clear h hz hzB hu huB hr hC hwf hm hT e2
  by_cases hES : E < S
  · by_cases hCE : C = E
    · rw [if_pos hCE]
      go_enter Tryd.func26, Tryd.ntmps26
      have hb0 := Below.refl w.heap.size w
      go_wp2_with fail
      with_reducible refine (is_any y _ (by omega) (by omega)).mono ?_
      rintro e w1 ⟨rfl, hc1⟩
      have hb1 : Below w.heap.size w w1 := bchain (by repeat' (first | with_reducible exact hb0 | with_reducible refine Below.drew ?_ | with_reducible refine below_drewN ?_ _ | with_reducible refine Below.alloc ?_ (by have := hb0.size; first | (simp; done) | (simp; omega) | omega) _ | with_reducible refine Below.setCell ?_ (by first | (simp; done) | (simp; omega) | omega) _)) hc1
      have O_0 : w1.cell? ⟨w.heap.size, 0, none⟩ = some (.int .u32 E) := (hc1.cell (p := ⟨w.heap.size, 0, none⟩) (by first | (simp; done) | (simp; omega))).trans (by first | (simp; done) | go_simp)
      have O_1 : w1.cell? ⟨w.heap.size, 1, none⟩ = some (.int .u32 S) := (hc1.cell (p := ⟨w.heap.size, 1, none⟩) (by first | (simp; done) | (simp; omega))).trans (by first | (simp; done) | go_simp)
      have O_l : w.heap.size < w1.heap.size := Nat.lt_of_lt_of_le (by first | (simp; done) | (simp; omega)) hc1.size
      clear hc1 hb0
      rw [H_h.out]
      go_upto_region 7 with fail
      have e2 := H_e2.out
      go_wp2_with fail
      with_reducible refine (Pow_okI y (500000003 - E) _ H_h.out (by omega) (by omega)).mono ?_
      rintro e w2 ⟨rfl, hc2⟩
      have hb2 : Below w.heap.size w w2 := bchain (by repeat' (first | with_reducible exact hb1 | with_reducible refine Below.drew ?_ | with_reducible refine below_drewN ?_ _ | with_reducible refine Below.alloc ?_ (by have := hb1.size; first | (simp; done) | (simp; omega) | omega) _ | with_reducible refine Below.setCell ?_ (by first | (simp; done) | (simp; omega) | omega) _)) hc2
      have hst2 : Below w1.heap.size w1 w2 := bchain (by repeat' (first | with_reducible exact Below.refl _ _ | with_reducible refine Below.drew ?_ | with_reducible refine below_drewN ?_ _ | with_reducible refine Below.alloc ?_ (by first | (simp; done) | (simp; omega) | omega) _ | with_reducible refine Below.setCell ?_ (by first | (simp; done) | (simp; omega) | omega) _)) hc2
      replace O_0 := cell_later hst2 O_0
      replace O_1 := cell_later hst2 O_1
      replace O_l := Nat.lt_of_lt_of_le O_l hst2.size
      clear hst2
      clear hc2 hb1
      rw [H_hz.out]
      clear e2
      go_wp2_with fail
      with_reducible refine (base_I S _ hS0 (by omega)).mono ?_
      rintro e w3 ⟨rfl, hc3⟩
      have hb3 : Below w.heap.size w w3 := bchain (by repeat' (first | with_reducible exact hb2 | with_reducible refine Below.drew ?_ | with_reducible refine below_drewN ?_ _ | with_reducible refine Below.alloc ?_ (by have := hb2.size; first | (simp; done) | (simp; omega) | omega) _ | with_reducible refine Below.setCell ?_ (by first | (simp; done) | (simp; omega) | omega) _)) hc3
      have hst3 : Below w2.heap.size w2 w3 := bchain (by repeat' (first | with_reducible exact Below.refl _ _ | with_reducible refine Below.drew ?_ | with_reducible refine below_drewN ?_ _ | with_reducible refine Below.alloc ?_ (by first | (simp; done) | (simp; omega) | omega) _ | with_reducible refine Below.setCell ?_ (by first | (simp; done) | (simp; omega) | omega) _)) hc3
      replace O_0 := cell_later hst3 O_0
      replace O_1 := cell_later hst3 O_1
      replace O_l := Nat.lt_of_lt_of_le O_l hst3.size
      clear hst3
      clear hc3 hb2
      rw [H_hu.out]
      go_wp2_with fail
      with_reducible refine (mul_ok u z _ H_huB.out H_hzB.out).mono ?_
      rintro e w4 ⟨rfl, hc4⟩
      have hb4 : Below w.heap.size w w4 := bchain (by repeat' (first | with_reducible exact hb3 | with_reducible refine Below.drew ?_ | with_reducible refine below_drewN ?_ _ | with_reducible refine Below.alloc ?_ (by have := hb3.size; first | (simp; done) | (simp; omega) | omega) _ | with_reducible refine Below.setCell ?_ (by first | (simp; done) | (simp; omega) | omega) _)) hc4
      have hst4 : Below w3.heap.size w3 w4 := bchain (by repeat' (first | with_reducible exact Below.refl _ _ | with_reducible refine Below.drew ?_ | with_reducible refine below_drewN ?_ _ | with_reducible refine Below.alloc ?_ (by first | (simp; done) | (simp; omega) | omega) _ | with_reducible refine Below.setCell ?_ (by first | (simp; done) | (simp; omega) | omega) _)) hc4
      replace O_0 := cell_later hst4 O_0
      replace O_1 := cell_later hst4 O_1
      replace O_l := Nat.lt_of_lt_of_le O_l hst4.size
      clear hst4
      clear hc4 hb3
      rw [H_hr.out]
      go_wp2_with fail
      with_reducible refine (challenge_ok r y bs a n c _ hr0 (by omega) (by omega) (by omega) (H_hwf.out _ hb4).1 hn (H_hwf.out _ hb4).2).mono ?_
      rintro e w5 ⟨rfl, hc5⟩
      have hb5 : Below w.heap.size w w5 := bchain (by repeat' (first | with_reducible exact hb4 | with_reducible refine Below.drew ?_ | with_reducible refine below_drewN ?_ _ | with_reducible refine Below.alloc ?_ (by have := hb4.size; first | (simp; done) | (simp; omega) | omega) _ | with_reducible refine Below.setCell ?_ (by first | (simp; done) | (simp; omega) | omega) _)) hc5
      have hst5 : Below w4.heap.size w4 w5 := bchain (by repeat' (first | with_reducible exact Below.refl _ _ | with_reducible refine Below.drew ?_ | with_reducible refine below_drewN ?_ _ | with_reducible refine Below.alloc ?_ (by first | (simp; done) | (simp; omega) | omega) _ | with_reducible refine Below.setCell ?_ (by first | (simp; done) | (simp; omega) | omega) _)) hc5
      replace O_0 := cell_later hst5 O_0
      replace O_1 := cell_later hst5 O_1
      replace O_l := Nat.lt_of_lt_of_le O_l hst5.size
      clear hst5
      clear hc5 hb4
      rw [H_hC.out]
      go_wp2_with fail
      go_ret
      exact ⟨rfl, by repeat' (first | with_reducible exact hb5 | with_reducible refine Below.drew ?_ | with_reducible refine below_drewN ?_ _ | with_reducible refine Below.alloc ?_ (by have := hb5.size; first | (simp; done) | (simp; omega) | omega) _ | with_reducible refine Below.setCell ?_ (by first | (simp; done) | (simp; omega) | omega) _)⟩
    · rw [if_neg hCE]
      go_enter Tryd.func26, Tryd.ntmps26
      have hb0 := Below.refl w.heap.size w
      go_wp2_with fail
      with_reducible refine (is_any y _ (by omega) (by omega)).mono ?_
      rintro e w1 ⟨rfl, hc1⟩
      have hb1 : Below w.heap.size w w1 := bchain (by repeat' (first | with_reducible exact hb0 | with_reducible refine Below.drew ?_ | with_reducible refine below_drewN ?_ _ | with_reducible refine Below.alloc ?_ (by have := hb0.size; first | (simp; done) | (simp; omega) | omega) _ | with_reducible refine Below.setCell ?_ (by first | (simp; done) | (simp; omega) | omega) _)) hc1
      have O_0 : w1.cell? ⟨w.heap.size, 0, none⟩ = some (.int .u32 E) := (hc1.cell (p := ⟨w.heap.size, 0, none⟩) (by first | (simp; done) | (simp; omega))).trans (by first | (simp; done) | go_simp)
      have O_1 : w1.cell? ⟨w.heap.size, 1, none⟩ = some (.int .u32 S) := (hc1.cell (p := ⟨w.heap.size, 1, none⟩) (by first | (simp; done) | (simp; omega))).trans (by first | (simp; done) | go_simp)
      have O_l : w.heap.size < w1.heap.size := Nat.lt_of_lt_of_le (by first | (simp; done) | (simp; omega)) hc1.size
      clear hc1 hb0
      rw [H_h.out]
      go_upto_region 7 with fail
      have e2 := H_e2.out
      go_wp2_with fail
      with_reducible refine (Pow_okI y (500000003 - E) _ H_h.out (by omega) (by omega)).mono ?_
      rintro e w2 ⟨rfl, hc2⟩
      have hb2 : Below w.heap.size w w2 := bchain (by repeat' (first | with_reducible exact hb1 | with_reducible refine Below.drew ?_ | with_reducible refine below_drewN ?_ _ | with_reducible refine Below.alloc ?_ (by have := hb1.size; first | (simp; done) | (simp; omega) | omega) _ | with_reducible refine Below.setCell ?_ (by first | (simp; done) | (simp; omega) | omega) _)) hc2
      have hst2 : Below w1.heap.size w1 w2 := bchain (by repeat' (first | with_reducible exact Below.refl _ _ | with_reducible refine Below.drew ?_ | with_reducible refine below_drewN ?_ _ | with_reducible refine Below.alloc ?_ (by first | (simp; done) | (simp; omega) | omega) _ | with_reducible refine Below.setCell ?_ (by first | (simp; done) | (simp; omega) | omega) _)) hc2
      replace O_0 := cell_later hst2 O_0
      replace O_1 := cell_later hst2 O_1
      replace O_l := Nat.lt_of_lt_of_le O_l hst2.size
      clear hst2
      clear hc2 hb1
      rw [H_hz.out]
      clear e2
      go_wp2_with fail
      with_reducible refine (base_I S _ hS0 (by omega)).mono ?_
      rintro e w3 ⟨rfl, hc3⟩
      have hb3 : Below w.heap.size w w3 := bchain (by repeat' (first | with_reducible exact hb2 | with_reducible refine Below.drew ?_ | with_reducible refine below_drewN ?_ _ | with_reducible refine Below.alloc ?_ (by have := hb2.size; first | (simp; done) | (simp; omega) | omega) _ | with_reducible refine Below.setCell ?_ (by first | (simp; done) | (simp; omega) | omega) _)) hc3
      have hst3 : Below w2.heap.size w2 w3 := bchain (by repeat' (first | with_reducible exact Below.refl _ _ | with_reducible refine Below.drew ?_ | with_reducible refine below_drewN ?_ _ | with_reducible refine Below.alloc ?_ (by first | (simp; done) | (simp; omega) | omega) _ | with_reducible refine Below.setCell ?_ (by first | (simp; done) | (simp; omega) | omega) _)) hc3
      replace O_0 := cell_later hst3 O_0
      replace O_1 := cell_later hst3 O_1
      replace O_l := Nat.lt_of_lt_of_le O_l hst3.size
      clear hst3
      clear hc3 hb2
      rw [H_hu.out]
      go_wp2_with fail
      with_reducible refine (mul_ok u z _ H_huB.out H_hzB.out).mono ?_
      rintro e w4 ⟨rfl, hc4⟩
      have hb4 : Below w.heap.size w w4 := bchain (by repeat' (first | with_reducible exact hb3 | with_reducible refine Below.drew ?_ | with_reducible refine below_drewN ?_ _ | with_reducible refine Below.alloc ?_ (by have := hb3.size; first | (simp; done) | (simp; omega) | omega) _ | with_reducible refine Below.setCell ?_ (by first | (simp; done) | (simp; omega) | omega) _)) hc4
      have hst4 : Below w3.heap.size w3 w4 := bchain (by repeat' (first | with_reducible exact Below.refl _ _ | with_reducible refine Below.drew ?_ | with_reducible refine below_drewN ?_ _ | with_reducible refine Below.alloc ?_ (by first | (simp; done) | (simp; omega) | omega) _ | with_reducible refine Below.setCell ?_ (by first | (simp; done) | (simp; omega) | omega) _)) hc4
      replace O_0 := cell_later hst4 O_0
      replace O_1 := cell_later hst4 O_1
      replace O_l := Nat.lt_of_lt_of_le O_l hst4.size
      clear hst4
      clear hc4 hb3
      rw [H_hr.out]
      go_wp2_with fail
      with_reducible refine (challenge_ok r y bs a n c _ hr0 (by omega) (by omega) (by omega) (H_hwf.out _ hb4).1 hn (H_hwf.out _ hb4).2).mono ?_
      rintro e w5 ⟨rfl, hc5⟩
      have hb5 : Below w.heap.size w w5 := bchain (by repeat' (first | with_reducible exact hb4 | with_reducible refine Below.drew ?_ | with_reducible refine below_drewN ?_ _ | with_reducible refine Below.alloc ?_ (by have := hb4.size; first | (simp; done) | (simp; omega) | omega) _ | with_reducible refine Below.setCell ?_ (by first | (simp; done) | (simp; omega) | omega) _)) hc5
      have hst5 : Below w4.heap.size w4 w5 := bchain (by repeat' (first | with_reducible exact Below.refl _ _ | with_reducible refine Below.drew ?_ | with_reducible refine below_drewN ?_ _ | with_reducible refine Below.alloc ?_ (by first | (simp; done) | (simp; omega) | omega) _ | with_reducible refine Below.setCell ?_ (by first | (simp; done) | (simp; omega) | omega) _)) hc5
      replace O_0 := cell_later hst5 O_0
      replace O_1 := cell_later hst5 O_1
      replace O_l := Nat.lt_of_lt_of_le O_l hst5.size
      clear hst5
      clear hc5 hb4
      rw [H_hC.out]
      go_wp2_with fail
      go_ret
      exact ⟨rfl, by repeat' (first | with_reducible exact hb5 | with_reducible refine Below.drew ?_ | with_reducible refine below_drewN ?_ _ | with_reducible refine Below.alloc ?_ (by have := hb5.size; first | (simp; done) | (simp; omega) | omega) _ | with_reducible refine Below.setCell ?_ (by first | (simp; done) | (simp; omega) | omega) _)⟩
  · have hSE : S ≤ E := by omega
    by_cases hCE : C = E
    · rw [if_pos hCE]
      go_enter Tryd.func26, Tryd.ntmps26
      have hb0 := Below.refl w.heap.size w
      go_wp2_with fail
      with_reducible refine (is_any y _ (by omega) (by omega)).mono ?_
      rintro e w1 ⟨rfl, hc1⟩
      have hb1 : Below w.heap.size w w1 := bchain (by repeat' (first | with_reducible exact hb0 | with_reducible refine Below.drew ?_ | with_reducible refine below_drewN ?_ _ | with_reducible refine Below.alloc ?_ (by have := hb0.size; first | (simp; done) | (simp; omega) | omega) _ | with_reducible refine Below.setCell ?_ (by first | (simp; done) | (simp; omega) | omega) _)) hc1
      have O_0 : w1.cell? ⟨w.heap.size, 0, none⟩ = some (.int .u32 E) := (hc1.cell (p := ⟨w.heap.size, 0, none⟩) (by first | (simp; done) | (simp; omega))).trans (by first | (simp; done) | go_simp)
      have O_1 : w1.cell? ⟨w.heap.size, 1, none⟩ = some (.int .u32 S) := (hc1.cell (p := ⟨w.heap.size, 1, none⟩) (by first | (simp; done) | (simp; omega))).trans (by first | (simp; done) | go_simp)
      have O_l : w.heap.size < w1.heap.size := Nat.lt_of_lt_of_le (by first | (simp; done) | (simp; omega)) hc1.size
      clear hc1 hb0
      rw [H_h.out]
      go_upto_region 7 with fail
      have e2 := H_e2.out
      go_wp2_with fail
      with_reducible refine (Pow_okI y (500000003 - E) _ H_h.out (by omega) (by omega)).mono ?_
      rintro e w2 ⟨rfl, hc2⟩
      have hb2 : Below w.heap.size w w2 := bchain (by repeat' (first | with_reducible exact hb1 | with_reducible refine Below.drew ?_ | with_reducible refine below_drewN ?_ _ | with_reducible refine Below.alloc ?_ (by have := hb1.size; first | (simp; done) | (simp; omega) | omega) _ | with_reducible refine Below.setCell ?_ (by first | (simp; done) | (simp; omega) | omega) _)) hc2
      have hst2 : Below w1.heap.size w1 w2 := bchain (by repeat' (first | with_reducible exact Below.refl _ _ | with_reducible refine Below.drew ?_ | with_reducible refine below_drewN ?_ _ | with_reducible refine Below.alloc ?_ (by first | (simp; done) | (simp; omega) | omega) _ | with_reducible refine Below.setCell ?_ (by first | (simp; done) | (simp; omega) | omega) _)) hc2
      replace O_0 := cell_later hst2 O_0
      replace O_1 := cell_later hst2 O_1
      replace O_l := Nat.lt_of_lt_of_le O_l hst2.size
      clear hst2
      clear hc2 hb1
      rw [H_hz.out]
      clear e2
      go_wp2_with fail
      with_reducible refine (base_I S _ hS0 (by omega)).mono ?_
      rintro e w3 ⟨rfl, hc3⟩
      have hb3 : Below w.heap.size w w3 := bchain (by repeat' (first | with_reducible exact hb2 | with_reducible refine Below.drew ?_ | with_reducible refine below_drewN ?_ _ | with_reducible refine Below.alloc ?_ (by have := hb2.size; first | (simp; done) | (simp; omega) | omega) _ | with_reducible refine Below.setCell ?_ (by first | (simp; done) | (simp; omega) | omega) _)) hc3
      have hst3 : Below w2.heap.size w2 w3 := bchain (by repeat' (first | with_reducible exact Below.refl _ _ | with_reducible refine Below.drew ?_ | with_reducible refine below_drewN ?_ _ | with_reducible refine Below.alloc ?_ (by first | (simp; done) | (simp; omega) | omega) _ | with_reducible refine Below.setCell ?_ (by first | (simp; done) | (simp; omega) | omega) _)) hc3
      replace O_0 := cell_later hst3 O_0
      replace O_1 := cell_later hst3 O_1
      replace O_l := Nat.lt_of_lt_of_le O_l hst3.size
      clear hst3
      clear hc3 hb2
      rw [H_hu.out]
      go_wp2_with fail
      with_reducible refine (mul_ok u z _ H_huB.out H_hzB.out).mono ?_
      rintro e w4 ⟨rfl, hc4⟩
      have hb4 : Below w.heap.size w w4 := bchain (by repeat' (first | with_reducible exact hb3 | with_reducible refine Below.drew ?_ | with_reducible refine below_drewN ?_ _ | with_reducible refine Below.alloc ?_ (by have := hb3.size; first | (simp; done) | (simp; omega) | omega) _ | with_reducible refine Below.setCell ?_ (by first | (simp; done) | (simp; omega) | omega) _)) hc4
      have hst4 : Below w3.heap.size w3 w4 := bchain (by repeat' (first | with_reducible exact Below.refl _ _ | with_reducible refine Below.drew ?_ | with_reducible refine below_drewN ?_ _ | with_reducible refine Below.alloc ?_ (by first | (simp; done) | (simp; omega) | omega) _ | with_reducible refine Below.setCell ?_ (by first | (simp; done) | (simp; omega) | omega) _)) hc4
      replace O_0 := cell_later hst4 O_0
      replace O_1 := cell_later hst4 O_1
      replace O_l := Nat.lt_of_lt_of_le O_l hst4.size
      clear hst4
      clear hc4 hb3
      rw [H_hr.out]
      go_wp2_with fail
      with_reducible refine (challenge_ok r y bs a n c _ hr0 (by omega) (by omega) (by omega) (H_hwf.out _ hb4).1 hn (H_hwf.out _ hb4).2).mono ?_
      rintro e w5 ⟨rfl, hc5⟩
      have hb5 : Below w.heap.size w w5 := bchain (by repeat' (first | with_reducible exact hb4 | with_reducible refine Below.drew ?_ | with_reducible refine below_drewN ?_ _ | with_reducible refine Below.alloc ?_ (by have := hb4.size; first | (simp; done) | (simp; omega) | omega) _ | with_reducible refine Below.setCell ?_ (by first | (simp; done) | (simp; omega) | omega) _)) hc5
      have hst5 : Below w4.heap.size w4 w5 := bchain (by repeat' (first | with_reducible exact Below.refl _ _ | with_reducible refine Below.drew ?_ | with_reducible refine below_drewN ?_ _ | with_reducible refine Below.alloc ?_ (by first | (simp; done) | (simp; omega) | omega) _ | with_reducible refine Below.setCell ?_ (by first | (simp; done) | (simp; omega) | omega) _)) hc5
      replace O_0 := cell_later hst5 O_0
      replace O_1 := cell_later hst5 O_1
      replace O_l := Nat.lt_of_lt_of_le O_l hst5.size
      clear hst5
      clear hc5 hb4
      rw [H_hC.out]
      go_wp2_with fail
      go_ret
      exact ⟨rfl, by repeat' (first | with_reducible exact hb5 | with_reducible refine Below.drew ?_ | with_reducible refine below_drewN ?_ _ | with_reducible refine Below.alloc ?_ (by have := hb5.size; first | (simp; done) | (simp; omega) | omega) _ | with_reducible refine Below.setCell ?_ (by first | (simp; done) | (simp; omega) | omega) _)⟩
    · rw [if_neg hCE]
      go_enter Tryd.func26, Tryd.ntmps26
      have hb0 := Below.refl w.heap.size w
      go_wp2_with fail
      with_reducible refine (is_any y _ (by omega) (by omega)).mono ?_
      rintro e w1 ⟨rfl, hc1⟩
      have hb1 : Below w.heap.size w w1 := bchain (by repeat' (first | with_reducible exact hb0 | with_reducible refine Below.drew ?_ | with_reducible refine below_drewN ?_ _ | with_reducible refine Below.alloc ?_ (by have := hb0.size; first | (simp; done) | (simp; omega) | omega) _ | with_reducible refine Below.setCell ?_ (by first | (simp; done) | (simp; omega) | omega) _)) hc1
      have O_0 : w1.cell? ⟨w.heap.size, 0, none⟩ = some (.int .u32 E) := (hc1.cell (p := ⟨w.heap.size, 0, none⟩) (by first | (simp; done) | (simp; omega))).trans (by first | (simp; done) | go_simp)
      have O_1 : w1.cell? ⟨w.heap.size, 1, none⟩ = some (.int .u32 S) := (hc1.cell (p := ⟨w.heap.size, 1, none⟩) (by first | (simp; done) | (simp; omega))).trans (by first | (simp; done) | go_simp)
      have O_l : w.heap.size < w1.heap.size := Nat.lt_of_lt_of_le (by first | (simp; done) | (simp; omega)) hc1.size
      clear hc1 hb0
      rw [H_h.out]
      go_upto_region 7 with fail
      have e2 := H_e2.out
      go_wp2_with fail
      with_reducible refine (Pow_okI y (500000003 - E) _ H_h.out (by omega) (by omega)).mono ?_
      rintro e w2 ⟨rfl, hc2⟩
      have hb2 : Below w.heap.size w w2 := bchain (by repeat' (first | with_reducible exact hb1 | with_reducible refine Below.drew ?_ | with_reducible refine below_drewN ?_ _ | with_reducible refine Below.alloc ?_ (by have := hb1.size; first | (simp; done) | (simp; omega) | omega) _ | with_reducible refine Below.setCell ?_ (by first | (simp; done) | (simp; omega) | omega) _)) hc2
      have hst2 : Below w1.heap.size w1 w2 := bchain (by repeat' (first | with_reducible exact Below.refl _ _ | with_reducible refine Below.drew ?_ | with_reducible refine below_drewN ?_ _ | with_reducible refine Below.alloc ?_ (by first | (simp; done) | (simp; omega) | omega) _ | with_reducible refine Below.setCell ?_ (by first | (simp; done) | (simp; omega) | omega) _)) hc2
      replace O_0 := cell_later hst2 O_0
      replace O_1 := cell_later hst2 O_1
      replace O_l := Nat.lt_of_lt_of_le O_l hst2.size
      clear hst2
      clear hc2 hb1
      rw [H_hz.out]
      clear e2
      go_wp2_with fail
      with_reducible refine (base_I S _ hS0 (by omega)).mono ?_
      rintro e w3 ⟨rfl, hc3⟩
      have hb3 : Below w.heap.size w w3 := bchain (by repeat' (first | with_reducible exact hb2 | with_reducible refine Below.drew ?_ | with_reducible refine below_drewN ?_ _ | with_reducible refine Below.alloc ?_ (by have := hb2.size; first | (simp; done) | (simp; omega) | omega) _ | with_reducible refine Below.setCell ?_ (by first | (simp; done) | (simp; omega) | omega) _)) hc3
      have hst3 : Below w2.heap.size w2 w3 := bchain (by repeat' (first | with_reducible exact Below.refl _ _ | with_reducible refine Below.drew ?_ | with_reducible refine below_drewN ?_ _ | with_reducible refine Below.alloc ?_ (by first | (simp; done) | (simp; omega) | omega) _ | with_reducible refine Below.setCell ?_ (by first | (simp; done) | (simp; omega) | omega) _)) hc3
      replace O_0 := cell_later hst3 O_0
      replace O_1 := cell_later hst3 O_1
      replace O_l := Nat.lt_of_lt_of_le O_l hst3.size
      clear hst3
      clear hc3 hb2
      rw [H_hu.out]
      go_wp2_with fail
      with_reducible refine (mul_ok u z _ H_huB.out H_hzB.out).mono ?_
      rintro e w4 ⟨rfl, hc4⟩
      have hb4 : Below w.heap.size w w4 := bchain (by repeat' (first | with_reducible exact hb3 | with_reducible refine Below.drew ?_ | with_reducible refine below_drewN ?_ _ | with_reducible refine Below.alloc ?_ (by have := hb3.size; first | (simp; done) | (simp; omega) | omega) _ | with_reducible refine Below.setCell ?_ (by first | (simp; done) | (simp; omega) | omega) _)) hc4
      have hst4 : Below w3.heap.size w3 w4 := bchain (by repeat' (first | with_reducible exact Below.refl _ _ | with_reducible refine Below.drew ?_ | with_reducible refine below_drewN ?_ _ | with_reducible refine Below.alloc ?_ (by first | (simp; done) | (simp; omega) | omega) _ | with_reducible refine Below.setCell ?_ (by first | (simp; done) | (simp; omega) | omega) _)) hc4
      replace O_0 := cell_later hst4 O_0
      replace O_1 := cell_later hst4 O_1
      replace O_l := Nat.lt_of_lt_of_le O_l hst4.size
      clear hst4
      clear hc4 hb3
      rw [H_hr.out]
      go_wp2_with fail
      with_reducible refine (challenge_ok r y bs a n c _ hr0 (by omega) (by omega) (by omega) (H_hwf.out _ hb4).1 hn (H_hwf.out _ hb4).2).mono ?_
      rintro e w5 ⟨rfl, hc5⟩
      have hb5 : Below w.heap.size w w5 := bchain (by repeat' (first | with_reducible exact hb4 | with_reducible refine Below.drew ?_ | with_reducible refine below_drewN ?_ _ | with_reducible refine Below.alloc ?_ (by have := hb4.size; first | (simp; done) | (simp; omega) | omega) _ | with_reducible refine Below.setCell ?_ (by first | (simp; done) | (simp; omega) | omega) _)) hc5
      have hst5 : Below w4.heap.size w4 w5 := bchain (by repeat' (first | with_reducible exact Below.refl _ _ | with_reducible refine Below.drew ?_ | with_reducible refine below_drewN ?_ _ | with_reducible refine Below.alloc ?_ (by first | (simp; done) | (simp; omega) | omega) _ | with_reducible refine Below.setCell ?_ (by first | (simp; done) | (simp; omega) | omega) _)) hc5
      replace O_0 := cell_later hst5 O_0
      replace O_1 := cell_later hst5 O_1
      replace O_l := Nat.lt_of_lt_of_le O_l hst5.size
      clear hst5
      clear hc5 hb4
      rw [H_hC.out]
      go_wp2_with fail
      go_ret
      exact ⟨rfl, by repeat' (first | with_reducible exact hb5 | with_reducible refine Below.drew ?_ | with_reducible refine below_drewN ?_ _ | with_reducible refine Below.alloc ?_ (by have := hb5.size; first | (simp; done) | (simp; omega) | omega) _ | with_reducible refine Below.setCell ?_ (by first | (simp; done) | (simp; omega) | omega) _)⟩

end Go.Proofs.YthdldmkeoglflaaDoor
