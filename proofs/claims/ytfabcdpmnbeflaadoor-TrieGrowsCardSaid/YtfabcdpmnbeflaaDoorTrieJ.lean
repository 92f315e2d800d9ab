/- TrieJ: TrieChecked, TrieBack, TrieProofP, TrieProofRoot, TrieVerify, TrieProvesP, TrieProvesW. -/
import Derived.Test.YtfabcdpmnbeflaaDoorTrieE
import Derived.Test.YtfabcdpmnbeflaaDoorOwnAt
import Derived.Test.YtfabcdpmnbeflaaDoorTrieR
import Derived.RangeFuncBox
import Derived.Shelf.Abstract
import Derived.WalkKit
import Derived.Test.YtfabcdpmnbeflaaDoorTrieG
/- A proof's check: of a proof that is valid for an id. -/
namespace Go.Proofs.YtfabcdpmnbeflaaDoor
set_option linter.unusedSimpArgs false
set_option linter.unusedVariables false
set_option linter.unnecessarySimpa false
open Go.RowKit
set_option maxRecDepth 100000

/-- The k-th bit of a way. -/
def nb (l : List Nat) (k : Nat) : Nat := l[k]?.getD 0
/-- A proof that is valid for an id. -/
structure ProofOk (id : List Int) (A : ProofA) (bs : List Nat) : Prop where
  bits : A.bits = bs.map fun (n : Nat) => (n : Int)
  small : ∀ k, k < bs.length → nb bs k < 256
  inc : ∀ k, k + 1 < bs.length → nb bs k < nb bs (k + 1)
  agree : ∀ k, k < bs.length → bitB A.only (nb bs k) = bitB id (nb bs k)
  len : A.beside.length = bs.length
  le : bs.length ≤ 60
  only : IdIn A.only
  emp : A.empty = true → bs = [] ∧ A.only = List.replicate 32 0
theorem bitsC_eq {bs : List Nat} : (bs.map fun (n : Nat) => (n : Int)).map (Value.int .u8) = bs.map fun (n : Nat) => Value.int .u8 (n : Int) := by rw [List.map_map]; rfl
theorem cells_bit {w : World} {a : Option Addr} {bs : List Nat} (h : CellsAt w a ((bs.map fun (n : Nat) => (n : Int)).map (Value.int .u8))) (h0 : 0 < bs.length) : ∃ b o, a = some ⟨b, o, none⟩ ∧ ∀ k, k < bs.length → w.cell? ⟨b, o + k, none⟩ = some (.int .u8 (nb bs k)) := by
  rw [bitsC_eq] at h
  rcases h with h | ⟨b, o, ha, h⟩
  · simp at h; subst h; simp at h0
  · refine ⟨b, o, ha, fun k hk => h k _ ?_⟩
    unfold nb
    simp [List.getElem?_eq_getElem hk]
set_option maxHeartbeats 4000000 in
theorem checked_empty (A : ProofA) (id : List Int) (ba da : Option Addr) (bc dc : Nat) (w : World) (hid : IdIn id) (hok : ProofOk id A []) (hemp : A.empty = true) :
    Calls Tryd.prog 43 #[.agg (idC id).toArray, .agg (prC ba A.bits.length bc da A.beside.length dc A.only A.empty).toArray] w fun e w' =>
      e = .returned (.int .i64 0) ∧ Below w.heap.size w w' := by
  obtain ⟨n, hn⟩ : ∃ n, ([] : List Nat).length = n := ⟨_, rfl⟩
  have hla : A.bits.length = n := by rw [hok.bits, List.length_map]; exact hn
  have hlb : A.beside.length = n := by rw [hok.len]; exact hn
  have hle := hok.le
  rw [hn] at hle
  rw [hla, hlb]
  have hnI : (n : Int) ≤ 60 := by omega
  have hvo := hok.only
  obtain ⟨us, hus⟩ : ∃ v, v = idC (id) := ⟨_, rfl⟩
  have husl := idC_len hid
  have husi := idC_info hid
  have huso := idC_one (id)
  rw [← hus] at husl husi huso
  have husr : us.length = (List.replicate 32 (Value.int .u8 0)).length := by rw [husl]; rfl
  obtain ⟨vs, hvs⟩ : ∃ v, v = idC (A.only) := ⟨_, rfl⟩
  have hvsl := idC_len hvo
  have hvsi := idC_info hvo
  have hvso := idC_one (A.only)
  rw [← hvs] at hvsl hvsi hvso
  have hvsr : vs.length = (List.replicate 32 (Value.int .u8 0)).length := by rw [hvsl]; rfl
  rw [← hus]
  obtain rfl : n = 0 := hn.symm
  have honly := (hok.emp hemp).2
  have hz : ∀ w, (Op.equalIn 10000 24 (.agg vs.toArray) (.agg #[.int .u8 0, .int .u8 0, .int .u8 0, .int .u8 0, .int .u8 0, .int .u8 0, .int .u8 0, .int .u8 0, .int .u8 0, .int .u8 0, .int .u8 0, .int .u8 0, .int .u8 0, .int .u8 0, .int .u8 0, .int .u8 0, .int .u8 0, .int .u8 0, .int .u8 0, .int .u8 0, .int .u8 0, .int .u8 0, .int .u8 0, .int .u8 0, .int .u8 0, .int .u8 0, .int .u8 0, .int .u8 0, .int .u8 0, .int .u8 0, .int .u8 0, .int .u8 0])).run Tryd.prog w = .ok true w := fun w => by
    rw [hvs, honly]; have := eq_ids (List.replicate 32 0) (List.replicate 32 0) (by simp) (by simp) w; rw [beq_self_eq_true] at this; exact this
  obtain ⟨PV, hPV⟩ : ∃ PV, PV = prC ba 0 bc da 0 dc A.only true := ⟨_, rfl⟩
  rw [hemp, ← hPV]
  have hP0 : PV[0]? = some (.slice ba 0 bc) := by rw [hPV]; rfl
  have hP1 : PV[1]? = some (.slice da 0 dc) := by rw [hPV]; rfl
  have hP2 : ∀ j u, vs[j]? = some u → PV[2 + j]? = some u := fun j u hj => by rw [hPV]; rw [hvs] at hj; exact prC_only j u hj
  have hP34 : PV[34]? = some (.bool true) := by rw [hPV]; exact prC_empty hok.only
  have H_hok := Box.mk hok
  have H_hemp := Box.mk hemp
  have H_hus := Box.mk hus
  have H_husl := Box.mk husl
  have H_husi := Box.mk husi
  have H_huso := Box.mk huso
  have H_husr := Box.mk husr
  have H_hvs := Box.mk hvs
  have H_hvsl := Box.mk hvsl
  have H_hvsi := Box.mk hvsi
  have H_hvso := Box.mk hvso
  have H_hvsr := Box.mk hvsr
  have H_hz := Box.mk hz
  have H_honly := Box.mk honly
  have H_hPV := Box.mk hPV
  have H_hla := Box.mk hla
  have H_hlb := Box.mk hlb
  have H_hid := Box.mk hid
  have H_hn := Box.mk hn
  clear hok hemp hus husl husi huso husr hvs hvsl hvsi hvso hvsr hz honly hPV hla hlb hid hn
  go_enter Tryd.func43, Tryd.ntmps43
  have hb0 := Below.refl w.heap.size w
  go_upto_region 1 with fail
  refine wp_gen fun w1 hc1 => ?_
  have hX : Blk w1 w.heap.size 24 us := Blk.later ((Blk.newA w _ _ _ us rfl rfl).alloc _) hc1
  have hP : Blk w1 (w.heap.size + 1) 41 PV := Blk.later (Blk.newA (w.alloc (.cells us.toArray 24)) (w.heap.size + 1) _ _ PV (by simp) rfl) hc1
  have hb1 : Below w.heap.size w w1 := bchain (by repeat' (first | with_reducible exact hb0 | with_reducible refine Below.drew ?_ | with_reducible refine below_drewN ?_ _ | with_reducible refine Below.alloc ?_ (by have := hb0.size; first | (simp; done) | (simp; omega) | omega) _ | with_reducible refine Below.setCell ?_ (by first | (simp; done) | (simp; omega) | omega) _)) hc1
  clear hc1
  have p0 := hP.cell hP0
  have p1 := hP.cell hP1
  have p34 := hP.cell hP34
  have hrv : w1.rangeAt (w.heap.size + 1) 2 vs := fun j v hj => hP.cell (hP2 j v hj)
  clear hP0 hP1 hP2 hP34
  have hz' := H_hz.out
  go_wp2_with (refine wpList_load_midG (by first | rfl | (simp [Region.wanted]; done)) 24 _ rfl (w.heap.size + 1) 2 (by rfl) vs _ hrv Tryd.underlying24 rfl H_hvsi.out ?_)
  clear hz'
  go_loopw [43] (fun q wr => q = .int .i64 0 ∧ Below w.heap.size w wr) (fun _ _ => 0)
  case atStart => exact ⟨rfl, hb1⟩
  case round =>
    obtain ⟨rfl, hbw⟩ := hrel
    clear p0 p1 p34 hrv hP hX hb1
    go_wp2_with fail
    go_ret
    exact ⟨rfl, hbw⟩
set_option maxHeartbeats 4000000 in
theorem checked_ok (A : ProofA) (id : List Int) (bs : List Nat) (ba da : Option Addr) (bc dc : Nat) (w : World) (hc : CellsAt w ba (A.bits.map (Value.int .u8))) (hid : IdIn id) (hok : ProofOk id A bs) (hemp : A.empty = false) :
    Calls Tryd.prog 43 #[.agg (idC id).toArray, .agg (prC ba A.bits.length bc da A.beside.length dc A.only A.empty).toArray] w fun e w' =>
      e = .returned (.int .i64 0) ∧ Below w.heap.size w w' := by
  obtain ⟨n, hn⟩ : ∃ n, bs.length = n := ⟨_, rfl⟩
  have hla : A.bits.length = n := by rw [hok.bits, List.length_map]; exact hn
  have hlb : A.beside.length = n := by rw [hok.len]; exact hn
  have hle := hok.le
  rw [hn] at hle
  rw [hla, hlb]
  have hnI : (n : Int) ≤ 60 := by omega
  have hvo := hok.only
  obtain ⟨us, hus⟩ : ∃ v, v = idC (id) := ⟨_, rfl⟩
  have husl := idC_len hid
  have husi := idC_info hid
  have huso := idC_one (id)
  rw [← hus] at husl husi huso
  have husr : us.length = (List.replicate 32 (Value.int .u8 0)).length := by rw [husl]; rfl
  obtain ⟨vs, hvs⟩ : ∃ v, v = idC (A.only) := ⟨_, rfl⟩
  have hvsl := idC_len hvo
  have hvsi := idC_info hvo
  have hvso := idC_one (A.only)
  rw [← hvs] at hvsl hvsi hvso
  have hvsr : vs.length = (List.replicate 32 (Value.int .u8 0)).length := by rw [hvsl]; rfl
  rw [← hus]
  rw [hok.bits] at hc
  have hrow := fun (h : 0 < n) => cells_bit hc (by rw [hn]; exact h)
  obtain ⟨PV, hPV⟩ : ∃ PV, PV = prC ba n bc da n dc A.only false := ⟨_, rfl⟩
  rw [hemp, ← hPV]
  have hP0 : PV[0]? = some (.slice ba n bc) := by rw [hPV]; rfl
  have hP1 : PV[1]? = some (.slice da n dc) := by rw [hPV]; rfl
  have hP2 : ∀ j u, vs[j]? = some u → PV[2 + j]? = some u := fun j u hj => by rw [hPV]; rw [hvs] at hj; exact prC_only j u hj
  have hP34 : PV[34]? = some (.bool false) := by rw [hPV]; exact prC_empty hok.only
  have H_hok := Box.mk hok
  have H_hemp := Box.mk hemp
  have H_hus := Box.mk hus
  have H_husl := Box.mk husl
  have H_husi := Box.mk husi
  have H_huso := Box.mk huso
  have H_husr := Box.mk husr
  have H_hvs := Box.mk hvs
  have H_hvsl := Box.mk hvsl
  have H_hvsi := Box.mk hvsi
  have H_hvso := Box.mk hvso
  have H_hvsr := Box.mk hvsr
  have H_hPV := Box.mk hPV
  have H_hla := Box.mk hla
  have H_hlb := Box.mk hlb
  have H_hid := Box.mk hid
  have H_hn := Box.mk hn
  have H_hc := Box.mk hc
  have H_hrow := Box.mk hrow
  have H_hP0 := Box.mk hP0
  have H_hP1 := Box.mk hP1
  have H_hP2 := Box.mk hP2
  have H_hP34 := Box.mk hP34
  clear hok hemp hus husl husi huso husr hvs hvsl hvsi hvso hvsr hPV hla hlb hid hn hc hrow hP0 hP1 hP2 hP34
  go_enter Tryd.func43, Tryd.ntmps43
  have hb0 := Below.refl w.heap.size w
  go_upto_region 1 with fail
  refine wp_gen fun w1 hc1 => ?_
  have hX : Blk w1 w.heap.size 24 us := Blk.later ((Blk.newA w _ _ _ us rfl rfl).alloc _) hc1
  have hP : Blk w1 (w.heap.size + 1) 41 PV := Blk.later (Blk.newA (w.alloc (.cells us.toArray 24)) (w.heap.size + 1) _ _ PV (by simp) rfl) hc1
  have hb1 : Below w.heap.size w w1 := bchain (by repeat' (first | with_reducible exact hb0 | with_reducible refine Below.drew ?_ | with_reducible refine below_drewN ?_ _ | with_reducible refine Below.alloc ?_ (by have := hb0.size; first | (simp; done) | (simp; omega) | omega) _ | with_reducible refine Below.setCell ?_ (by first | (simp; done) | (simp; omega) | omega) _)) hc1
  clear hc1
  have p0 := hP.cell H_hP0.out
  have p1 := hP.cell H_hP1.out
  have p34 := hP.cell H_hP34.out
  go_wp2_with fail
  go_loopw [43] (fun q wr => ∃ k : Nat, k ≤ n ∧ q = .int .i64 k ∧ Below w.heap.size w wr ∧ Blk wr w.heap.size 24 us ∧ Blk wr (w.heap.size + 1) 41 PV) (fun q _ => n - (intOf q).toNat)
  case atStart => exact ⟨0, Nat.zero_le _, rfl, hb1, hX, hP⟩
  case round =>
    clear p0 p1 p34 hP hX hb1
    obtain ⟨k, hk, rfl, hbw, hX, hP⟩ := hrel
    by_cases hlt : k < n
    · have hltI : (k : Int) < (n : Int) := by omega
      obtain ⟨b, o, rfl, hcb⟩ := H_hrow.out (by omega)
      have hkb : k < bs.length := by have := H_hn.out; omega
      have hsm := H_hok.out.small k hkb
      have hck := cell_later hbw (hcb k hkb)
      have hag := H_hok.out.agree k hkb
      have hbv := fun W => bit_any A.only (nb bs k) W H_hok.out.only hsm
      have hbu := fun W => bit_any id (nb bs k) W H_hid.out hsm
      rw [hag] at hbv
      obtain ⟨y, hy⟩ : ∃ y, bitB id (nb bs k) = y := ⟨_, rfl⟩
      simp only [← H_hus.out, hy] at hbu
      simp only [← H_hvs.out, hy] at hbv
      have hcj := fun (j : Nat) (h : j + 1 = k) => cell_later hbw (hcb j (by omega))
      have hij := fun (j : Nat) (h : j + 1 = k) => show nb bs j < nb bs k by rw [← h]; exact H_hok.out.inc j (by omega)
      obtain ⟨B, hB⟩ : ∃ B, nb bs k = B := ⟨_, rfl⟩
      rw [hB] at hsm hck hbv hbu hij
      have hB8 : (B : Int) ≤ 255 := by omega
      have hwr : IntKind.i64.wrap (B : Int) = (B : Int) := IntWalk.i64_in _ (by omega)
      have hbe : (y == y) = true := by simp
      rcases Nat.eq_zero_or_pos k with h0 | h0
      · have hz1 : decide ((0 : Int) < (k : Int)) = false := by simp; omega
        have hz2 : decide (0 < k) = false := by simp; omega
        have H_hy := Box.mk hy
        have H_hag := Box.mk hag
        have H_hcj := Box.mk hcj
        have H_hij := Box.mk hij
        have H_hB := Box.mk hB
        have H_hkb := Box.mk hkb
        have H_h0 := Box.mk h0
        have H_hcb := Box.mk hcb
        have H_hwr := Box.mk hwr
        clear hy hag hcj hij hB hkb h0 hcb hwr
        go_upto_region 8 with fail
        have hwr' := H_hwr.out
        have P_0 := hP.cell H_hP0.out
        have P_l := hP.lt
        go_wp2_with fail
        refine wp_gen fun w11 hc11 => ?_
        have hb11 : Below w.heap.size w w11 := bchain (by repeat' (first | with_reducible exact hbw | with_reducible refine Below.drew ?_ | with_reducible refine below_drewN ?_ _ | with_reducible refine Below.alloc ?_ (by have := hbw.size; first | (simp; done) | (simp; omega) | omega) _ | with_reducible refine Below.setCell ?_ (by first | (simp; done) | (simp; omega) | omega) _)) hc11
        have hst11 : Below wr.heap.size wr w11 := bchain (by repeat' (first | with_reducible exact Below.refl _ _ | with_reducible refine Below.drew ?_ | with_reducible refine below_drewN ?_ _ | with_reducible refine Below.alloc ?_ (by first | (simp; done) | (simp; omega) | omega) _ | with_reducible refine Below.setCell ?_ (by first | (simp; done) | (simp; omega) | omega) _)) hc11
        replace P_0 := cell_later hst11 P_0
        replace P_l := Nat.lt_of_lt_of_le P_l hst11.size
        replace hX := hX.later hst11
        replace hP := hP.later hst11
        clear hst11
        have KP_0 := cell_on P_0
        have hrx := hX.rangeAt
        have hrv : w11.rangeAt (w.heap.size + 1) 2 vs := fun j v hj => hP.cell (H_hP2.out j v hj)
        clear hc11
        refine wp_region_on (by kernel_rfl) (by kernel_rfl) ?_
        repeat (first | (go_big_quiet_step ((first | (go_at_call 30; with_reducible exact calls_on (hbv _)) | (go_at_call 30; with_reducible exact calls_on (hbu _))))) | ((refine wpQuiet_load_mid (by first | rfl | (simp [Region.wanted]; done)) 24 _ rfl w.heap.size 0 (by rfl) us _ hrx Tryd.underlying24 rfl H_husi.out ?_); simp only [Act.put, List.setIfInBounds_toArray, List.set_cons_succ, List.set_cons_zero]) | ((refine wpQuiet_load_mid (by first | rfl | (simp [Region.wanted]; done)) 24 _ rfl (w.heap.size + 1) 2 (by rfl) vs _ hrv Tryd.underlying24 rfl H_hvsi.out ?_); simp only [Act.put, List.setIfInBounds_toArray, List.set_cons_succ, List.set_cons_zero]))
        refine wpQuiet_nil ?_
        intro w12 hc12
        clear KP_0
        have hb12 : Below w.heap.size w w12 := bchain (by repeat' (first | with_reducible exact hb11 | with_reducible refine Below.drew ?_ | with_reducible refine below_drewN ?_ _ | with_reducible refine Below.alloc ?_ (by have := hb11.size; first | (simp; done) | (simp; omega) | omega) _ | with_reducible refine Below.setCell ?_ (by first | (simp; done) | (simp; omega) | omega) _)) hc12
        have hst12 : Below w11.heap.size w11 w12 := bchain (by repeat' (first | with_reducible exact Below.refl _ _ | with_reducible refine Below.drew ?_ | with_reducible refine below_drewN ?_ _ | with_reducible refine Below.alloc ?_ (by first | (simp; done) | (simp; omega) | omega) _ | with_reducible refine Below.setCell ?_ (by first | (simp; done) | (simp; omega) | omega) _)) hc12
        replace P_0 := cell_later hst12 P_0
        replace P_l := Nat.lt_of_lt_of_le P_l hst12.size
        replace hX := hX.later hst12
        replace hP := hP.later hst12
        clear hst12
        clear hc12
        go_wp2_with fail
        go_roundw
        case rel => exact ⟨k + 1, by omega, by go_num, hb12, hX, hP⟩
        case measure => simp [intOf]; omega
      · have hz1 : decide ((0 : Int) < (k : Int)) = true := by simp; omega
        have hz2 : decide (0 < k) = true := by simp; omega
        obtain ⟨j, hj⟩ : ∃ j, j + 1 = k := ⟨k - 1, by omega⟩
        have hcC := hcj j hj
        have hjB := hij j hj
        obtain ⟨C, hC⟩ : ∃ C, nb bs j = C := ⟨_, rfl⟩
        rw [hC] at hcC hjB
        have hC8 : (C : Int) ≤ 255 := by omega
        have hCB1 : decide ((B : Int) ≤ (C : Int)) = false := by simp; omega
        have hCB2 : decide (B ≤ C) = false := by simp; omega
        have hk1 : (k : Int) - 1 = (j : Int) := by omega
        have hwk : IntKind.i64.wrap ((k : Int) - 1) = (j : Int) := by rw [hk1]; exact IntWalk.i64_in _ (by omega)
        have hjn : (j : Int) < (n : Int) := by omega
        have hjn2 : j < n := by omega
        have hj60 : (j : Int) ≤ 60 := by omega
        have H_hy := Box.mk hy
        have H_hag := Box.mk hag
        have H_hcj := Box.mk hcj
        have H_hij := Box.mk hij
        have H_hB := Box.mk hB
        have H_hkb := Box.mk hkb
        have H_h0 := Box.mk h0
        have H_hcb := Box.mk hcb
        have H_hwr := Box.mk hwr
        have H_hj := Box.mk hj
        have H_hC := Box.mk hC
        have H_hCB1 := Box.mk hCB1
        have H_hCB2 := Box.mk hCB2
        have H_hwk := Box.mk hwk
        have H_hk1 := Box.mk hk1
        clear hy hag hcj hij hB hkb h0 hcb hwr hj hC hCB1 hCB2 hwk hk1
        go_upto_region 8 with fail
        have hwr' := H_hwr.out
        have hCB1' := H_hCB1.out
        have hCB2' := H_hCB2.out
        have hwk' := H_hwk.out
        have hk1' := H_hk1.out
        have P_0 := hP.cell H_hP0.out
        have P_l := hP.lt
        go_wp2_with fail
        refine wp_gen fun w11 hc11 => ?_
        have hb11 : Below w.heap.size w w11 := bchain (by repeat' (first | with_reducible exact hbw | with_reducible refine Below.drew ?_ | with_reducible refine below_drewN ?_ _ | with_reducible refine Below.alloc ?_ (by have := hbw.size; first | (simp; done) | (simp; omega) | omega) _ | with_reducible refine Below.setCell ?_ (by first | (simp; done) | (simp; omega) | omega) _)) hc11
        have hst11 : Below wr.heap.size wr w11 := bchain (by repeat' (first | with_reducible exact Below.refl _ _ | with_reducible refine Below.drew ?_ | with_reducible refine below_drewN ?_ _ | with_reducible refine Below.alloc ?_ (by first | (simp; done) | (simp; omega) | omega) _ | with_reducible refine Below.setCell ?_ (by first | (simp; done) | (simp; omega) | omega) _)) hc11
        replace P_0 := cell_later hst11 P_0
        replace P_l := Nat.lt_of_lt_of_le P_l hst11.size
        replace hX := hX.later hst11
        replace hP := hP.later hst11
        clear hst11
        have KP_0 := cell_on P_0
        have KC := cell_on (cell_later hc11 hcC)
        have hrx := hX.rangeAt
        have hrv : w11.rangeAt (w.heap.size + 1) 2 vs := fun j v hj => hP.cell (H_hP2.out j v hj)
        clear hc11
        refine wp_region_on (by kernel_rfl) (by kernel_rfl) ?_
        repeat (first | (go_big_quiet_step ((first | (go_at_call 30; with_reducible exact calls_on (hbv _)) | (go_at_call 30; with_reducible exact calls_on (hbu _))))) | ((refine wpQuiet_load_mid (by first | rfl | (simp [Region.wanted]; done)) 24 _ rfl w.heap.size 0 (by rfl) us _ hrx Tryd.underlying24 rfl H_husi.out ?_); simp only [Act.put, List.setIfInBounds_toArray, List.set_cons_succ, List.set_cons_zero]) | ((refine wpQuiet_load_mid (by first | rfl | (simp [Region.wanted]; done)) 24 _ rfl (w.heap.size + 1) 2 (by rfl) vs _ hrv Tryd.underlying24 rfl H_hvsi.out ?_); simp only [Act.put, List.setIfInBounds_toArray, List.set_cons_succ, List.set_cons_zero]) | ((refine wpQuiet_load_mid (by first | rfl | (simp [Region.wanted]; done)) 24 _ rfl w.heap.size 0 (by rfl) us _ hrx Tryd.underlying24 rfl H_husi.out ?_); simp only [Act.put, List.setIfInBounds_toArray, List.set_cons_succ, List.set_cons_zero]) | ((refine wpQuiet_load_mid (by first | rfl | (simp [Region.wanted]; done)) 24 _ rfl (w.heap.size + 1) 2 (by rfl) vs _ hrv Tryd.underlying24 rfl H_hvsi.out ?_); simp only [Act.put, List.setIfInBounds_toArray, List.set_cons_succ, List.set_cons_zero]))
        refine wpQuiet_nil ?_
        intro w12 hc12
        clear KP_0
        have hb12 : Below w.heap.size w w12 := bchain (by repeat' (first | with_reducible exact hb11 | with_reducible refine Below.drew ?_ | with_reducible refine below_drewN ?_ _ | with_reducible refine Below.alloc ?_ (by have := hb11.size; first | (simp; done) | (simp; omega) | omega) _ | with_reducible refine Below.setCell ?_ (by first | (simp; done) | (simp; omega) | omega) _)) hc12
        have hst12 : Below w11.heap.size w11 w12 := bchain (by repeat' (first | with_reducible exact Below.refl _ _ | with_reducible refine Below.drew ?_ | with_reducible refine below_drewN ?_ _ | with_reducible refine Below.alloc ?_ (by first | (simp; done) | (simp; omega) | omega) _ | with_reducible refine Below.setCell ?_ (by first | (simp; done) | (simp; omega) | omega) _)) hc12
        replace P_0 := cell_later hst12 P_0
        replace P_l := Nat.lt_of_lt_of_le P_l hst12.size
        replace hX := hX.later hst12
        replace hP := hP.later hst12
        clear hst12
        clear hc12
        go_wp2_with fail
        go_roundw
        case rel => exact ⟨k + 1, by omega, by go_num, hb12, hX, hP⟩
        case measure => simp [intOf]; omega
    · have hge : (n : Int) ≤ (k : Int) := by omega
      clear hlt
      go_wp2_with fail
      go_ret
      exact ⟨rfl, hbw⟩

end Go.Proofs.YtfabcdpmnbeflaaDoor

/- slices.Backward over bytes: its iterator's contract. -/
namespace Go.Proofs.YtfabcdpmnbeflaaDoor
set_option linter.unusedSimpArgs false
set_option linter.unusedVariables false
set_option linter.unnecessarySimpa false
open Go.RowKit
set_option maxRecDepth 100000
attribute [local go_sem] Oper.semAt_some

/-- m - 1, m - 2, .., k of them. -/
def downL (m k : Nat) : List Nat := (List.range k).map fun t => m - 1 - t
theorem downL_succ (m k : Nat) : downL m (k + 1) = downL m k ++ [m - 1 - k] := by simp [downL, List.range_succ]
theorem downL_length (m k : Nat) : (downL m k).length = k := by simp [downL]
/-- What a round of such a loop keeps. -/
def KpB (n₀ Bs : Nat) (W W' : World) : Prop := Below n₀ W W' ∧ W'.cell? ⟨Bs, 0, none⟩ = W.cell? ⟨Bs, 0, none⟩
theorem back_any (a : Option Addr) (n c : Nat) (w : World) :
    Calls Tryd.prog 45 #[.slice a n c] w fun e w' =>
      e = .returned (.func (.func 55) #[] #[.pointer (some ⟨w.heap.size, 0, none⟩)]) ∧ w' = w.alloc (.cells #[.slice a n c] 39) := by
  go_enter Tryd.func45, Tryd.ntmps45
  have hb0 := Below.refl w.heap.size w
  go_wp2_with fail
  go_ret
  exact ⟨rfl, rfl⟩
set_option maxHeartbeats 2000000 in
theorem back1_in (n l Bs n₀ m cap : Nat) (ba : Option Addr) (bs : List Nat) (hm : bs.length = m) (hm60 : m ≤ 60) (J Jx : List (Fin m) → World → Prop)
    (hY : ∀ (pre : List (Fin m)) (x : Fin m) (W : World), J pre W → pre.length < m → YieldAt Fence.wide (n - 1) Tryd.prog l #[.int .i64 x.1, .int .u8 (nb bs x.1)] W fun e W' =>
      (e = .returned (.bool true) ∧ J (pre ++ [x]) W' ∧ KpB n₀ Bs W W') ∨ (e = .returned (.bool false) ∧ Jx (pre ++ [x]) W'))
    (W : World) (hBs : W.cell? ⟨Bs, 0, none⟩ = some (.slice ba m cap)) (hrow : 0 < m → ∃ b o, ba = some ⟨b, o, none⟩ ∧ b < n₀ ∧ ∀ k, k < m → W.cell? ⟨b, o + k, none⟩ = some (.int .u8 (nb bs k))) (h0 : J [] W) :
    CallsIn Fence.wide n Tryd.prog 55 #[.func (.yield l) #[] #[], .pointer (some ⟨Bs, 0, none⟩)] W fun e W' => (∃ v, e = .returned v) ∧
      ((∃ ys : List (Fin m), ys.map (fun y => y.1) = downL m m ∧ J ys W') ∨ (∃ pre, True ∧ Jx pre W')) := by
  have hmI : (m : Int) ≤ 60 := by omega
  have H_hrow := Box.mk hrow
  have H_hm := Box.mk hm
  have H_hY := Box.mk hY
  clear hrow hm hY
  refine callsIn_of_wp Tryd.func55 rfl trivial ?_ rfl
  simp only [Tryd.ntmps55, List.size_toArray, List.length_cons, List.length_nil, Nat.reduceAdd, Nat.reduceSub, Array.replicate_succ, Array.replicate_zero, List.push_toArray, List.append_toArray, List.nil_append, List.cons_append]
  gi_wp2
  gi_loopw [3] (fun i wr => ∃ (k : Nat) (z : Int) (pre : List (Fin m)), k ≤ m ∧ z + k + 1 = m ∧ i = .int .i64 z ∧ pre.map (fun y => y.1) = downL m k ∧ J pre wr ∧ Below n₀ W wr ∧ wr.cell? ⟨Bs, 0, none⟩ = some (.slice ba m cap)) (fun i _ => (intOf i + 1).toNat)
  case atStart => exact ⟨0, (m : Int) - 1, [], Nat.zero_le _, by omega, rfl, rfl, h0, Below.refl _ _, hBs⟩
  case round =>
    clear hBs
    obtain ⟨k, z, pre, hk, hz, rfl, hpre, hJs, hbe, hBs⟩ := hrel
    have H_pre := Box.mk hpre
    clear hpre
    by_cases hlt : k < m
    · obtain ⟨j, rfl⟩ := Int.eq_ofNat_of_zero_le (show 0 ≤ z by omega)
      obtain ⟨b, o, rfl, hb, hc⟩ := H_hrow.out (by omega)
      have hjm : j < m := by omega
      have hjI : (j : Int) < (m : Int) := by omega
      have hcj := (hbe.cell (p := ⟨b, o + j, none⟩) hb).trans (hc j hjm)
      have hlen : pre.length = k := by have := congrArg List.length H_pre.out; rw [List.length_map, downL_length] at this; exact this
      obtain ⟨fn, tmps, assign, body, hy, hR⟩ := H_hY.out pre ⟨j, hjm⟩ wr hJs (by omega)
      dsimp only at hy
      have H_hz := Box.mk hz
      have H_hc := Box.mk hc
      have H_len := Box.mk hlen
      clear hz hc hlen
      gi_wp2
      refine ⟨fun h => (by cases h), hR.mono ?_⟩
      rintro e W3 (⟨rfl, hJ3, hk3⟩ | ⟨rfl, hJx3⟩)
      · gi_wp2
        go_roundw
        case rel => exact ⟨k + 1, (j : Int) - 1, pre ++ [⟨j, hjm⟩], by omega, by have := H_hz.out; push_cast; omega, rfl, by rw [List.map_append, H_pre.out, downL_succ, show m - 1 - k = j by have := H_hz.out; omega]; rfl, hJ3, hbe.trans hk3.1, hk3.2.trans hBs⟩
        case measure => simp [intOf]
      · gi_wp2
        refine bodyPost_ret (results_none rfl _ _ _) rfl ?_
        exact ⟨⟨_, rfl⟩, .inr ⟨_, trivial, hJx3⟩⟩
    · obtain rfl : z = -1 := by omega
      obtain rfl : k = m := by omega
      gi_wp2
      go_end0
      exact ⟨⟨_, rfl⟩, .inl ⟨pre, H_pre.out, hJs⟩⟩
theorem back_stops (n Bs n₀ m cap : Nat) (ba : Option Addr) (bs : List Nat) (hm : bs.length = m) (hm60 : m ≤ 60) (w : World) (hBs : Bs < w.heap.size) (hn₀ : n₀ ≤ w.heap.size) (hB : w.cell? ⟨Bs, 0, none⟩ = some (.slice ba m cap))
    (hrow : 0 < m → ∃ b o, ba = some ⟨b, o, none⟩ ∧ b < n₀ ∧ ∀ k, k < m → w.cell? ⟨b, o + k, none⟩ = some (.int .u8 (nb bs k))) :
    SeqStopsK Fence.wide n Tryd.prog 55 #[.pointer (some ⟨Bs, 0, none⟩)] (fun x : Fin m => #[Value.int .i64 x.1, Value.int .u8 (nb bs x.1)]) (KpB n₀ Bs) (fun ys => ys.map (fun y => y.1) = downL m m) (fun _ => True) m w := fun l J Jx W hW _ _ hY h0 => by
  refine back1_in n l Bs n₀ m cap ba bs hm hm60 J Jx hY W ((hW.cell (p := ⟨Bs, 0, none⟩) hBs).trans hB) (fun h => ?_) h0
  obtain ⟨b, o, h1, h2, h3⟩ := hrow h
  exact ⟨b, o, h1, h2, fun k hk => (hW.cell (p := ⟨b, o + k, none⟩) (by have : b < n₀ := h2; show b < _; omega)).trans (h3 k hk)⟩

end Go.Proofs.YtfabcdpmnbeflaaDoor

/- A proof's root: plain; the memory of the loop that finds it. -/
namespace Go.Proofs.YtfabcdpmnbeflaaDoor
open Go.RowKit Go.Sort
set_option linter.unusedVariables false

/-- One step of the way back. -/
def stepR (id : List Int) (A : ProofA) (bs : List Nat) (d : List Int) (j : Nat) : List Int :=
  if bitB id (nb bs j) = true then ofL (nodeB (nb bs j : Int) (pc A.beside j) d) else ofL (nodeB (nb bs j : Int) d (pc A.beside j))
def rootR (id : List Int) (A : ProofA) (bs : List Nat) (js : List Nat) : List Int := js.foldl (stepR id A bs) (ofL (0 :: A.only))
theorem rootR_nil (id : List Int) (A : ProofA) (bs : List Nat) : rootR id A bs [] = ofL (0 :: A.only) := by unfold rootR; rw [List.foldl_nil]
theorem rootR_snoc (id : List Int) (A : ProofA) (bs js : List Nat) (j : Nat) : rootR id A bs (js ++ [j]) = stepR id A bs (rootR id A bs js) j := by unfold rootR; rw [List.foldl_append]; rfl
theorem rootR_id (id : List Int) (A : ProofA) (bs js : List Nat) : IdIn (rootR id A bs js) := by
  have : ∀ (js : List Nat) (d : List Int), IdIn d → IdIn (js.foldl (stepR id A bs) d) := by
    intro js
    induction js with
    | nil => intro d h; exact h
    | cons j js ih =>
      intro d h
      refine ih _ ?_
      unfold stepR
      split <;> exact ofL_id _
  exact this js _ (ofL_id _)

def fvals {m : Nat} (l : List (Fin m)) : List Nat := l.map fun y => y.1
theorem fvals_snoc {m : Nat} (l : List (Fin m)) (x : Fin m) : fvals (l ++ [x]) = fvals l ++ [x.1] := by unfold fvals; rw [List.map_append]; rfl
/-- What the loop's rounds find and leave. -/
structure PrI (w : World) (L : Nat) (us PV : List Value) (d7 d8 Bs : Nat) (sv : Value) (rv dv : List Value) (W : World) : Prop where
  bel : Below w.heap.size w W
  x : Blk W w.heap.size 24 us
  p : Blk W (w.heap.size + 1) 41 PV
  r : Blk W (w.heap.size + 2) 24 rv
  e : Blk W (w.heap.size + 3) 26 [.int .i64 0]
  d : Blk W d7 24 dv
  f : Blk W d8 26 [.int .i64 0]
  s : Blk W Bs 39 [sv]
/-- Where these blocks lie. -/
structure PrL (w : World) (L d7 d8 Bs : Nat) : Prop where
  a : w.heap.size + 3 < d7
  b : d7 < d8
  c : d8 < Bs
  l : Bs < L
section
variable {w : World} {L : Nat} {us PV : List Value} {d7 d8 Bs : Nat} {sv : Value} {rv dv : List Value} {A B : World}
theorem Blk.turn {A B : World} {K : Nat} {t : TypeId} {cs : List Value} {row : Option Nat} (h : Blk A K t cs) (hg : A.grownBy B row) (hr : ∀ r, row = some r → K < r) : Blk B K t cs := (hg.block K h.lt (fun e => by have := hr K e.symm; omega)).trans h
theorem PrI.turn (h : PrI w L us PV d7 d8 Bs sv rv dv A) (hL : PrL w L d7 d8 Bs) {row : Option Nat} (hg : A.grownBy B row) (hr : ∀ r, row = some r → L ≤ r) : PrI w L us PV d7 d8 Bs sv rv dv B := by
  obtain ⟨l1, l2, l3, l4⟩ := hL
  exact ⟨h.bel.grown hg h.bel.size (fun k e => by have := hr k e; omega), h.x.turn hg (fun r e => by have := hr r e; omega), h.p.turn hg (fun r e => by have := hr r e; omega), h.r.turn hg (fun r e => by have := hr r e; omega), h.e.turn hg (fun r e => by have := hr r e; omega), h.d.turn hg (fun r e => by have := hr r e; omega), h.f.turn hg (fun r e => by have := hr r e; omega), h.s.turn hg (fun r e => by have := hr r e; omega)⟩
theorem PrI.later (h : PrI w L us PV d7 d8 Bs sv rv dv A) (hb : Below A.heap.size A B) : PrI w L us PV d7 d8 Bs sv rv dv B :=
  ⟨bchain h.bel hb, h.x.later hb, h.p.later hb, h.r.later hb, h.e.later hb, h.d.later hb, h.f.later hb, h.s.later hb⟩
theorem PrI.setD (h : PrI w L us PV d7 d8 Bs sv rv dv A) (hL : PrL w L d7 d8 Bs) (vs : List Value) (hl : vs.length = dv.length) : PrI w L us PV d7 d8 Bs sv rv vs (A.setCells d7 0 vs) := by
  obtain ⟨l1, l2, l3, l4⟩ := hL
  exact ⟨below_setCells (by omega) _ _ _ h.bel, h.x.setCellsFar (by omega) _ _ _, h.p.setCellsFar (by omega) _ _ _, h.r.setCellsFar (by omega) _ _ _, h.e.setCellsFar (by omega) _ _ _, h.d.setAll hl, h.f.setCellsFar (by omega) _ _ _, h.s.setCellsFar (by omega) _ _ _⟩
theorem PrI.setR (h : PrI w L us PV d7 d8 Bs sv rv dv A) (hL : PrL w L d7 d8 Bs) (vs : List Value) (hl : vs.length = rv.length) : PrI w L us PV d7 d8 Bs sv vs dv (A.setCells (w.heap.size + 2) 0 vs) := by
  obtain ⟨l1, l2, l3, l4⟩ := hL
  exact ⟨below_setCells (by omega) _ _ _ h.bel, h.x.setCellsFar (by omega) _ _ _, h.p.setCellsFar (by omega) _ _ _, h.r.setAll hl, h.e.setCellsFar (by omega) _ _ _, h.d.setCellsFar (by omega) _ _ _, h.f.setCellsFar (by omega) _ _ _, h.s.setCellsFar (by omega) _ _ _⟩
theorem PrI.setE (h : PrI w L us PV d7 d8 Bs sv rv dv A) (hL : PrL w L d7 d8 Bs) : PrI w L us PV d7 d8 Bs sv rv dv (A.setCell ⟨w.heap.size + 3, 0, none⟩ (.int .i64 0)) := by
  obtain ⟨l1, l2, l3, l4⟩ := hL
  exact ⟨h.bel.setCell (show w.heap.size ≤ w.heap.size + 3 by omega) _, h.x.setFar (p := ⟨w.heap.size + 3, 0, none⟩) (show w.heap.size ≠ w.heap.size + 3 by omega) _, h.p.setFar (p := ⟨w.heap.size + 3, 0, none⟩) (show w.heap.size + 1 ≠ w.heap.size + 3 by omega) _, h.r.setFar (p := ⟨w.heap.size + 3, 0, none⟩) (show w.heap.size + 2 ≠ w.heap.size + 3 by omega) _, by have := h.e.set 0 (.int .i64 0); exact this, h.d.setFar (p := ⟨w.heap.size + 3, 0, none⟩) (show d7 ≠ w.heap.size + 3 by omega) _, h.f.setFar (p := ⟨w.heap.size + 3, 0, none⟩) (show d8 ≠ w.heap.size + 3 by omega) _, h.s.setFar (p := ⟨w.heap.size + 3, 0, none⟩) (show Bs ≠ w.heap.size + 3 by omega) _⟩
theorem PrI.setF (h : PrI w L us PV d7 d8 Bs sv rv dv A) (hL : PrL w L d7 d8 Bs) : PrI w L us PV d7 d8 Bs sv rv dv (A.setCell ⟨d8, 0, none⟩ (.int .i64 0)) := by
  obtain ⟨l1, l2, l3, l4⟩ := hL
  exact ⟨h.bel.setCell (show w.heap.size ≤ d8 by omega) _, h.x.setFar (p := ⟨d8, 0, none⟩) (show w.heap.size ≠ d8 by omega) _, h.p.setFar (p := ⟨d8, 0, none⟩) (show w.heap.size + 1 ≠ d8 by omega) _, h.r.setFar (p := ⟨d8, 0, none⟩) (show w.heap.size + 2 ≠ d8 by omega) _, h.e.setFar (p := ⟨d8, 0, none⟩) (show w.heap.size + 3 ≠ d8 by omega) _, h.d.setFar (p := ⟨d8, 0, none⟩) (show d7 ≠ d8 by omega) _, by have := h.f.set 0 (.int .i64 0); exact this, h.s.setFar (p := ⟨d8, 0, none⟩) (show Bs ≠ d8 by omega) _⟩
end
theorem keeps_later {B : Nat} {W W' : World} (h : Below W.heap.size W W') : KeepsFrom B W W' := ⟨h.size, fun k o _ hk _ => (h.block k (Array.getElem?_eq_some_iff.1 hk).1).trans hk⟩
theorem keeps_setCells {B K : Nat} : ∀ (vs : List Value) (o : Nat) (W : World), KeepsFrom B W (W.setCells K o vs)
  | [], _, W => KeepsFrom.refl B W
  | v :: vs, o, W => ((KeepsOthers.setCell W ⟨K, o, none⟩ v).from B).trans (keeps_setCells vs (o + 1) _)
/-- The law of the statement, its frame behind the loop's assignments named by a function of the frame at hand. -/
theorem rangeFunc_put {α : Type} {g : Operand} {ps : Array Tmp} {assign body : Code} {Q : Exit → Act → World → Prop} {a : Act} {w : World} {P : Program} {n : Nat} (fa : Act → α → Act)
    (h1 : 1 ≤ n) {gf : Nat} {lb : Array Value} (hg : a.eval g = .func (.func gf) #[] lb) (eg : ∀ args w, (callFunc gf args).run P w = .ok (.enter gf args) w)
    {encs : α → Array Value} {Kp : World → World → Prop} {S Sp : List α → Prop} {N : Nat} {w0 : World} (hseq : SeqStopsK Fence.wide (n - 1) P gf lb encs Kp S Sp N w0)
    (hKt : ∀ {A B C : World}, Kp A B → Kp B C → Kp A C) (hKb : ∀ (W : World) (l : Nat) (o o' : Obj), w.heap.size ≤ l → W.heap[l]? = some o → o.isCells = false → o.isWalk = false → Kp W (W.putObj l o')) (hb0 : Below w0.heap.size w0 w) (hps : ∀ x, (encs x).size = ps.size)
    (I : List α → World → Prop) (hI : OwnFrom w.heap.size I) (h0 : I [] w)
    (hassign : ∀ (l : Nat) (x : α) (W : World) (K : Act → World → Prop), K (fa a x) W →
      assign.wpIn (Fence.wide.inRound l) (n - 1 - 1) P (Exit.then K (fun _ _ _ => False)) { tmps := (ps.zip (encs x)).foldl (fun t (p, v) => t.setIfInBounds p v) a.tmps, defers := [] } W)
    (hbody : ∀ (l : Nat) (pre : List α) (x : α) (W : World), I pre W → pre.length < N → body.wpIn (Fence.wide.inRound l) (n - 1 - 1) P (ownPostG w.heap.size Kp I (fun _ _ _ => False) (pre ++ [x]) W) (fa a x) W)
    (hdone : ∀ (D : Nat) (xs : List α) (W : World), w.heap.size ≤ D → S xs → I xs W → W.heap[D]? = some (.deferred (some [])) → Q .normal { a with defers := { target := .collected D, args := #[] } :: a.defers } W) :
    (Code.rangeFunc g ps assign body).wp P Q a w :=
  wpIn_wide.1 (wpIn_rangeFunc_ownG (F := Fence.wide) (n := n) rfl h1 hg trivial eg hseq (fun h k => hKt h k) hKb hb0 hps I (fun _ _ _ => False) hI (fun _ _ _ _ _ h => h.elim) h0 (fa a) hassign hbody hdone (fun _ _ _ _ _ _ h => h.elim))
/-- A region that draws, in a round, by an invariant. -/
theorem round_region_frame {P : Program} {ops : Array Oper} {Q : Exit → Act → World → Prop} {id l n : Nat} {a : Act} {w : World} (F : Act → Array Bool → Act → World → Prop) (hnd : noDeferB ops = true) (hQ : ¬ LetsOut Q) (hm : P.follows .mixedOrders = true) (h0 : F a (Array.replicate ops.size false) a w.drew)
    (hstep : ∀ listed a' w' i, F a listed a' w' → i ∈ Region.ready .any ops listed → wpOp P ops Q i (F a (listed.setIfInBounds i true)) a' w')
    (hdone : ∀ listed a' w', F a listed a' w' → Region.ready .any ops listed = [] → Q .normal a' w') : (Code.region id ops true).wpIn (Fence.wide.inRound l) n P Q a w := by
  refine wpIn_region_any hm (wpAnyIn_of hnd hQ _ _ _ _ (wpAny_inv (I := F a) hstep hdone ops.size _ _ _ h0 ?_))
  unfold open_
  exact Nat.le_trans List.countP_le_length (by simp)

def zero32 : List Value := List.replicate 32 (Value.int .u8 0)
/-- The last region: the results are stored. -/
structure I13 (a0 : Act) (sl : List Tmp) (w : World) (L : Nat) (us PV : List Value) (d7 d8 Bs : Nat) (sv : Value) (dv : List Value) (D : Nat) (listed : Array Bool) (act : Act) (W : World) : Prop where
  fr : RegI a0 sl (fun j => if j = 0 then .agg dv.toArray else .int .i64 0) listed act
  pr : PrI w L us PV d7 d8 Bs sv (cond (listed.getD 2 false) dv zero32) dv W
  k : W.heap[D]? = some (.deferred (some []))
  sz : listed.size = 4
section
variable {a0 act : Act} {sl : List Tmp} {w : World} {L : Nat} {us PV : List Value} {d7 d8 Bs : Nat} {sv : Value} {dv : List Value} {D : Nat} {listed : Array Bool} {W : World}
theorem I13.quiet (h : I13 a0 sl w L us PV d7 d8 Bs sv dv D listed act W) (hn : sl.Nodup) {i : Nat} {s : Tmp} (hi : sl[i]? = some s) (h2 : i < 2) (hs : s < a0.tmps.size) (u : Value) (hu : u = if i = 0 then .agg dv.toArray else .int .i64 0) :
    I13 a0 sl w L us PV d7 d8 Bs sv dv D (listed.setIfInBounds i true) (act.put (some s) u) W :=
  ⟨h.fr.put hn hi hs u hu, by rw [getD_set_other (by omega)]; exact h.pr, h.k, by rw [Array.size_setIfInBounds]; exact h.sz⟩
theorem I13.store2 (h : I13 a0 sl w L us PV d7 d8 Bs sv dv D listed act W) (hL : PrL w L d7 d8 Bs) (hsl : sl.length = 2) (hl : dv.length = 32) (hun : listed.getD 2 false = false) (u : Value) :
    I13 a0 sl w L us PV d7 d8 Bs sv dv D (listed.setIfInBounds 2 true) (act.put none u) (W.setCells (w.heap.size + 2) 0 dv) := by
  have hp := h.pr
  rw [hun] at hp
  exact ⟨h.fr.skip (by omega) u, by rw [getD_set_same_true (by have := h.sz; omega)]; exact hp.setR hL dv (by rw [hl]; rfl), (keeps_setCells (B := 0) dv 0 W).same D _ (Nat.zero_le _) h.k rfl, by rw [Array.size_setIfInBounds]; exact h.sz⟩
theorem I13.store3 (h : I13 a0 sl w L us PV d7 d8 Bs sv dv D listed act W) (hL : PrL w L d7 d8 Bs) (hsl : sl.length = 2) (u : Value) :
    I13 a0 sl w L us PV d7 d8 Bs sv dv D (listed.setIfInBounds 3 true) (act.put none u) (W.setCell ⟨w.heap.size + 3, 0, none⟩ (.int .i64 0)) :=
  ⟨h.fr.skip (by omega) u, by rw [getD_set_other (by omega)]; exact h.pr.setE hL, (KeepsOthers.setCell W _ _).same D _ h.k rfl, by rw [Array.size_setIfInBounds]; exact h.sz⟩
end
/-- A round's region: a step of the way back. -/
structure I11 (a0 : Act) (sl : List Tmp) (val : Nat → Value) (c : Nat) (w : World) (L : Nat) (us PV : List Value) (d7 d8 Bs : Nat) (sv : Value) (dv dw : List Value) (W0 : World) (listed : Array Bool) (act : Act) (W : World) : Prop where
  fr : RegI a0 sl val listed act
  pr : PrI w L us PV d7 d8 Bs sv zero32 (cond (listed.getD 12 false) dw dv) W
  kf : KeepsFrom L W0 W
  kb : KpB w.heap.size Bs W0 W
  c12 : listed.getD 12 false = true → listed.getD c false = true
  sz : listed.size = 14
section
variable {a0 act : Act} {sl : List Tmp} {val : Nat → Value} {c : Nat} {w W0 : World} {L : Nat} {us PV : List Value} {d7 d8 Bs : Nat} {sv : Value} {dv dw : List Value} {listed : Array Bool} {W : World}
theorem I11.quiet (h : I11 a0 sl val c w L us PV d7 d8 Bs sv dv dw W0 listed act W) (hn : sl.Nodup) {i : Nat} {s : Tmp} (hi : sl[i]? = some s) (h2 : i < 12) (hs : s < a0.tmps.size) (u : Value) (hu : u = val i) :
    I11 a0 sl val c w L us PV d7 d8 Bs sv dv dw W0 (listed.setIfInBounds i true) (act.put (some s) u) W :=
  ⟨h.fr.put hn hi hs u hu, by rw [getD_set_other (by omega)]; exact h.pr, h.kf, h.kb, fun h12 => by
    rw [getD_set_other (by omega)] at h12
    have := h.c12 h12
    by_cases hic : c = i
    · subst hic; exact getD_set_same_true (by
        rcases Nat.lt_or_ge c listed.size with h | h
        · exact h
        · rw [Array.getD_eq_getD_getElem?, Array.getElem?_eq_none h] at this; cases this)
    · rw [getD_set_other hic]; exact this, by rw [Array.size_setIfInBounds]; exact h.sz⟩
theorem I11.grown (h : I11 a0 sl val c w L us PV d7 d8 Bs sv dv dw W0 listed act W) {W' : World} (hb : Below W.heap.size W W') : I11 a0 sl val c w L us PV d7 d8 Bs sv dv dw W0 listed act W' :=
  ⟨h.fr, h.pr.later hb, h.kf.trans (keeps_later hb), ⟨h.kb.1.trans (hb.mono h.pr.bel.size), (hb.cell (p := ⟨Bs, 0, none⟩) h.pr.s.lt).trans h.kb.2⟩, h.c12, h.sz⟩
theorem I11.store12 (h : I11 a0 sl val c w L us PV d7 d8 Bs sv dv dw W0 listed act W) (hL : PrL w L d7 d8 Bs) (hsl : sl.length = 12) (hc : c ≠ 12) (hlc : listed.getD c false = true) (hl : dw.length = dv.length) (hun : listed.getD 12 false = false) (u : Value) :
    I11 a0 sl val c w L us PV d7 d8 Bs sv dv dw W0 (listed.setIfInBounds 12 true) (act.put none u) (W.setCells d7 0 dw) := by
  have hp := h.pr
  rw [hun] at hp
  have hL' := hL
  obtain ⟨l1, l2, l3, l4⟩ := hL'
  have hb : Below d7 W (W.setCells d7 0 dw) := below_setCells (Nat.le_refl _) _ _ _ (Below.refl _ _)
  have hs := (h.pr.s.setCellsFar (show Bs ≠ d7 by omega) dw 0 W).cell (j := 0) (v := sv) rfl
  exact ⟨h.fr.skip (by omega) u, by rw [getD_set_same_true (by have := h.sz; omega)]; exact hp.setD hL dw hl, h.kf.trans (keeps_setCells _ _ _), ⟨h.kb.1.trans (hb.mono (by omega)), hs.trans ((h.pr.s.cell (j := 0) (v := sv) rfl).symm.trans h.kb.2)⟩, fun _ => by rw [getD_set_other hc]; exact hlc, by rw [Array.size_setIfInBounds]; exact h.sz⟩
theorem I11.store13 (h : I11 a0 sl val c w L us PV d7 d8 Bs sv dv dw W0 listed act W) (hL : PrL w L d7 d8 Bs) (hsl : sl.length = 12) (hc : c ≠ 13) (u : Value) :
    I11 a0 sl val c w L us PV d7 d8 Bs sv dv dw W0 (listed.setIfInBounds 13 true) (act.put none u) (W.setCell ⟨d8, 0, none⟩ (.int .i64 0)) := by
  have hL' := hL
  obtain ⟨l1, l2, l3, l4⟩ := hL'
  have hb : Below d8 W (W.setCell ⟨d8, 0, none⟩ (.int .i64 0)) := (Below.refl d8 W).setCell (p := ⟨d8, 0, none⟩) (Nat.le_refl d8) _
  have hs := (h.pr.s.setFar (p := ⟨d8, 0, none⟩) (show Bs ≠ d8 by omega) (.int .i64 0)).cell (j := 0) (v := sv) rfl
  exact ⟨h.fr.skip (by omega) u, by rw [getD_set_other (by omega)]; exact h.pr.setF hL, h.kf.trans ((KeepsOthers.setCell _ _ _).from _), ⟨h.kb.1.trans (hb.mono (by omega)), hs.trans ((h.pr.s.cell (j := 0) (v := sv) rfl).symm.trans h.kb.2)⟩, fun h12 => by rw [getD_set_other (by omega)] at h12; rw [getD_set_other hc]; exact h.c12 h12, by rw [Array.size_setIfInBounds]; exact h.sz⟩
end

/-- The slots of a round's region. -/
def val11 (B j m dc b2 o2 K : Nat) (es dv dw : List Value) : Nat → Value
  | 0 => .int .u8 B
  | 1 => .int .i64 B
  | 2 => .pointer (some ⟨K + 1, 1, none⟩)
  | 3 => .slice (some ⟨b2, o2, none⟩) m dc
  | 4 => .int .i64 j
  | 5 => .pointer (some ⟨b2, o2 + j * 32, none⟩)
  | 6 => .agg es.toArray
  | 7 => .agg dv.toArray
  | 8 => .tuple #[.agg dw.toArray, .int .i64 0]
  | 9 => .tuple #[.agg dw.toArray, .int .i64 0]
  | 10 => .agg dw.toArray
  | _ => .int .i64 0
def val12b (B j m dc b2 o2 K : Nat) (es dv dw : List Value) : Nat → Value
  | 0 => .int .u8 B
  | 1 => .int .i64 B
  | 2 => .agg dv.toArray
  | 3 => .pointer (some ⟨K + 1, 1, none⟩)
  | 4 => .slice (some ⟨b2, o2, none⟩) m dc
  | 5 => .int .i64 j
  | 6 => .pointer (some ⟨b2, o2 + j * 32, none⟩)
  | 7 => .agg es.toArray
  | 8 => .tuple #[.agg dw.toArray, .int .i64 0]
  | 9 => .tuple #[.agg dw.toArray, .int .i64 0]
  | 10 => .agg dw.toArray
  | _ => .int .i64 0
theorem results_two {fn : Func} {p q : Tmp} (h : fn.results = #[.cell p 24, .cell q 26]) (tmps : Array Value) (w : World) (B : Nat) (t : TypeId) (cs : List Value) (C : Nat) (n : Int)
    (hp : tmps.getD p undef = .pointer (some ⟨B, 0, none⟩)) (hq : tmps.getD q undef = .pointer (some ⟨C, 0, none⟩)) (hg : Blk w B t cs) (hc : Blk w C 26 [.int .i64 n])
    (hi : (Tryd.prog.info? 24).map (·.size) = some cs.length) :
    (results fn tmps).run Tryd.prog w = .ok (.tuple #[.agg cs.toArray, .int .i64 n]) w := by
  have hp' : tmps[p]?.getD undef = .pointer (some ⟨B, 0, none⟩) := by simpa using hp
  have hq' : tmps[q]?.getD undef = .pointer (some ⟨C, 0, none⟩) := by simpa using hq
  have hcc := hc.cell (j := 0) (v := .int .i64 n) rfl
  have hl := run_loadVar_row w B t 24 cs.toArray (0, 0) _ hg Tryd.underlying24 rfl (by simpa using hi)
  have hl2 : (loadVar 26 ⟨C, 0, none⟩).run Tryd.prog w = .ok (.int .i64 n) w := by simp [go_sem, hcc]
  simp [results, h, hp', hq', asAddr, hl, hl2]
theorem Blk.putObj {w : World} {K D : Nat} {t : TypeId} {cs : List Value} {o : Obj} (h : Blk w K t cs) (hne : K < D) : Blk (w.putObj D o) K t cs := (World.putObj_heap_other (by omega)).trans h
def sl11 : List Tmp := [42, 43, 44, 45, 46, 47, 48, 49, 50, 41, 51, 52]
def sl12b : List Tmp := [54, 55, 56, 57, 58, 59, 60, 61, 62, 53, 63, 64]
def sl13 : List Tmp := [65, 66]
theorem I13.done {a0 act : Act} {w : World} {L : Nat} {us PV : List Value} {d7 d8 Bs : Nat} {sv : Value} {dv : List Value} {D : Nat} {listed : Array Bool} {W : World} (h : I13 a0 sl13 w L us PV d7 d8 Bs sv dv D listed act W) (hall : ∀ j, j < 4 → listed.getD j false = true) :
    act = putAll a0 [(65, .agg dv.toArray), (66, .int .i64 0)] ∧ PrI w L us PV d7 d8 Bs sv dv dv W ∧ W.heap[D]? = some (.deferred (some [])) := by
  have hp := h.pr
  rw [hall 2 (by omega)] at hp
  refine ⟨?_, hp, h.k⟩
  have h0 : act.eval (.tmp 65) = .agg dv.toArray := h.fr.vals 0 65 rfl (hall 0 (by omega))
  have h1 : act.eval (.tmp 66) = .int .i64 0 := h.fr.vals 1 66 rfl (hall 1 (by omega))
  have he := h.fr.frame.eq
  simp only [sl13, List.map_cons, List.map_nil, h0, h1] at he
  exact he

end Go.Proofs.YtfabcdpmnbeflaaDoor

/- ProofRoot, of a proof that is valid for the id. -/
namespace Go.Proofs.YtfabcdpmnbeflaaDoor
set_option linter.unusedSimpArgs false
set_option linter.unusedVariables false
set_option linter.unnecessarySimpa false
open Go.RowKit Go.Sort
set_option maxRecDepth 100000
attribute [local go_sem] Oper.semAt_some

set_option maxHeartbeats 8000000 in
theorem proofRoot_ok (A : ProofA) (id : List Int) (bs : List Nat) (m : Nat) (ba da : Option Addr) (bc dc : Nat) (w : World) (hp : ProofIn w A ba bc da dc) (hid : IdIn id) (hok : ProofOk id A bs) (hemp : A.empty = false) (hm : bs.length = m) (hT : TabK w) (hba : 0 < m → ∃ b o, ba = some ⟨b, o, none⟩ ∧ b < w.heap.size ∧ ∀ k, k < m → w.cell? ⟨b, o + k, none⟩ = some (.int .u8 (nb bs k))) :
    Calls Tryd.prog 26 #[.agg (idC id).toArray, .agg (prC ba A.bits.length bc da A.beside.length dc A.only A.empty).toArray] w fun e w' =>
      e = .returned (.tuple #[.agg (idC (rootR id A bs (downL m m))).toArray, .int .i64 0]) ∧ Below w.heap.size w w' := by
  have hck := fun W (h : CellsAt W ba (A.bits.map (Value.int .u8))) => checked_ok A id bs ba da bc dc W h hid hok hemp
  have hla : A.bits.length = m := by rw [hok.bits, List.length_map]; exact hm
  have hlb : A.beside.length = m := by rw [hok.len]; exact hm
  have hm60 : m ≤ 60 := by rw [← hm]; exact hok.le
  have hmI : (m : Int) ≤ 60 := by omega
  have hvo := hok.only
  have hlf := fun W (h : TabK W) => leaf_any A.only W hvo h
  have hlo := ofL_id (0 :: A.only)
  rw [hla, hlb] at hck ⊢
  obtain ⟨us, hus⟩ : ∃ v, v = idC (id) := ⟨_, rfl⟩
  have husl := idC_len hid
  have husi := idC_info hid
  have huso := idC_one (id)
  rw [← hus] at husl husi huso
  have husr : us.length = (List.replicate 32 (Value.int .u8 0)).length := by rw [husl]; rfl
  obtain ⟨vs, hvs⟩ : ∃ v, v = idC (A.only) := ⟨_, rfl⟩
  have hvsl := idC_len hvo
  have hvsi := idC_info hvo
  have hvso := idC_one (A.only)
  rw [← hvs] at hvsl hvsi hvso
  have hvsr : vs.length = (List.replicate 32 (Value.int .u8 0)).length := by rw [hvsl]; rfl
  obtain ⟨ds, hds⟩ : ∃ v, v = idC (ofL (0 :: A.only)) := ⟨_, rfl⟩
  have hdsl := idC_len hlo
  have hdsi := idC_info hlo
  have hdso := idC_one (ofL (0 :: A.only))
  rw [← hds] at hdsl hdsi hdso
  have hdsr : ds.length = (List.replicate 32 (Value.int .u8 0)).length := by rw [hdsl]; rfl
  simp only [GivesId, ← hds, ← hvs] at hlf
  obtain ⟨PV, hPV⟩ : ∃ PV, PV = prC ba m bc da m dc A.only false := ⟨_, rfl⟩
  rw [hemp, ← hPV] at hck ⊢
  rw [← hus] at hck ⊢
  have hPVl : PV.length = 35 := by rw [hPV]; exact prC_len hok.only
  have hPVi : (Tryd.prog.info? 41).map (·.size) = some PV.length := by rw [hPVl]; exact info35
  have hP0 : PV[0]? = some (.slice ba m bc) := by rw [hPV]; rfl
  have hP1 : PV[1]? = some (.slice da m dc) := by rw [hPV]; rfl
  have hP2 : ∀ j u, vs[j]? = some u → PV[2 + j]? = some u := fun j u hj => by rw [hPV]; rw [hvs] at hj; exact prC_only j u hj
  have hP34 : PV[34]? = some (.bool false) := by rw [hPV]; exact prC_empty hok.only
  have H_hok := Box.mk hok
  have H_hemp := Box.mk hemp
  have H_hus := Box.mk hus
  have H_husl := Box.mk husl
  have H_husi := Box.mk husi
  have H_huso := Box.mk huso
  have H_husr := Box.mk husr
  have H_hvs := Box.mk hvs
  have H_hvsl := Box.mk hvsl
  have H_hvsi := Box.mk hvsi
  have H_hvso := Box.mk hvso
  have H_hvsr := Box.mk hvsr
  have H_hds := Box.mk hds
  have H_hdsl := Box.mk hdsl
  have H_hdsi := Box.mk hdsi
  have H_hdso := Box.mk hdso
  have H_hdsr := Box.mk hdsr
  have H_hPV := Box.mk hPV
  have H_hPVl := Box.mk hPVl
  have H_hPVi := Box.mk hPVi
  have H_hla := Box.mk hla
  have H_hlb := Box.mk hlb
  have H_hid := Box.mk hid
  have H_hm := Box.mk hm
  have H_hP0 := Box.mk hP0
  have H_hP1 := Box.mk hP1
  have H_hP2 := Box.mk hP2
  have H_hP34 := Box.mk hP34
  have H_hck := Box.mk hck
  have H_hlf := Box.mk hlf
  have H_hvo := Box.mk hvo
  have H_hlo := Box.mk hlo
  have H_hp := Box.mk hp
  have H_hba := Box.mk hba
  have H_hT := Box.mk hT
  clear hok hemp hus husl husi huso husr hvs hvsl hvsi hvso hvsr hds hdsl hdsi hdso hdsr hPV hPVl hPVi hla hlb hid hm hP0 hP1 hP2 hP34 hck hlf hvo hlo hp hba hT
  refine (callsIn_wide (n := 10)).1 ?_
  refine callsIn_of_wp_marks Tryd.func26 rfl trivial ?_ rfl
  refine wpIn_wide.2 ?_
  simp only [Tryd.ntmps26, List.size_toArray, List.length_cons, List.length_nil, Nat.reduceAdd, Nat.reduceSub, Array.replicate_succ, Array.replicate_zero, List.push_toArray, List.append_toArray, List.nil_append, List.cons_append]
  have hb0 := Below.refl w.heap.size w
  go_upto_region 1 with fail
  have hbA : Below w.heap.size w ((((w.alloc (.cells us.toArray 24)).alloc (.cells PV.toArray 41)).alloc (.cells (List.replicate 32 (Value.int .u8 0)).toArray 24)).alloc (.cells #[.int .i64 0] 26)) := ((((Below.refl _ _).alloc (Nat.le_refl _) _).alloc (by simp) _).alloc (by simp; omega) _).alloc (by simp; omega) _
  have hX : Blk ((((w.alloc (.cells us.toArray 24)).alloc (.cells PV.toArray 41)).alloc (.cells (List.replicate 32 (Value.int .u8 0)).toArray 24)).alloc (.cells #[.int .i64 0] 26)) w.heap.size 24 us := (((Blk.newA w _ _ _ us rfl rfl).alloc _).alloc _).alloc _
  have hP : Blk ((((w.alloc (.cells us.toArray 24)).alloc (.cells PV.toArray 41)).alloc (.cells (List.replicate 32 (Value.int .u8 0)).toArray 24)).alloc (.cells #[.int .i64 0] 26)) (w.heap.size + 1) 41 PV := ((Blk.newA (w.alloc (.cells us.toArray 24)) (w.heap.size + 1) _ _ PV (by simp) rfl).alloc _).alloc _
  have hR : Blk ((((w.alloc (.cells us.toArray 24)).alloc (.cells PV.toArray 41)).alloc (.cells (List.replicate 32 (Value.int .u8 0)).toArray 24)).alloc (.cells #[.int .i64 0] 26)) (w.heap.size + 2) 24 (List.replicate 32 (Value.int .u8 0)) := (Blk.newA _ (w.heap.size + 2) _ _ _ (by simp) rfl).alloc _
  have hE : Blk ((((w.alloc (.cells us.toArray 24)).alloc (.cells PV.toArray 41)).alloc (.cells (List.replicate 32 (Value.int .u8 0)).toArray 24)).alloc (.cells #[.int .i64 0] 26)) (w.heap.size + 3) 26 [.int .i64 0] := Blk.newA _ (w.heap.size + 3) _ _ _ (by simp) rfl
  refine wp_gen fun w1 hc1 => ?_
  replace hX := hX.later hc1
  replace hP := hP.later hc1
  replace hR := hR.later hc1
  replace hE := hE.later hc1
  have hb1 := bchain hbA hc1
  clear hbA hc1
  go_wp2_with (first | (refine wpList_load_blk rfl 24 _ rfl w.heap.size (by rfl) 24 us _ hX Tryd.underlying24 rfl H_husi.out ?_) | (refine wpList_load_blk rfl 41 _ rfl (w.heap.size + 1) (by rfl) 41 PV _ hP Tryd.underlying41 rfl H_hPVi.out ?_))
  with_reducible refine (H_hck.out _ (H_hp.out.bits.later hb1)).mono ?_
  rintro e w2 ⟨rfl, hc2⟩
  have hb2 : Below w.heap.size w w2 := bchain (by repeat' (first | with_reducible exact hb1 | with_reducible refine Below.drew ?_ | with_reducible refine below_drewN ?_ _ | with_reducible refine Below.alloc ?_ (by have := hb1.size; first | (simp; done) | (simp; omega) | omega) _ | with_reducible refine Below.setCell ?_ (by first | (simp; done) | (simp; omega) | omega) _)) hc2
  have hst2 : Below w1.heap.size w1 w2 := bchain (by repeat' (first | with_reducible exact Below.refl _ _ | with_reducible refine Below.drew ?_ | with_reducible refine below_drewN ?_ _ | with_reducible refine Below.alloc ?_ (by first | (simp; done) | (simp; omega) | omega) _ | with_reducible refine Below.setCell ?_ (by first | (simp; done) | (simp; omega) | omega) _)) hc2
  replace hX := hX.later hst2
  replace hP := hP.later hst2
  replace hR := hR.later hst2
  replace hE := hE.later hst2
  clear hst2
  clear hc2
  have p34 := hP.cell H_hP34.out
  have hrv : w2.rangeAt (w.heap.size + 1) 2 vs := fun j v hj => hP.cell (H_hP2.out j v hj)
  go_wp2_with (refine wpList_load_mid rfl 24 _ rfl (w.heap.size + 1) 2 (by rfl) vs _ hrv Tryd.underlying24 rfl H_hvsi.out ?_)
  with_reducible refine (H_hlf.out _ (H_hT.out.later hb2)).mono ?_
  rintro e w3 ⟨rfl, hc3⟩
  clear p34 hrv
  have hb3 : Below w.heap.size w w3 := bchain (by repeat' (first | with_reducible exact hb2 | with_reducible refine Below.drew ?_ | with_reducible refine below_drewN ?_ _ | with_reducible refine Below.alloc ?_ (by have := hb2.size; first | (simp; done) | (simp; omega) | omega) _ | with_reducible refine Below.setCell ?_ (by first | (simp; done) | (simp; omega) | omega) _)) hc3
  have hst3 : Below w2.heap.size w2 w3 := bchain (by repeat' (first | with_reducible exact Below.refl _ _ | with_reducible refine Below.drew ?_ | with_reducible refine below_drewN ?_ _ | with_reducible refine Below.alloc ?_ (by first | (simp; done) | (simp; omega) | omega) _ | with_reducible refine Below.setCell ?_ (by first | (simp; done) | (simp; omega) | omega) _)) hc3
  replace hX := hX.later hst3
  replace hP := hP.later hst3
  replace hR := hR.later hst3
  replace hE := hE.later hst3
  clear hst3
  clear hc3
  have hsz3 := hE.lt
  have hszX := hb3.size
  have hN3 : Blk ((w3.alloc (.cells (List.replicate 32 (Value.int .u8 0)).toArray 24)).alloc (.cells #[.int .i64 0] 26)) w3.heap.size 24 (List.replicate 32 (Value.int .u8 0)) := (Blk.newA w3 _ _ _ _ rfl rfl).alloc _
  have hF3 : Blk ((w3.alloc (.cells (List.replicate 32 (Value.int .u8 0)).toArray 24)).alloc (.cells #[.int .i64 0] 26)) (w3.heap.size + 1) 26 [.int .i64 0] := Blk.newA _ (w3.heap.size + 1) _ _ _ (by simp) rfl
  go_upto_region 5 with (refine wpList_store_blk rfl 24 _ _ rfl w3.heap.size (by rfl) 24 _ ds (by rfl) hN3 H_hdsr.out H_hdsi.out H_hdso.out ?_; intro w4 hD he4; have H4 := Box.mk he4; clear he4; have hF : Blk w4 (w3.heap.size + 1) 26 [.int .i64 0] := H4.out ▸ Blk.setCellsFar (by omega) _ _ _ hF3; have hFc := hF.cell (j := 0) rfl; have hFf := hF.free 0)
  have hc5 : Below w3.heap.size w3 (w4.setCell ⟨w3.heap.size + 1, 0, none⟩ (.int .i64 0)) := (H4.out ▸ below_setCells (Nat.le_refl _) _ _ _ (((Below.refl _ _).alloc (Nat.le_refl _) _).alloc (by simp) _)).setCell (by simp) _
  replace hD := hD.setFar (p := ⟨w3.heap.size + 1, 0, none⟩) (show w3.heap.size ≠ w3.heap.size + 1 by omega) (.int .i64 0)
  replace hF : Blk (w4.setCell ⟨w3.heap.size + 1, 0, none⟩ (.int .i64 0)) (w3.heap.size + 1) 26 [.int .i64 0] := hF.set 0 (.int .i64 0)
  refine wp_gen fun w5 hc6 => ?_
  have hc35 := bchain hc5 hc6
  replace hX := hX.later hc35
  replace hP := hP.later hc35
  replace hR := hR.later hc35
  replace hE := hE.later hc35
  replace hD := hD.later hc6
  replace hF := hF.later hc6
  have hb5 := bchain hb3 hc35
  have hsz5 : w3.heap.size + 1 < w5.heap.size := hF.lt
  clear hc35 hc5 hc6 hFc hFf hF3 hN3 H4 hb3
  have p0 := hP.cell H_hP0.out
  go_wp2_with fail
  with_reducible refine (back_any _ _ _ _).mono ?_
  rintro e w6 ⟨rfl, rfl⟩
  clear p0
  go_wp2_with fail
  have hL : PrL w (w5.heap.size + 1) w3.heap.size (w3.heap.size + 1) w5.heap.size := ⟨hsz3, by omega, by omega, by omega⟩
  have hS : Blk (w5.alloc (.cells #[.slice ba m bc] 39)) w5.heap.size 39 [.slice ba m bc] := Blk.newA _ _ _ _ _ rfl rfl
  have hbS : Below w.heap.size w (w5.alloc (.cells #[.slice ba m bc] 39)) := hb5.alloc hb5.size _
  have hrow : 0 < m → ∃ b o, ba = some ⟨b, o, none⟩ ∧ b < w.heap.size ∧ ∀ k, k < m → (w5.alloc (.cells #[.slice ba m bc] 39)).cell? ⟨b, o + k, none⟩ = some (.int .u8 (nb bs k)) := fun h => by
    obtain ⟨b, o, e1, e2, e3⟩ := H_hba.out h
    exact ⟨b, o, e1, e2, fun k hk => (hbS.cell (p := ⟨b, o + k, none⟩) e2).trans (e3 k hk)⟩
  have hI0 : PrI w (w5.heap.size + 1) us PV w3.heap.size (w3.heap.size + 1) w5.heap.size (.slice ba m bc) zero32 (idC (rootR id A bs (fvals ([] : List (Fin m))))) (w5.alloc (.cells #[.slice ba m bc] 39)) :=
    ⟨hbS, hX.alloc _, hP.alloc _, hR.alloc _, hE.alloc _, by rw [show fvals ([] : List (Fin m)) = [] from rfl, rootR_nil, ← H_hds.out]; exact hD.alloc _, hF.alloc _, hS⟩
  have hstop := back_stops 9 w5.heap.size w.heap.size m bc ba bs H_hm.out hm60 (w5.alloc (.cells #[.slice ba m bc] 39)) (by simp) hbS.size (hS.cell (j := 0) rfl) hrow
  have hBsz : w5.heap.size < (w5.alloc (.cells #[.slice ba m bc] 39)).heap.size := by simp
  have hszS := hbS.size
  have H_hstop := Box.mk hstop
  have H_hL := Box.mk hL
  have H_hrow := Box.mk hrow
  have H_hI0 := Box.mk hI0
  have H_hbS := Box.mk hbS
  have H_hS := Box.mk hS
  clear hstop hL hrow hI0 hbS hS
  clear hX hP hR hE hD hF
  refine rangeFunc_put (n := 10) (fun a x => ((((({ tmps := a.tmps, defers := [] } : Act).put (some 31) (.int .i64 x.1)).put (some 32) (.int .u8 (nb bs x.1))).put (some 9) (.int .i64 x.1)).put (some 10) (.int .u8 (nb bs x.1)))) (by omega) (gf := 55) (lb := #[.pointer (some ⟨w5.heap.size, 0, none⟩)]) rfl (enters_of Tryd.func55 (by kernel_rfl) rfl) H_hstop.out
    (fun h k => ⟨h.1.trans k.1, k.2.trans h.2⟩)
    (fun W l o o' hl h ho hw => ⟨(Below.refl w.heap.size W).grown (grownBy_putObj' W l o') (by have := (Array.getElem?_eq_some_iff.1 h).1; omega) (fun k e => by cases e; omega), World.cell?_of_block (World.putObj_heap_other (by show w5.heap.size ≠ l; omega))⟩)
    (Below.refl _ _) (fun x => rfl)
    (fun (pre : List (Fin m)) W => PrI w (w5.heap.size + 1) us PV w3.heap.size (w3.heap.size + 1) w5.heap.size (.slice ba m bc) zero32 (idC (rootR id A bs (fvals pre))) W)
    (fun s U V row hs hg hr => PrI.turn hs H_hL.out hg (fun r e => by have := (hr r e).1; simpa using this)) H_hI0.out ?assign ?body ?done
  case assign =>
    intro l x W K hK
    gi_wp2
    exact hK
  case body =>
    rintro l pre ⟨j, hjm⟩ W hI hlen
    have hjI : (j : Int) < (m : Int) := by omega
    have hj60 : (j : Int) ≤ 60 := by omega
    have hsm := H_hok.out.small j (by have := H_hm.out; omega)
    have hlbm := H_hlb.out
    obtain ⟨b2, o2, rfl, hbl2, hr2⟩ := H_hp.out.beside.row (by omega)
    have hre := hr2 j (by omega)
    have hxe := H_hp.out.beside.ids _ (pc_mem (show j < A.beside.length by omega))
    have hxd := rootR_id id A bs (fvals pre)
    have hst : rootR id A bs (fvals (pre ++ [⟨j, hjm⟩])) = stepR id A bs (rootR id A bs (fvals pre)) j := by rw [fvals_snoc, rootR_snoc]
    obtain ⟨dl, hdl⟩ : ∃ dl, rootR id A bs (fvals pre) = dl := ⟨_, rfl⟩
    rw [hdl] at hI hxd hst
    obtain ⟨B, hB⟩ : ∃ B, nb bs j = B := ⟨_, rfl⟩
    obtain ⟨y, hy⟩ : ∃ y, bitB id B = y := ⟨_, rfl⟩
    have hbit := fun W => bit_any id B W H_hid.out (by omega)
    obtain ⟨es, hes⟩ : ∃ v, v = idC (pc A.beside j) := ⟨_, rfl⟩
    have hesl := idC_len hxe
    have hesi := idC_info hxe
    have heso := idC_one (pc A.beside j)
    rw [← hes] at hesl hesi heso
    have hesr : es.length = (List.replicate 32 (Value.int .u8 0)).length := by rw [hesl]; rfl
    rw [← hes] at hre
    obtain ⟨dv, hdv⟩ : ∃ v, v = idC (dl) := ⟨_, rfl⟩
    have hdvl := idC_len hxd
    have hdvi := idC_info hxd
    have hdvo := idC_one (dl)
    rw [← hdv] at hdvl hdvi hdvo
    have hdvr : dv.length = (List.replicate 32 (Value.int .u8 0)).length := by rw [hdvl]; rfl
    rw [← hdv] at hI
    simp only [← H_hus.out, hy] at hbit
    rw [hB] at hsm
    have hB8 : (B : Int) ≤ 255 := by omega
    have hwr : IntKind.i64.wrap (B : Int) = (B : Int) := IntWalk.i64_in _ (by omega)
    have f0 := hI.f.cell (j := 0) (v := .int .i64 0) rfl
    simp only [Act.put, List.setIfInBounds_toArray, List.set_cons_succ, List.set_cons_zero, hB]
    have hszW := hI.bel.size
    have H_hszW := Box.mk hszW
    have H_hre := Box.mk hre
    have H_hbl2 := Box.mk hbl2
    have H_hr2 := Box.mk hr2
    have H_hst := Box.mk hst
    have H_hdl := Box.mk hdl
    have H_hB := Box.mk hB
    have H_hy := Box.mk hy
    have H_hbit := Box.mk hbit
    have H_hes := Box.mk hes
    have H_hesl := Box.mk hesl
    have H_hesi := Box.mk hesi
    have H_heso := Box.mk heso
    have H_hesr := Box.mk hesr
    have H_hdv := Box.mk hdv
    have H_hdvl := Box.mk hdvl
    have H_hdvi := Box.mk hdvi
    have H_hdvo := Box.mk hdvo
    have H_hdvr := Box.mk hdvr
    have H_hxe := Box.mk hxe
    have H_hxd := Box.mk hxd
    have H_hwr := Box.mk hwr
    have H_hlbm := Box.mk hlbm
    clear hszW hre hbl2 hr2 hst hdl hB hy hbit hes hesl hesi heso hesr hdv hdvl hdvi hdvo hdvr hxe hxd hwr hlbm
    refine wpIn_block ?_
    refine wpIn_seq ?_
    refine wpIn_seq ?_
    refine round_region (by kernel_rfl) (fun ⟨_, _, h⟩ => h) ?_
    go_wp2_with fail
    refine wpIn_cond_false (by rfl) ?_
    refine wpIn_skip ?_
    show Code.wpIn _ _ _ _ _ _ _
    refine wpIn_seq ?_
    refine round_region (by kernel_rfl) (fun ⟨_, _, h⟩ => h) ?_
    have hwr' := H_hwr.out
    go_wp2_with (refine wpList_load_blk rfl 24 _ rfl w.heap.size (by rfl) 24 us _ hI.x Tryd.underlying24 rfl H_husi.out ?_)
    clear hwr' f0
    with_reducible refine (H_hbit.out _).mono ?_
    rintro e w8 ⟨rfl, hc8⟩
    have hI8 := hI.later hc8
    go_wp2_with fail
    have hxs : IdIn (stepR id A bs dl j) := by rw [← H_hst.out]; exact rootR_id _ _ _ _
    obtain ⟨dw, hdw⟩ : ∃ v, v = idC (stepR id A bs dl j) := ⟨_, rfl⟩
    have hdwl := idC_len hxs
    have hdwi := idC_info hxs
    have hdwo := idC_one (stepR id A bs dl j)
    rw [← hdw] at hdwl hdwi hdwo
    have hdwr : dw.length = (List.replicate 32 (Value.int .u8 0)).length := by rw [hdwl]; rfl
    cases y with
    | true =>
      have hnd : ∀ W', TabK W' → Calls Tryd.prog 46 #[.int .i64 B, .agg es.toArray, .agg dv.toArray] W' fun e w' => e = .returned (.tuple #[.agg dw.toArray, .int .i64 0]) ∧ Below W'.heap.size W' w' := fun W' h => by
        have := node_any B (pc A.beside j) dl W' H_hxe.out H_hxd.out (by omega) h
        have e : ofL (nodeB (B : Int) (pc A.beside j) dl) = stepR id A bs dl j := by unfold stepR; rw [H_hB.out, if_pos H_hy.out]
        simp only [GivesId, e, ← H_hes.out, ← H_hdv.out, ← hdw] at this
        exact this
      have H_hdw := Box.mk hdw
      have H_hdwl := Box.mk hdwl
      have H_hdwi := Box.mk hdwi
      have H_hdwo := Box.mk hdwo
      have H_hdwr := Box.mk hdwr
      have H_hxs := Box.mk hxs
      have H_hnd := Box.mk hnd
      clear hdw hdwl hdwi hdwo hdwr hxs hnd
      refine wpIn_cond_true (by rfl) ?_
      refine round_region_frame (fun a0 listed act W' => I11 a0 sl11 (val11 B j m dc b2 o2 w.heap.size es dv dw) 7 w (w5.heap.size + 1) us PV w3.heap.size (w3.heap.size + 1) w5.heap.size (.slice ba m bc) dv dw W listed act W') (by kernel_rfl) (fun ⟨_, _, h⟩ => h) rfl ?_ ?_ ?_
      · exact ⟨RegI.start _ _ _ _, hI8.later (Below.drew (Below.refl _ _)), (keeps_later hc8).trans ((KeepsOthers.drew w8).from _), ⟨(hc8.mono H_hszW.out).drew, hc8.cell (p := ⟨w5.heap.size, 0, none⟩) hI.s.lt⟩, fun h => by simp at h, by simp⟩
      · intro listed act W' i hF hi
        obtain ⟨hun, o, ho', hdep⟩ := mem_ready.1 hi
        have ev : ∀ (s : Tmp) (u : Value), act.eval (.tmp s) = u → act.tmps[s]?.getD undef = u := fun s u h => by simpa [Act.eval, Array.getD_eq_getD_getElem?] using h
        have e3 := ev _ _ ((hF.fr.frame.off 3 (by decide)).trans rfl)
        have e9 := ev _ _ ((hF.fr.frame.off 9 (by decide)).trans rfl)
        have e10 := ev _ _ ((hF.fr.frame.off 10 (by decide)).trans rfl)
        have g7 : act.eval (.tmp 7) = .pointer (some ⟨w3.heap.size, 0, none⟩) := (hF.fr.frame.off 7 (by decide)).trans rfl
        have e8 := ev _ _ ((hF.fr.frame.off 8 (by decide)).trans rfl)
        match i with
        | 0 =>
          have hoo := Option.some.inj ho'
          subst hoo
          clear hdep ho' hi
          refine wpOp_gives (fun v W'' => v = val11 B j m dc b2 o2 w.heap.size es dv dw 0 ∧ W'' = W') rfl rfl ?_ ?_
          · simp only [val11]
            unfold Oper.gives; go_simp
          · rintro v W'' ⟨rfl, rfl⟩
            exact hF.quiet (by decide) rfl (by decide) (by simp) _ rfl
        | 1 =>
          have hoo := Option.some.inj ho'
          subst hoo
          have d0 := hF.fr.vals 0 42 rfl (hdep ⟨0, .data⟩ (by simp) (by rfl))
          simp only [val11] at d0
          replace d0 := ev _ _ d0
          have hwr' := H_hwr.out
          clear hdep ho' hi
          refine wpOp_gives (fun v W'' => v = val11 B j m dc b2 o2 w.heap.size es dv dw 1 ∧ W'' = W') rfl rfl ?_ ?_
          · simp only [val11]
            unfold Oper.gives; go_simp
          · rintro v W'' ⟨rfl, rfl⟩
            exact hF.quiet (by decide) rfl (by decide) (by simp) _ rfl
        | 2 =>
          have hoo := Option.some.inj ho'
          subst hoo
          clear hdep ho' hi
          refine wpOp_gives (fun v W'' => v = val11 B j m dc b2 o2 w.heap.size es dv dw 2 ∧ W'' = W') rfl rfl ?_ ?_
          · simp only [val11]
            unfold Oper.gives; go_simp
          · rintro v W'' ⟨rfl, rfl⟩
            exact hF.quiet (by decide) rfl (by decide) (by simp) _ rfl
        | 3 =>
          have hoo := Option.some.inj ho'
          subst hoo
          have d2 := hF.fr.vals 2 44 rfl (hdep ⟨2, .data⟩ (by simp) (by rfl))
          simp only [val11] at d2
          replace d2 := ev _ _ d2
          have p1 := hF.pr.p.cell H_hP1.out
          clear hdep ho' hi
          refine wpOp_gives (fun v W'' => v = val11 B j m dc b2 o2 w.heap.size es dv dw 3 ∧ W'' = W') rfl rfl ?_ ?_
          · simp only [val11]
            unfold Oper.gives; go_simp
          · rintro v W'' ⟨rfl, rfl⟩
            exact hF.quiet (by decide) rfl (by decide) (by simp) _ rfl
        | 4 =>
          have hoo := Option.some.inj ho'
          subst hoo
          clear hdep ho' hi
          refine wpOp_gives (fun v W'' => v = val11 B j m dc b2 o2 w.heap.size es dv dw 4 ∧ W'' = W') rfl rfl ?_ ?_
          · simp only [val11]
            unfold Oper.gives; go_simp
          · rintro v W'' ⟨rfl, rfl⟩
            exact hF.quiet (by decide) rfl (by decide) (by simp) _ rfl
        | 5 =>
          have hoo := Option.some.inj ho'
          subst hoo
          have d3 := hF.fr.vals 3 45 rfl (hdep ⟨3, .data⟩ (by simp) (by rfl))
          simp only [val11] at d3
          replace d3 := ev _ _ d3
          have d4 := hF.fr.vals 4 46 rfl (hdep ⟨4, .data⟩ (by simp) (by rfl))
          simp only [val11] at d4
          replace d4 := ev _ _ d4
          clear hdep ho' hi
          refine wpOp_gives (fun v W'' => v = val11 B j m dc b2 o2 w.heap.size es dv dw 5 ∧ W'' = W') rfl rfl ?_ ?_
          · simp only [val11]
            unfold Oper.gives; go_simp
          · rintro v W'' ⟨rfl, rfl⟩
            exact hF.quiet (by decide) rfl (by decide) (by simp) _ rfl
        | 6 =>
          have hoo := Option.some.inj ho'
          subst hoo
          have d5 := hF.fr.vals 5 47 rfl (hdep ⟨5, .data⟩ (by simp) (by rfl))
          simp only [val11] at d5
          clear hdep ho' hi
          have hl := run_loadAt_mid W' b2 (o2 + j * 32) 24 es _ (rangeAt_later H_hre.out hF.pr.bel) Tryd.underlying24 rfl H_hesi.out
          refine wpOp_gives (fun v W'' => v = val11 B j m dc b2 o2 w.heap.size es dv dw 6 ∧ W'' = W') rfl rfl (gives_run _ _ (by simp [execOp, d5, hl, val11, val12b]) ⟨rfl, rfl⟩) ?_
          rintro v W'' ⟨rfl, rfl⟩
          exact hF.quiet (by decide) rfl (by decide) (by simp) _ rfl
        | 7 =>
          have hoo := Option.some.inj ho'
          subst hoo
          have hn12 : listed.getD 12 false = false := by
            cases e : listed.getD 12 false with
            | false => rfl
            | true => rw [getD_of_true (hF.c12 e) true] at hun; cases hun
          have hpr := hF.pr
          rw [hn12] at hpr
          clear hdep ho' hi
          have hl := run_loadAt_mid W' w3.heap.size 0 24 dv _ hpr.d.rangeAt Tryd.underlying24 rfl H_hdvi.out
          refine wpOp_gives (fun v W'' => v = val11 B j m dc b2 o2 w.heap.size es dv dw 7 ∧ W'' = W') rfl rfl (gives_run _ _ (by simp [execOp, g7, hl, val11, val12b]) ⟨rfl, rfl⟩) ?_
          rintro v W'' ⟨rfl, rfl⟩
          exact hF.quiet (by decide) rfl (by decide) (by simp) _ rfl
        | 8 =>
          have hoo := Option.some.inj ho'
          subst hoo
          have d1 := hF.fr.vals 1 43 rfl (hdep ⟨1, .data⟩ (by simp) (by rfl))
          simp only [val11] at d1
          have d6 := hF.fr.vals 6 48 rfl (hdep ⟨6, .data⟩ (by simp) (by rfl))
          simp only [val11] at d6
          have d7 := hF.fr.vals 7 49 rfl (hdep ⟨7, .data⟩ (by simp) (by rfl))
          simp only [val11] at d7
          clear hdep ho' hi
          refine wpOp_gives (fun v W'' => v = val11 B j m dc b2 o2 w.heap.size es dv dw 8 ∧ Below W'.heap.size W' W'') rfl rfl (gives_call 46 _ _ #[.int .i64 B, .agg es.toArray, .agg dv.toArray] rfl (by kernel_rfl) (by simp [Act.eval, ev _ _ d1, ev _ _ d6, ev _ _ d7]) ((H_hnd.out W' (H_hT.out.later hF.pr.bel)).mono ?_)) ?_
          · rintro e W'' ⟨rfl, hb⟩
            exact ⟨_, rfl, rfl, hb⟩
          · rintro v W'' ⟨rfl, hb⟩
            exact (hF.grown hb).quiet (by decide) rfl (by decide) (by simp) _ rfl
        | 9 =>
          have hoo := Option.some.inj ho'
          subst hoo
          have d8 := hF.fr.vals 8 50 rfl (hdep ⟨8, .data⟩ (by simp) (by rfl))
          simp only [val11] at d8
          replace d8 := ev _ _ d8
          clear hdep ho' hi
          refine wpOp_gives (fun v W'' => v = val11 B j m dc b2 o2 w.heap.size es dv dw 9 ∧ W'' = W') rfl rfl ?_ ?_
          · simp only [val11]
            unfold Oper.gives; go_simp
          · rintro v W'' ⟨rfl, rfl⟩
            exact hF.quiet (by decide) rfl (by decide) (by simp) _ rfl
        | 10 =>
          have hoo := Option.some.inj ho'
          subst hoo
          have d9 := hF.fr.vals 9 41 rfl (hdep ⟨9, .data⟩ (by simp) (by rfl))
          simp only [val11] at d9
          replace d9 := ev _ _ d9
          clear hdep ho' hi
          refine wpOp_gives (fun v W'' => v = val11 B j m dc b2 o2 w.heap.size es dv dw 10 ∧ W'' = W') rfl rfl ?_ ?_
          · simp only [val11]
            unfold Oper.gives; go_simp
          · rintro v W'' ⟨rfl, rfl⟩
            exact hF.quiet (by decide) rfl (by decide) (by simp) _ rfl
        | 11 =>
          have hoo := Option.some.inj ho'
          subst hoo
          have d9 := hF.fr.vals 9 41 rfl (hdep ⟨9, .data⟩ (by simp) (by rfl))
          simp only [val11] at d9
          replace d9 := ev _ _ d9
          clear hdep ho' hi
          refine wpOp_gives (fun v W'' => v = val11 B j m dc b2 o2 w.heap.size es dv dw 11 ∧ W'' = W') rfl rfl ?_ ?_
          · simp only [val11]
            unfold Oper.gives; go_simp
          · rintro v W'' ⟨rfl, rfl⟩
            exact hF.quiet (by decide) rfl (by decide) (by simp) _ rfl
        | 12 =>
          have hoo := Option.some.inj ho'
          subst hoo
          have hun12 : listed.getD 12 false = false := by
            cases e : listed.getD 12 false with
            | false => rfl
            | true => rw [getD_of_true e true] at hun; cases hun
          have d10 := hF.fr.vals 10 51 rfl (hdep ⟨10, .data⟩ (by simp) (by rfl))
          simp only [val11] at d10
          have lc := hdep ⟨7, .phase⟩ (by simp) (by rfl)
          have hpr := hF.pr
          rw [hun12] at hpr
          clear hdep ho' hi
          refine wpOp_gives (fun v W'' => v = undef ∧ W'' = W'.setCells w3.heap.size 0 dw) rfl rfl (gives_store_blk _ _ _ rfl w3.heap.size g7 24 dv dw d10 hpr.d (by rw [H_hdwl.out, H_hdvl.out]) H_hdwi.out H_hdwo.out fun _ => ⟨rfl, rfl⟩) ?_
          rintro v W'' ⟨rfl, rfl⟩
          exact hF.store12 H_hL.out rfl (by decide) lc (by rw [H_hdwl.out, H_hdvl.out]) hun12 _
        | 13 =>
          have hoo := Option.some.inj ho'
          subst hoo
          have d11 := hF.fr.vals 11 52 rfl (hdep ⟨11, .data⟩ (by simp) (by rfl))
          simp only [val11] at d11
          replace d11 := ev _ _ d11
          have f0 := hF.pr.f.cell (j := 0) (v := .int .i64 0) rfl
          have ff := hF.pr.f.free 0
          clear hdep ho' hi
          refine wpOp_gives (fun v W'' => v = undef ∧ W'' = W'.setCell ⟨w3.heap.size + 1, 0, none⟩ (.int .i64 0)) rfl rfl ?_ ?_
          · unfold Oper.gives; go_simp
          · rintro v W'' ⟨rfl, rfl⟩
            exact hF.store13 H_hL.out rfl (by decide) _
        | k + 14 => simp at ho'
      rintro listed act W' hF hr
      have hall := all_listed hr hF.sz (by kernel_rfl)
      have hpr := hF.pr
      rw [hall 12 (by decide)] at hpr
      refine ⟨by rw [show (w5.alloc (.cells #[.slice ba m bc] 39)).heap.size = w5.heap.size + 1 by simp]; exact hF.kf, hF.kb, ?_⟩
      show PrI _ _ _ _ _ _ _ _ _ (idC (rootR id A bs (fvals (pre ++ [⟨j, hjm⟩])))) W'
      rw [H_hst.out, ← H_hdw.out]
      exact hpr
    | false =>
      have hnd : ∀ W', TabK W' → Calls Tryd.prog 46 #[.int .i64 B, .agg dv.toArray, .agg es.toArray] W' fun e w' => e = .returned (.tuple #[.agg dw.toArray, .int .i64 0]) ∧ Below W'.heap.size W' w' := fun W' h => by
        have := node_any B dl (pc A.beside j) W' H_hxd.out H_hxe.out (by omega) h
        have e : ofL (nodeB (B : Int) dl (pc A.beside j)) = stepR id A bs dl j := by unfold stepR; rw [H_hB.out, if_neg (by rw [H_hy.out]; simp)]
        simp only [GivesId, e, ← H_hes.out, ← H_hdv.out, ← hdw] at this
        exact this
      have H_hdw := Box.mk hdw
      have H_hdwl := Box.mk hdwl
      have H_hdwi := Box.mk hdwi
      have H_hdwo := Box.mk hdwo
      have H_hdwr := Box.mk hdwr
      have H_hxs := Box.mk hxs
      have H_hnd := Box.mk hnd
      clear hdw hdwl hdwi hdwo hdwr hxs hnd
      refine wpIn_cond_false (by rfl) ?_
      refine round_region_frame (fun a0 listed act W' => I11 a0 sl12b (val12b B j m dc b2 o2 w.heap.size es dv dw) 2 w (w5.heap.size + 1) us PV w3.heap.size (w3.heap.size + 1) w5.heap.size (.slice ba m bc) dv dw W listed act W') (by kernel_rfl) (fun ⟨_, _, h⟩ => h) rfl ?_ ?_ ?_
      · exact ⟨RegI.start _ _ _ _, hI8.later (Below.drew (Below.refl _ _)), (keeps_later hc8).trans ((KeepsOthers.drew w8).from _), ⟨(hc8.mono H_hszW.out).drew, hc8.cell (p := ⟨w5.heap.size, 0, none⟩) hI.s.lt⟩, fun h => by simp at h, by simp⟩
      · intro listed act W' i hF hi
        obtain ⟨hun, o, ho', hdep⟩ := mem_ready.1 hi
        have ev : ∀ (s : Tmp) (u : Value), act.eval (.tmp s) = u → act.tmps[s]?.getD undef = u := fun s u h => by simpa [Act.eval, Array.getD_eq_getD_getElem?] using h
        have e3 := ev _ _ ((hF.fr.frame.off 3 (by decide)).trans rfl)
        have e9 := ev _ _ ((hF.fr.frame.off 9 (by decide)).trans rfl)
        have e10 := ev _ _ ((hF.fr.frame.off 10 (by decide)).trans rfl)
        have g7 : act.eval (.tmp 7) = .pointer (some ⟨w3.heap.size, 0, none⟩) := (hF.fr.frame.off 7 (by decide)).trans rfl
        have e8 := ev _ _ ((hF.fr.frame.off 8 (by decide)).trans rfl)
        match i with
        | 0 =>
          have hoo := Option.some.inj ho'
          subst hoo
          clear hdep ho' hi
          refine wpOp_gives (fun v W'' => v = val12b B j m dc b2 o2 w.heap.size es dv dw 0 ∧ W'' = W') rfl rfl ?_ ?_
          · simp only [val12b]
            unfold Oper.gives; go_simp
          · rintro v W'' ⟨rfl, rfl⟩
            exact hF.quiet (by decide) rfl (by decide) (by simp) _ rfl
        | 1 =>
          have hoo := Option.some.inj ho'
          subst hoo
          have d0 := hF.fr.vals 0 54 rfl (hdep ⟨0, .data⟩ (by simp) (by rfl))
          simp only [val12b] at d0
          replace d0 := ev _ _ d0
          have hwr' := H_hwr.out
          clear hdep ho' hi
          refine wpOp_gives (fun v W'' => v = val12b B j m dc b2 o2 w.heap.size es dv dw 1 ∧ W'' = W') rfl rfl ?_ ?_
          · simp only [val12b]
            unfold Oper.gives; go_simp
          · rintro v W'' ⟨rfl, rfl⟩
            exact hF.quiet (by decide) rfl (by decide) (by simp) _ rfl
        | 2 =>
          have hoo := Option.some.inj ho'
          subst hoo
          have hn12 : listed.getD 12 false = false := by
            cases e : listed.getD 12 false with
            | false => rfl
            | true => rw [getD_of_true (hF.c12 e) true] at hun; cases hun
          have hpr := hF.pr
          rw [hn12] at hpr
          clear hdep ho' hi
          have hl := run_loadAt_mid W' w3.heap.size 0 24 dv _ hpr.d.rangeAt Tryd.underlying24 rfl H_hdvi.out
          refine wpOp_gives (fun v W'' => v = val12b B j m dc b2 o2 w.heap.size es dv dw 2 ∧ W'' = W') rfl rfl (gives_run _ _ (by simp [execOp, g7, hl, val11, val12b]) ⟨rfl, rfl⟩) ?_
          rintro v W'' ⟨rfl, rfl⟩
          exact hF.quiet (by decide) rfl (by decide) (by simp) _ rfl
        | 3 =>
          have hoo := Option.some.inj ho'
          subst hoo
          clear hdep ho' hi
          refine wpOp_gives (fun v W'' => v = val12b B j m dc b2 o2 w.heap.size es dv dw 3 ∧ W'' = W') rfl rfl ?_ ?_
          · simp only [val12b]
            unfold Oper.gives; go_simp
          · rintro v W'' ⟨rfl, rfl⟩
            exact hF.quiet (by decide) rfl (by decide) (by simp) _ rfl
        | 4 =>
          have hoo := Option.some.inj ho'
          subst hoo
          have d3 := hF.fr.vals 3 57 rfl (hdep ⟨3, .data⟩ (by simp) (by rfl))
          simp only [val12b] at d3
          replace d3 := ev _ _ d3
          have p1 := hF.pr.p.cell H_hP1.out
          clear hdep ho' hi
          refine wpOp_gives (fun v W'' => v = val12b B j m dc b2 o2 w.heap.size es dv dw 4 ∧ W'' = W') rfl rfl ?_ ?_
          · simp only [val12b]
            unfold Oper.gives; go_simp
          · rintro v W'' ⟨rfl, rfl⟩
            exact hF.quiet (by decide) rfl (by decide) (by simp) _ rfl
        | 5 =>
          have hoo := Option.some.inj ho'
          subst hoo
          clear hdep ho' hi
          refine wpOp_gives (fun v W'' => v = val12b B j m dc b2 o2 w.heap.size es dv dw 5 ∧ W'' = W') rfl rfl ?_ ?_
          · simp only [val12b]
            unfold Oper.gives; go_simp
          · rintro v W'' ⟨rfl, rfl⟩
            exact hF.quiet (by decide) rfl (by decide) (by simp) _ rfl
        | 6 =>
          have hoo := Option.some.inj ho'
          subst hoo
          have d4 := hF.fr.vals 4 58 rfl (hdep ⟨4, .data⟩ (by simp) (by rfl))
          simp only [val12b] at d4
          replace d4 := ev _ _ d4
          have d5 := hF.fr.vals 5 59 rfl (hdep ⟨5, .data⟩ (by simp) (by rfl))
          simp only [val12b] at d5
          replace d5 := ev _ _ d5
          clear hdep ho' hi
          refine wpOp_gives (fun v W'' => v = val12b B j m dc b2 o2 w.heap.size es dv dw 6 ∧ W'' = W') rfl rfl ?_ ?_
          · simp only [val12b]
            unfold Oper.gives; go_simp
          · rintro v W'' ⟨rfl, rfl⟩
            exact hF.quiet (by decide) rfl (by decide) (by simp) _ rfl
        | 7 =>
          have hoo := Option.some.inj ho'
          subst hoo
          have d6 := hF.fr.vals 6 60 rfl (hdep ⟨6, .data⟩ (by simp) (by rfl))
          simp only [val12b] at d6
          clear hdep ho' hi
          have hl := run_loadAt_mid W' b2 (o2 + j * 32) 24 es _ (rangeAt_later H_hre.out hF.pr.bel) Tryd.underlying24 rfl H_hesi.out
          refine wpOp_gives (fun v W'' => v = val12b B j m dc b2 o2 w.heap.size es dv dw 7 ∧ W'' = W') rfl rfl (gives_run _ _ (by simp [execOp, d6, hl, val11, val12b]) ⟨rfl, rfl⟩) ?_
          rintro v W'' ⟨rfl, rfl⟩
          exact hF.quiet (by decide) rfl (by decide) (by simp) _ rfl
        | 8 =>
          have hoo := Option.some.inj ho'
          subst hoo
          have d1 := hF.fr.vals 1 55 rfl (hdep ⟨1, .data⟩ (by simp) (by rfl))
          simp only [val12b] at d1
          have d2 := hF.fr.vals 2 56 rfl (hdep ⟨2, .data⟩ (by simp) (by rfl))
          simp only [val12b] at d2
          have d7 := hF.fr.vals 7 61 rfl (hdep ⟨7, .data⟩ (by simp) (by rfl))
          simp only [val12b] at d7
          clear hdep ho' hi
          refine wpOp_gives (fun v W'' => v = val12b B j m dc b2 o2 w.heap.size es dv dw 8 ∧ Below W'.heap.size W' W'') rfl rfl (gives_call 46 _ _ #[.int .i64 B, .agg dv.toArray, .agg es.toArray] rfl (by kernel_rfl) (by simp [Act.eval, ev _ _ d1, ev _ _ d2, ev _ _ d7]) ((H_hnd.out W' (H_hT.out.later hF.pr.bel)).mono ?_)) ?_
          · rintro e W'' ⟨rfl, hb⟩
            exact ⟨_, rfl, rfl, hb⟩
          · rintro v W'' ⟨rfl, hb⟩
            exact (hF.grown hb).quiet (by decide) rfl (by decide) (by simp) _ rfl
        | 9 =>
          have hoo := Option.some.inj ho'
          subst hoo
          have d8 := hF.fr.vals 8 62 rfl (hdep ⟨8, .data⟩ (by simp) (by rfl))
          simp only [val12b] at d8
          replace d8 := ev _ _ d8
          clear hdep ho' hi
          refine wpOp_gives (fun v W'' => v = val12b B j m dc b2 o2 w.heap.size es dv dw 9 ∧ W'' = W') rfl rfl ?_ ?_
          · simp only [val12b]
            unfold Oper.gives; go_simp
          · rintro v W'' ⟨rfl, rfl⟩
            exact hF.quiet (by decide) rfl (by decide) (by simp) _ rfl
        | 10 =>
          have hoo := Option.some.inj ho'
          subst hoo
          have d9 := hF.fr.vals 9 53 rfl (hdep ⟨9, .data⟩ (by simp) (by rfl))
          simp only [val12b] at d9
          replace d9 := ev _ _ d9
          clear hdep ho' hi
          refine wpOp_gives (fun v W'' => v = val12b B j m dc b2 o2 w.heap.size es dv dw 10 ∧ W'' = W') rfl rfl ?_ ?_
          · simp only [val12b]
            unfold Oper.gives; go_simp
          · rintro v W'' ⟨rfl, rfl⟩
            exact hF.quiet (by decide) rfl (by decide) (by simp) _ rfl
        | 11 =>
          have hoo := Option.some.inj ho'
          subst hoo
          have d9 := hF.fr.vals 9 53 rfl (hdep ⟨9, .data⟩ (by simp) (by rfl))
          simp only [val12b] at d9
          replace d9 := ev _ _ d9
          clear hdep ho' hi
          refine wpOp_gives (fun v W'' => v = val12b B j m dc b2 o2 w.heap.size es dv dw 11 ∧ W'' = W') rfl rfl ?_ ?_
          · simp only [val12b]
            unfold Oper.gives; go_simp
          · rintro v W'' ⟨rfl, rfl⟩
            exact hF.quiet (by decide) rfl (by decide) (by simp) _ rfl
        | 12 =>
          have hoo := Option.some.inj ho'
          subst hoo
          have hun12 : listed.getD 12 false = false := by
            cases e : listed.getD 12 false with
            | false => rfl
            | true => rw [getD_of_true e true] at hun; cases hun
          have d10 := hF.fr.vals 10 63 rfl (hdep ⟨10, .data⟩ (by simp) (by rfl))
          simp only [val12b] at d10
          have lc := hdep ⟨2, .phase⟩ (by simp) (by rfl)
          have hpr := hF.pr
          rw [hun12] at hpr
          clear hdep ho' hi
          refine wpOp_gives (fun v W'' => v = undef ∧ W'' = W'.setCells w3.heap.size 0 dw) rfl rfl (gives_store_blk _ _ _ rfl w3.heap.size g7 24 dv dw d10 hpr.d (by rw [H_hdwl.out, H_hdvl.out]) H_hdwi.out H_hdwo.out fun _ => ⟨rfl, rfl⟩) ?_
          rintro v W'' ⟨rfl, rfl⟩
          exact hF.store12 H_hL.out rfl (by decide) lc (by rw [H_hdwl.out, H_hdvl.out]) hun12 _
        | 13 =>
          have hoo := Option.some.inj ho'
          subst hoo
          have d11 := hF.fr.vals 11 64 rfl (hdep ⟨11, .data⟩ (by simp) (by rfl))
          simp only [val12b] at d11
          replace d11 := ev _ _ d11
          have f0 := hF.pr.f.cell (j := 0) (v := .int .i64 0) rfl
          have ff := hF.pr.f.free 0
          clear hdep ho' hi
          refine wpOp_gives (fun v W'' => v = undef ∧ W'' = W'.setCell ⟨w3.heap.size + 1, 0, none⟩ (.int .i64 0)) rfl rfl ?_ ?_
          · unfold Oper.gives; go_simp
          · rintro v W'' ⟨rfl, rfl⟩
            exact hF.store13 H_hL.out rfl (by decide) _
        | k + 14 => simp at ho'
      rintro listed act W' hF hr
      have hall := all_listed hr hF.sz (by kernel_rfl)
      have hpr := hF.pr
      rw [hall 12 (by decide)] at hpr
      refine ⟨by rw [show (w5.alloc (.cells #[.slice ba m bc] 39)).heap.size = w5.heap.size + 1 by simp]; exact hF.kf, hF.kb, ?_⟩
      show PrI _ _ _ _ _ _ _ _ _ (idC (rootR id A bs (fvals (pre ++ [⟨j, hjm⟩])))) W'
      rw [H_hst.out, ← H_hdw.out]
      exact hpr
  case done =>
    rintro D xs W hD hxs hI hK
    go_wp2_with fail
    have hxf := rootR_id id A bs (fvals xs)
    have hxv : fvals xs = downL m m := hxs
    have hDL : w5.heap.size < D := by simp at hD; omega
    rw [hxv] at hI hxf
    obtain ⟨dv, hdv⟩ : ∃ v, v = idC (rootR id A bs (downL m m)) := ⟨_, rfl⟩
    have hdvl := idC_len hxf
    have hdvi := idC_info hxf
    have hdvo := idC_one (rootR id A bs (downL m m))
    rw [← hdv] at hdvl hdvi hdvo
    have hdvr : dv.length = (List.replicate 32 (Value.int .u8 0)).length := by rw [hdvl]; rfl
    rw [← hdv] at hI
    have H_hdv := Box.mk hdv
    have H_hdvl := Box.mk hdvl
    have H_hdvi := Box.mk hdvi
    have H_hdvo := Box.mk hdvo
    have H_hdvr := Box.mk hdvr
    have H_hxf := Box.mk hxf
    have H_hxs := Box.mk hxs
    have H_hxv := Box.mk hxv
    have H_hD := Box.mk hD
    clear hdv hdvl hdvi hdvo hdvr hxf hxs hxv hD
    refine wp_region_frame (fun a0 listed act W' => I13 a0 sl13 w (w5.heap.size + 1) us PV w3.heap.size (w3.heap.size + 1) w5.heap.size (.slice ba m bc) dv D listed act W') rfl ?_ ?_ ?_
    · exact ⟨RegI.start _ _ _ _, hI.later (Below.drew (Below.refl _ _)), hK, by simp⟩
    · intro listed act W' i hF hi
      obtain ⟨hun, o, ho', hdep⟩ := mem_ready.1 hi
      have ev : ∀ (s : Tmp) (u : Value), act.eval (.tmp s) = u → act.tmps[s]?.getD undef = u := fun s u h => by simpa [Act.eval, Array.getD_eq_getD_getElem?] using h
      have g7 : act.eval (.tmp 7) = .pointer (some ⟨w3.heap.size, 0, none⟩) := (hF.fr.frame.off 7 (by decide)).trans rfl
      have g4 : act.eval (.tmp 4) = .pointer (some ⟨w.heap.size + 2, 0, none⟩) := (hF.fr.frame.off 4 (by decide)).trans rfl
      have e8 : act.eval (.tmp 8) = .pointer (some ⟨w3.heap.size + 1, 0, none⟩) := (hF.fr.frame.off 8 (by decide)).trans rfl
      have e5 : act.eval (.tmp 5) = .pointer (some ⟨w.heap.size + 3, 0, none⟩) := (hF.fr.frame.off 5 (by decide)).trans rfl
      replace e8 := ev _ _ e8
      replace e5 := ev _ _ e5
      match i with
      | 0 =>
        have hoo := Option.some.inj ho'
        subst hoo
        clear hdep ho' hi
        have hl := run_loadAt_mid W' w3.heap.size 0 24 dv _ hF.pr.d.rangeAt Tryd.underlying24 rfl H_hdvi.out
        refine wpOp_gives (fun v W'' => v = .agg dv.toArray ∧ W'' = W') rfl rfl (gives_run _ _ (by simp [execOp, g7, hl]) ⟨rfl, rfl⟩) ?_
        rintro v W'' ⟨rfl, rfl⟩
        exact hF.quiet (by decide) rfl (by decide) (by simp) _ rfl
      | 1 =>
        have hoo := Option.some.inj ho'
        subst hoo
        have f0 := hF.pr.f.cell (j := 0) (v := .int .i64 0) rfl
        clear hdep ho' hi
        refine wpOp_gives (fun v W'' => v = .int .i64 0 ∧ W'' = W') rfl rfl ?_ ?_
        · unfold Oper.gives; go_simp
        · rintro v W'' ⟨rfl, rfl⟩
          exact hF.quiet (by decide) rfl (by decide) (by simp) _ rfl
      | 2 =>
        have hoo := Option.some.inj ho'
        subst hoo
        have hun2 : listed.getD 2 false = false := by
          cases e : listed.getD 2 false with
          | false => rfl
          | true => rw [getD_of_true e true] at hun; cases hun
        have d0 : act.eval (.tmp 65) = .agg dv.toArray := hF.fr.vals 0 65 rfl (hdep ⟨0, .data⟩ (by simp) (by rfl))
        have hpr := hF.pr
        rw [hun2] at hpr
        clear hdep ho' hi
        refine wpOp_gives (fun v W'' => v = undef ∧ W'' = W'.setCells (w.heap.size + 2) 0 dv) rfl rfl (gives_store_blk _ _ _ rfl (w.heap.size + 2) g4 24 zero32 dv d0 hpr.r (by rw [H_hdvl.out]; rfl) H_hdvi.out H_hdvo.out fun _ => ⟨rfl, rfl⟩) ?_
        rintro v W'' ⟨rfl, rfl⟩
        exact hF.store2 H_hL.out rfl H_hdvl.out hun2 _
      | 3 =>
        have hoo := Option.some.inj ho'
        subst hoo
        have d1 : act.eval (.tmp 66) = .int .i64 0 := hF.fr.vals 1 66 rfl (hdep ⟨1, .data⟩ (by simp) (by rfl))
        replace d1 := ev _ _ d1
        have f0 := hF.pr.e.cell (j := 0) (v := .int .i64 0) rfl
        have ff := hF.pr.e.free 0
        clear hdep ho' hi
        refine wpOp_gives (fun v W'' => v = undef ∧ W'' = W'.setCell ⟨w.heap.size + 3, 0, none⟩ (.int .i64 0)) rfl rfl ?_ ?_
        · unfold Oper.gives; go_simp
        · rintro v W'' ⟨rfl, rfl⟩
          exact hF.store3 H_hL.out rfl _
      | k + 4 => simp at ho'
    rintro listed act W' hF hr
    have hall := all_listed hr hF.sz (by kernel_rfl)
    obtain ⟨hact, hpr, hkk⟩ := hF.done fun j hj => hall j hj
    clear hF hall hr hI hK
    subst hact
    simp only [putAll, Act.put, List.setIfInBounds_toArray, List.set_cons_succ, List.set_cons_zero]
    go_wp2_with fail
    obtain ⟨l1, l2, l3, l4⟩ := H_hL.out
    refine ⟨by simp, .inl ⟨_, _, rfl, run_takeDeferred hkk, ?_⟩⟩
    refine ⟨_, results_two rfl _ _ (w.heap.size + 2) 24 dv (w.heap.size + 3) 0 rfl rfl (hpr.r.putObj (by omega)) (hpr.e.putObj (by omega)) H_hdvi.out, ?_, ?_⟩
    · rw [H_hdv.out]
    · exact hpr.bel.grown (grownBy_putObj' W' D _) hpr.bel.size (fun k e => by cases e; omega)

end Go.Proofs.YtfabcdpmnbeflaaDoor

/- ProofRoot of an empty list's proof; Verify of valid proofs. -/
namespace Go.Proofs.YtfabcdpmnbeflaaDoor
set_option linter.unusedSimpArgs false
set_option linter.unusedVariables false
set_option linter.unnecessarySimpa false
open Go.RowKit
set_option maxRecDepth 100000

set_option maxHeartbeats 2000000 in
theorem proofRoot_empty (A : ProofA) (id : List Int) (ba da : Option Addr) (bc dc : Nat) (w : World) (hid : IdIn id) (hok : ProofOk id A []) (hemp : A.empty = true) :
    Calls Tryd.prog 26 #[.agg (idC id).toArray, .agg (prC ba A.bits.length bc da A.beside.length dc A.only A.empty).toArray] w fun e w' =>
      e = .returned (.tuple #[.agg (idC (List.replicate 32 0)).toArray, .int .i64 0]) ∧ Below w.heap.size w w' := by
  have hck := fun W => checked_empty A id ba da bc dc W hid hok hemp
  have hla : A.bits.length = 0 := by rw [hok.bits]; rfl
  have hlb : A.beside.length = 0 := by rw [hok.len]; rfl
  rw [hla, hlb] at hck ⊢
  obtain ⟨ds, hds⟩ : ∃ ds, ds = List.replicate 32 (Value.int .u8 0) := ⟨_, rfl⟩
  rw [idC_zero, ← hds]
  have hdsi : (Tryd.prog.info? 24).map (·.size) = some ds.length := by rw [hds]; exact info32r
  have hdso : ∀ u ∈ ds, u.oneCell' = true := by rw [hds]; exact oneCell_zeros
  have hdsr : ds.length = (List.replicate 32 (Value.int .u8 0)).length := by rw [hds]
  obtain ⟨us, hus⟩ : ∃ v, v = idC (id) := ⟨_, rfl⟩
  have husl := idC_len hid
  have husi := idC_info hid
  have huso := idC_one (id)
  rw [← hus] at husl husi huso
  have husr : us.length = (List.replicate 32 (Value.int .u8 0)).length := by rw [husl]; rfl
  obtain ⟨PV, hPV⟩ : ∃ PV, PV = prC ba 0 bc da 0 dc A.only true := ⟨_, rfl⟩
  rw [hemp, ← hPV] at hck ⊢
  rw [← hus] at hck ⊢
  have hPVl : PV.length = 35 := by rw [hPV]; exact prC_len hok.only
  have hPVi : (Tryd.prog.info? 41).map (·.size) = some PV.length := by rw [hPVl]; exact info35
  have hP34 : PV[34]? = some (.bool true) := by rw [hPV]; exact prC_empty hok.only
  have H_hok := Box.mk hok
  have H_hemp := Box.mk hemp
  have H_hus := Box.mk hus
  have H_husl := Box.mk husl
  have H_husi := Box.mk husi
  have H_huso := Box.mk huso
  have H_husr := Box.mk husr
  have H_hds := Box.mk hds
  have H_hdsi := Box.mk hdsi
  have H_hdso := Box.mk hdso
  have H_hdsr := Box.mk hdsr
  have H_hPV := Box.mk hPV
  have H_hPVl := Box.mk hPVl
  have H_hPVi := Box.mk hPVi
  have H_hla := Box.mk hla
  have H_hlb := Box.mk hlb
  have H_hid := Box.mk hid
  have H_hP34 := Box.mk hP34
  have H_hck := Box.mk hck
  clear hok hemp hus husl husi huso husr hds hdsi hdso hdsr hPV hPVl hPVi hla hlb hid hP34 hck
  go_enter Tryd.func26, Tryd.ntmps26
  have hb0 := Below.refl w.heap.size w
  have hX : Blk ((((w.alloc (.cells us.toArray 24)).alloc (.cells PV.toArray 41)).alloc (.cells (List.replicate 32 (Value.int .u8 0)).toArray 24)).alloc (.cells #[.int .i64 0] 26)) w.heap.size 24 us := (((Blk.newA w _ _ _ us rfl rfl).alloc _).alloc _).alloc _
  have hP : Blk ((((w.alloc (.cells us.toArray 24)).alloc (.cells PV.toArray 41)).alloc (.cells (List.replicate 32 (Value.int .u8 0)).toArray 24)).alloc (.cells #[.int .i64 0] 26)) (w.heap.size + 1) 41 PV := ((Blk.newA (w.alloc (.cells us.toArray 24)) (w.heap.size + 1) _ _ PV (by simp) rfl).alloc _).alloc _
  have hR : Blk ((((w.alloc (.cells us.toArray 24)).alloc (.cells PV.toArray 41)).alloc (.cells (List.replicate 32 (Value.int .u8 0)).toArray 24)).alloc (.cells #[.int .i64 0] 26)) (w.heap.size + 2) 24 (List.replicate 32 (Value.int .u8 0)) := (Blk.newA _ (w.heap.size + 2) _ _ _ (by simp) rfl).alloc _
  have hE : Blk ((((w.alloc (.cells us.toArray 24)).alloc (.cells PV.toArray 41)).alloc (.cells (List.replicate 32 (Value.int .u8 0)).toArray 24)).alloc (.cells #[.int .i64 0] 26)) (w.heap.size + 3) 26 [.int .i64 0] := Blk.newA _ (w.heap.size + 3) _ _ _ (by simp) rfl
  have hbA : Below w.heap.size w ((((w.alloc (.cells us.toArray 24)).alloc (.cells PV.toArray 41)).alloc (.cells (List.replicate 32 (Value.int .u8 0)).toArray 24)).alloc (.cells #[.int .i64 0] 26)) := ((((Below.refl _ _).alloc (Nat.le_refl _) _).alloc (by simp) _).alloc (by simp; omega) _).alloc (by simp; omega) _
  go_upto_region 1 with fail
  refine wp_gen fun w1 hc1 => ?_
  replace hX := hX.later hc1
  replace hP := hP.later hc1
  replace hR := hR.later hc1
  replace hE := hE.later hc1
  have hb1 := bchain hbA hc1
  clear hbA hc1
  go_wp2_with (first | (refine wpList_load_blk rfl 24 _ rfl w.heap.size (by rfl) 24 us _ hX Tryd.underlying24 rfl H_husi.out ?_) | (refine wpList_load_blk rfl 41 _ rfl (w.heap.size + 1) (by rfl) 41 PV _ hP Tryd.underlying41 rfl H_hPVi.out ?_))
  with_reducible refine (H_hck.out _).mono ?_
  rintro e w2 ⟨rfl, hc2⟩
  have hb2 : Below w.heap.size w w2 := bchain (by repeat' (first | with_reducible exact hb1 | with_reducible refine Below.drew ?_ | with_reducible refine below_drewN ?_ _ | with_reducible refine Below.alloc ?_ (by have := hb1.size; first | (simp; done) | (simp; omega) | omega) _ | with_reducible refine Below.setCell ?_ (by first | (simp; done) | (simp; omega) | omega) _)) hc2
  have hst2 : Below w1.heap.size w1 w2 := bchain (by repeat' (first | with_reducible exact Below.refl _ _ | with_reducible refine Below.drew ?_ | with_reducible refine below_drewN ?_ _ | with_reducible refine Below.alloc ?_ (by first | (simp; done) | (simp; omega) | omega) _ | with_reducible refine Below.setCell ?_ (by first | (simp; done) | (simp; omega) | omega) _)) hc2
  replace hX := hX.later hst2
  replace hP := hP.later hst2
  replace hR := hR.later hst2
  replace hE := hE.later hst2
  clear hst2
  clear hc2
  have p34 := hP.cell H_hP34.out
  have ec := hE.cell (j := 0) (v := .int .i64 0) rfl
  have ef := hE.free 0
  go_wp2_with (refine wpList_store_blk rfl 24 _ _ rfl (w.heap.size + 2) (by rfl) 24 _ ds (by rw [H_hds.out]; rfl) hR H_hdsr.out H_hdsi.out H_hdso.out ?_; intro w3 hR3 he3; have H3 := Box.mk he3; clear he3; have hE3 : Blk w3 (w.heap.size + 3) 26 [.int .i64 0] := H3.out ▸ Blk.setCellsFar (by omega) _ _ _ hE; have ec3 := hE3.cell (j := 0) (v := .int .i64 0) rfl; have ef3 := hE3.free 0)
  have hb3 : Below w.heap.size w w3 := H3.out ▸ below_setCells (by omega) _ _ _ hb2
  exact bodyPost_ret (results_two rfl _ _ (w.heap.size + 2) 24 ds (w.heap.size + 3) 0 rfl rfl (hR3.setFar (p := ⟨w.heap.size + 3, 0, none⟩) (show w.heap.size + 2 ≠ w.heap.size + 3 by omega) _) (hE3.set 0 _) H_hdsi.out) rfl ⟨rfl, hb3.setCell (by simp; omega) _⟩
set_option maxHeartbeats 4000000 in
theorem verify_ok (A : ProofA) (id rt : List Int) (ba da : Option Addr) (bc dc n m : Nat) (ib : Bool) (w : World) (hid : IdIn id) (hrt : IdIn rt) (ho : IdIn A.only) (hib : (A.only == id) = ib) (hp : ProofIn w A ba bc da dc)
    (hpr : ∀ W, ProofIn W A ba bc da dc → Below w.heap.size w W → Calls Tryd.prog 26 #[.agg (idC id).toArray, .agg (prC ba n bc da m dc A.only A.empty).toArray] W fun e w' => e = .returned (.tuple #[.agg (idC rt).toArray, .int .i64 0]) ∧ Below W.heap.size W w') :
    Calls Tryd.prog 27 #[.agg (idC rt).toArray, .agg (idC id).toArray, .agg (prC ba n bc da m dc A.only A.empty).toArray] w fun e w' =>
      e = .returned (.tuple #[.bool (!A.empty && ib), .int .i64 0]) ∧ Below w.heap.size w w' := by
  obtain ⟨em, hem⟩ : ∃ em, A.empty = em := ⟨_, rfl⟩
  rw [hem] at hpr ⊢
  obtain ⟨us, hus⟩ : ∃ v, v = idC (id) := ⟨_, rfl⟩
  have husl := idC_len hid
  have husi := idC_info hid
  have huso := idC_one (id)
  rw [← hus] at husl husi huso
  have husr : us.length = (List.replicate 32 (Value.int .u8 0)).length := by rw [husl]; rfl
  obtain ⟨ds, hds⟩ : ∃ v, v = idC (rt) := ⟨_, rfl⟩
  have hdsl := idC_len hrt
  have hdsi := idC_info hrt
  have hdso := idC_one (rt)
  rw [← hds] at hdsl hdsi hdso
  have hdsr : ds.length = (List.replicate 32 (Value.int .u8 0)).length := by rw [hdsl]; rfl
  obtain ⟨vs, hvs⟩ : ∃ v, v = idC (A.only) := ⟨_, rfl⟩
  have hvsl := idC_len ho
  have hvsi := idC_info ho
  have hvso := idC_one (A.only)
  rw [← hvs] at hvsl hvsi hvso
  have hvsr : vs.length = (List.replicate 32 (Value.int .u8 0)).length := by rw [hvsl]; rfl
  obtain ⟨PV, hPV⟩ : ∃ PV, PV = prC ba n bc da m dc A.only em := ⟨_, rfl⟩
  rw [← hus, ← hds, ← hPV] at hpr ⊢
  have hPVl : PV.length = 35 := by rw [hPV]; exact prC_len ho
  have hPVi : (Tryd.prog.info? 41).map (·.size) = some PV.length := by rw [hPVl]; exact info35
  have hP34 : PV[34]? = some (.bool em) := by rw [hPV]; exact prC_empty ho
  have hP2 : ∀ j u, vs[j]? = some u → PV[2 + j]? = some u := fun j u hj => by rw [hPV]; rw [hvs] at hj; exact prC_only j u hj
  have heqr : ∀ w, (Op.equalIn 10000 24 (.agg ds.toArray) (.agg ds.toArray)).run Tryd.prog w = .ok true w := fun w => by
    rw [hds]; have := eq_ids rt rt hrt.len hrt.len w; rw [beq_self_eq_true] at this; exact this
  have heqi : ∀ w, (Op.equalIn 10000 24 (.agg vs.toArray) (.agg us.toArray)).run Tryd.prog w = .ok ib w := fun w => by
    rw [hvs, hus, ← hib]; exact eq_ids A.only id ho.len hid.len w
  have H_hus := Box.mk hus
  have H_husl := Box.mk husl
  have H_husi := Box.mk husi
  have H_huso := Box.mk huso
  have H_husr := Box.mk husr
  have H_hds := Box.mk hds
  have H_hdsl := Box.mk hdsl
  have H_hdsi := Box.mk hdsi
  have H_hdso := Box.mk hdso
  have H_hdsr := Box.mk hdsr
  have H_hvs := Box.mk hvs
  have H_hvsl := Box.mk hvsl
  have H_hvsi := Box.mk hvsi
  have H_hvso := Box.mk hvso
  have H_hvsr := Box.mk hvsr
  have H_hPV := Box.mk hPV
  have H_hPVl := Box.mk hPVl
  have H_hPVi := Box.mk hPVi
  have H_hP34 := Box.mk hP34
  have H_hP2 := Box.mk hP2
  have H_heqr := Box.mk heqr
  have H_heqi := Box.mk heqi
  have H_hpr := Box.mk hpr
  have H_hid := Box.mk hid
  have H_hrt := Box.mk hrt
  have H_ho := Box.mk ho
  have H_hib := Box.mk hib
  have H_hp := Box.mk hp
  have H_hem := Box.mk hem
  clear hus husl husi huso husr hds hdsl hdsi hdso hdsr hvs hvsl hvsi hvso hvsr hPV hPVl hPVi hP34 hP2 heqr heqi hpr hid hrt ho hib hp hem
  go_enter Tryd.func27, Tryd.ntmps27
  have hb0 := Below.refl w.heap.size w
  go_upto_region 1 with fail
  refine wp_gen fun w1 hc1 => ?_
  have hD : Blk w1 w.heap.size 24 ds := Blk.later (((Blk.newA w _ _ _ ds rfl rfl).alloc _).alloc _) hc1
  have hX : Blk w1 (w.heap.size + 1) 24 us := Blk.later ((Blk.newA (w.alloc (.cells ds.toArray 24)) (w.heap.size + 1) _ _ us (by simp) rfl).alloc _) hc1
  have hP : Blk w1 (w.heap.size + 2) 41 PV := Blk.later (Blk.newA ((w.alloc (.cells ds.toArray 24)).alloc (.cells us.toArray 24)) (w.heap.size + 2) _ _ PV (by simp) rfl) hc1
  have hb1 : Below w.heap.size w w1 := bchain (by repeat' (first | with_reducible exact hb0 | with_reducible refine Below.drew ?_ | with_reducible refine below_drewN ?_ _ | with_reducible refine Below.alloc ?_ (by have := hb0.size; first | (simp; done) | (simp; omega) | omega) _ | with_reducible refine Below.setCell ?_ (by first | (simp; done) | (simp; omega) | omega) _)) hc1
  clear hc1
  go_wp2_with (first | (refine wpList_load_blk rfl 24 _ rfl (w.heap.size + 1) (by rfl) 24 us _ hX Tryd.underlying24 rfl H_husi.out ?_) | (refine wpList_load_blk rfl 41 _ rfl (w.heap.size + 2) (by rfl) 41 PV _ hP Tryd.underlying41 rfl H_hPVi.out ?_))
  with_reducible refine (H_hpr.out _ (H_hp.out.later hb1) hb1).mono ?_
  rintro e w2 ⟨rfl, hc2⟩
  have hb2 : Below w.heap.size w w2 := bchain (by repeat' (first | with_reducible exact hb1 | with_reducible refine Below.drew ?_ | with_reducible refine below_drewN ?_ _ | with_reducible refine Below.alloc ?_ (by have := hb1.size; first | (simp; done) | (simp; omega) | omega) _ | with_reducible refine Below.setCell ?_ (by first | (simp; done) | (simp; omega) | omega) _)) hc2
  have hst2 : Below w1.heap.size w1 w2 := bchain (by repeat' (first | with_reducible exact Below.refl _ _ | with_reducible refine Below.drew ?_ | with_reducible refine below_drewN ?_ _ | with_reducible refine Below.alloc ?_ (by first | (simp; done) | (simp; omega) | omega) _ | with_reducible refine Below.setCell ?_ (by first | (simp; done) | (simp; omega) | omega) _)) hc2
  replace hD := hD.later hst2
  replace hX := hX.later hst2
  replace hP := hP.later hst2
  clear hst2
  clear hc2
  have hN2 := Blk.newA w2 w2.heap.size _ 24 (List.replicate 32 (Value.int .u8 0)) rfl rfl
  go_upto_region 2 with (refine wpList_store_blk rfl 24 _ _ rfl w2.heap.size (by rfl) 24 _ ds (by rfl) hN2 H_hdsr.out H_hdsi.out H_hdso.out ?_; intro w3 hR he3; have H3 := Box.mk he3; clear he3)
  have hc3 : Below w2.heap.size w2 w3 := H3.out ▸ below_setCells (Nat.le_refl _) _ _ _ ((Below.refl _ _).alloc (Nat.le_refl _) _)
  have hb3 : Below w.heap.size w w3 := bchain (by repeat' (first | with_reducible exact hb2 | with_reducible refine Below.drew ?_ | with_reducible refine below_drewN ?_ _ | with_reducible refine Below.alloc ?_ (by have := hb2.size; first | (simp; done) | (simp; omega) | omega) _ | with_reducible refine Below.setCell ?_ (by first | (simp; done) | (simp; omega) | omega) _)) hc3
  have hst3 : Below w2.heap.size w2 w3 := bchain (by repeat' (first | with_reducible exact Below.refl _ _ | with_reducible refine Below.drew ?_ | with_reducible refine below_drewN ?_ _ | with_reducible refine Below.alloc ?_ (by first | (simp; done) | (simp; omega) | omega) _ | with_reducible refine Below.setCell ?_ (by first | (simp; done) | (simp; omega) | omega) _)) hc3
  replace hD := hD.later hst3
  replace hX := hX.later hst3
  replace hP := hP.later hst3
  clear hst3
  clear hc3 hN2 H3
  have p34 := hP.cell H_hP34.out
  have hrv : w3.rangeAt (w.heap.size + 2) 2 vs := fun j v hj => hP.cell (H_hP2.out j v hj)
  have heqr' := H_heqr.out
  have heqi' := H_heqi.out
  cases em with
  | true =>
    go_wp2_with (first | (refine wpList_load_blkG (by first | rfl | (simp [Region.wanted]; done)) 24 _ rfl w2.heap.size (by rfl) 24 ds _ hR Tryd.underlying24 rfl H_hdsi.out ?_) | (refine wpList_load_blkG (by first | rfl | (simp [Region.wanted]; done)) 24 _ rfl w.heap.size (by rfl) 24 ds _ hD Tryd.underlying24 rfl H_hdsi.out ?_))
    go_ret2
    exact ⟨rfl, hb3⟩
  | false =>
    go_wp2_with (first | (refine wpList_load_blkG (by first | rfl | (simp [Region.wanted]; done)) 24 _ rfl w2.heap.size (by rfl) 24 ds _ hR Tryd.underlying24 rfl H_hdsi.out ?_) | (refine wpList_load_blkG (by first | rfl | (simp [Region.wanted]; done)) 24 _ rfl w.heap.size (by rfl) 24 ds _ hD Tryd.underlying24 rfl H_hdsi.out ?_) | (refine wpList_load_midG (by first | rfl | (simp [Region.wanted]; done)) 24 _ rfl (w.heap.size + 2) 2 (by rfl) vs _ hrv Tryd.underlying24 rfl H_hvsi.out ?_) | (refine wpList_load_blkG (by first | rfl | (simp [Region.wanted]; done)) 24 _ rfl (w.heap.size + 1) (by rfl) 24 us _ hX Tryd.underlying24 rfl H_husi.out ?_))
    go_ret2
    exact ⟨by cases ib <;> rfl, hb3⟩

end Go.Proofs.YtfabcdpmnbeflaaDoor

/- The proof that Prove gives is valid; its root; what stands at its end: plain. -/
namespace Go.Proofs.YtfabcdpmnbeflaaDoor
open Go.RowKit
set_option linter.unusedVariables false

theorem downL_cons (m : Nat) : downL (m + 1) (m + 1) = (downL m m).map (fun j => j + 1) ++ [0] := by
  apply List.ext_getElem
  · simp [downL]
  · intro i h1 h2
    have him : i < m + 1 := by rw [downL_length] at h1; exact h1
    simp only [downL, List.getElem_map, List.getElem_range] at *
    by_cases hi : i < m
    · rw [List.getElem_append_left (by simpa using hi)]
      simp only [List.getElem_map, List.getElem_range]
      omega
    · have : i = m := by omega
      subst this
      rw [List.getElem_append_right (by simp)]
      simp
theorem foldl_shift {α : Type} (f g : α → Nat → α) (h : ∀ d j, f d (j + 1) = g d j) : ∀ (js : List Nat) (d : α), (js.map fun j => j + 1).foldl f d = js.foldl g d
  | [], d => rfl
  | j :: js, d => by rw [List.map_cons, List.foldl_cons, List.foldl_cons, h, foldl_shift f g h js]
theorem rootR_shift (id : List Int) (A A' : ProofA) (x : List Int) (N : Nat) (bs js : List Nat) (hb : A.beside = x :: A'.beside) (ho : A.only = A'.only) : rootR id A (N :: bs) (js.map fun j => j + 1) = rootR id A' bs js := by
  unfold rootR
  rw [ho]
  refine foldl_shift _ _ (fun d j => ?_) js _
  unfold stepR
  have h1 : nb (N :: bs) (j + 1) = nb bs j := by simp [nb]
  have h2 : pc A.beside (j + 1) = pc A'.beside j := by rw [hb]; simp [pc]
  rw [h1, h2]
/-- What is known of the proof. -/
structure ProvF (l : List (List Int)) (id : List Int) (A : ProofA) (bs : List Nat) : Prop where
  bits : A.bits = bs.map fun (n : Nat) => (n : Int)
  small : ∀ k, k < bs.length → nb bs k < 256
  inc : ∀ k, k + 1 < bs.length → nb bs k < nb bs (k + 1)
  agree : ∀ k, k < bs.length → bitB A.only (nb bs k) = bitB id (nb bs k)
  len : A.beside.length = bs.length
  le : bs.length + 1 ≤ l.length
  mem : A.only ∈ l
  ids : ∀ x ∈ A.beside, IdIn x
  root : rootR id A bs (downL bs.length bs.length) = rootP l
  is : A.only = id ↔ id ∈ l
  emp : A.empty = false
  far : ∀ q, Same l q → ∀ k, k < bs.length → q ≤ nb bs k
theorem same_cut {l : List (List Int)} {N : Nat} {b : Bool} {p : List Int → Bool} (h : ∀ x, p x = true → bitB x N = b) (hs : Same l N) : Same (l.filter p) (N + 1) := by
  intro j hj x hx y hy
  obtain ⟨hx1, hx2⟩ := List.mem_filter.1 hx
  obtain ⟨hy1, hy2⟩ := List.mem_filter.1 hy
  by_cases hjN : j = N
  · subst hjN; rw [h x hx2, h y hy2]
  · exact hs j (by omega) x hx1 y hy1
theorem prov_step {l : List (List Int)} {id : List Int} {N : Nat} {here other : List (List Int)} {p : List Int → Bool} {A' : ProofA} {bs : List Nat} (hh : here = l.filter p) (hN : N < 256) (hp : ∀ x, p x = true → bitB x N = bitB id N) (hid : p id = true) (hsame : Same l N) (hne : ∀ q, Same l q → q ≤ N) (hlt : here.length + 1 ≤ l.length) (ih : ProvF here id A' bs)
    (hroot : (if bitB id N = true then ofL (nodeB (N : Int) (rootP other) (rootP here)) else ofL (nodeB (N : Int) (rootP here) (rootP other))) = rootP l) :
    ProvF l id ⟨(N : Int) :: A'.bits, rootP other :: A'.beside, A'.only, false⟩ (N :: bs) := by
  have hmem : A'.only ∈ l := by have := ih.mem; rw [hh] at this; exact (List.mem_filter.1 this).1
  have hon : bitB A'.only N = bitB id N := by have := ih.mem; rw [hh] at this; exact hp _ (List.mem_filter.1 this).2
  have hsm : Same here (N + 1) := by rw [hh]; exact same_cut hp hsame
  have hfar := ih.far (N + 1) hsm
  have hz : nb (N :: bs) 0 = N := rfl
  have hs : ∀ k, nb (N :: bs) (k + 1) = nb bs k := fun k => by simp [nb]
  refine ⟨?_, ?_, ?_, ?_, ?_, ?_, hmem, ?_, ?_, ?_, rfl, ?_⟩
  · rw [ih.bits]; rfl
  · intro k hk
    cases k with
    | zero => rw [hz]; exact hN
    | succ k => rw [hs]; exact ih.small k (by simpa using hk)
  · intro k hk
    cases k with
    | zero => rw [hz, hs]; have := hfar 0 (by simpa using hk); omega
    | succ k => rw [hs, hs]; exact ih.inc k (by simpa using hk)
  · intro k hk
    cases k with
    | zero => rw [hz]; exact hon
    | succ k => rw [hs]; exact ih.agree k (by simpa using hk)
  · simp [ih.len]
  · have := ih.le; simp; omega
  · intro x hx
    rcases List.mem_cons.1 hx with rfl | hx
    · exact rootP_id _
    · exact ih.ids x hx
  · rw [List.length_cons, downL_cons, rootR_snoc, rootR_shift id ⟨(N : Int) :: A'.bits, rootP other :: A'.beside, A'.only, false⟩ A' (rootP other) N bs _ rfl rfl, ih.root, ← hroot]
    unfold stepR
    rw [hz]
    rfl
  · rw [ih.is, hh]
    exact ⟨fun h => (List.mem_filter.1 h).1, fun h => List.mem_filter.2 ⟨h, hid⟩⟩
  · intro q hq k hk
    cases k with
    | zero => rw [hz]; exact hne q hq
    | succ k => rw [hs]; have h1 := hne q hq; have h2 := hfar k (by simpa using hk); omega
theorem prov_ok : ∀ (n : Nat) (l : List (List Int)) (id : List Int), l.length = n → IncL l → 0 < n → ∃ bs, ProvF l id (provP l id) bs := by
  intro n
  induction n using Nat.strongRecOn with
  | _ n ih =>
    intro l id hl hinc h0
    by_cases h1 : l.length = 1
    · obtain ⟨x, rfl⟩ : ∃ x, l = [x] := by
        match l, h1 with
        | [x], _ => exact ⟨x, rfl⟩
      rw [provP_one]
      exact ⟨[], rfl, fun k hk => by simp at hk, fun k hk => by simp at hk, fun k hk => by simp at hk, rfl, by simp, by simp, fun x hx => (by cases hx), by rw [rootP_one]; show rootR _ _ _ [] = _; rw [rootR_nil], by simp [eq_comm], rfl, fun q _ k hk => by simp at hk⟩
    · have h2 : 2 ≤ l.length := by omega
      obtain ⟨N, hN⟩ : ∃ N, splitN l = N := ⟨_, rfl⟩
      have hF := hinc.cutF h2
      have hs := (hinc.split h2).1
      rw [hN] at hF hs
      have hne : ∀ q, Same l q → q ≤ N := fun q hq => by
        obtain ⟨_, _, x, hx, y, hy, h3⟩ := hs
        rcases Nat.lt_or_ge N q with h | h
        · exact absurd (hq N h x hx y hy) h3
        · exact h
      have hsame : Same l N := hs.2.1
      have hz := hF.zl
      have ho := hF.ol
      have hsum := hF.sum
      rw [provP_two hF hN]
      by_cases hb : bitB id N = true
      · rw [if_pos hb]
        obtain ⟨bs, hbs⟩ := ih (onesL l N).length (by omega) (onesL l N) id rfl hF.io (by omega)
        exact ⟨N :: bs, prov_step rfl hF.hN (fun x hx => by rw [hb]; exact hx) hb hsame hne (show (onesL l N).length + 1 ≤ l.length by omega) hbs (by rw [if_pos hb]; exact hF.root.symm)⟩
      · rw [if_neg hb]
        have hbf : bitB id N = false := by simpa using hb
        obtain ⟨bs, hbs⟩ := ih (zerosL l N).length (by omega) (zerosL l N) id rfl hF.iz (by omega)
        exact ⟨N :: bs, prov_step rfl hF.hN (fun x hx => by rw [hbf]; simpa using hx) (by rw [hbf]; rfl) hsame hne (show (zerosL l N).length + 1 ≤ l.length by omega) hbs (by rw [if_neg hb]; exact hF.root.symm)⟩
theorem ProvF.ok {l : List (List Int)} {id : List Int} {A : ProofA} {bs : List Nat} (h : ProvF l id A bs) (hl : l.length ≤ 60) (hi : IncL l) : ProofOk id A bs :=
  ⟨h.bits, h.small, h.inc, h.agree, h.len, by have := h.le; omega, hi.ids _ h.mem, fun e => by rw [h.emp] at e; cases e⟩
theorem proofE_ok (id : List Int) : ProofOk id proofE [] :=
  ⟨rfl, fun k hk => by simp at hk, fun k hk => by simp at hk, fun k hk => by simp at hk, rfl, by simp, zeroIdIn, fun _ => ⟨rfl, rfl⟩⟩

end Go.Proofs.YtfabcdpmnbeflaaDoor

/- The law TrieProves. -/
namespace Go.Proofs.YtfabcdpmnbeflaaDoor
set_option linter.unusedSimpArgs false
set_option linter.unusedVariables false
set_option linter.unnecessarySimpa false
open Go.RowKit
set_option maxRecDepth 100000

/-- What Prove gives, of valid lists. -/
theorem proveZ_nil (id : List Int) : proveZ [] id = ⟨proofE, false, 0⟩ := by
  unfold proveZ; rw [if_neg (by rw [chk_of_inc IncL.nil (by decide)]; simp), if_pos (show ([] : List (List Int)).length = 0 from rfl)]
theorem proveZ_of {l : List (List Int)} {id : List Int} (hi : IncL l) (hl : l.length ≤ 60) (h0 : 0 < l.length) {bs : List Nat} (h : ProvF l id (provP l id) bs) : proveZ l id = ⟨provP l id, decide (id ∈ l), 0⟩ := by
  unfold proveZ
  rw [if_neg (by rw [chk_of_inc hi hl]; simp), if_neg (by omega), decide_eq_decide.2 h.is]
theorem proot_any (A : ProofA) (id rt : List Int) (l : List (List Int)) (bs : List Nat) (ba da : Option Addr) (bc dc : Nat) (w : World) (hF : ProvF l id A bs) (hi : IncL l) (hl : l.length ≤ 60) (hid : IdIn id) (hp : ProofIn w A ba bc da dc) (hT : TabK w) :
    Calls Tryd.prog 26 #[.agg (idC id).toArray, .agg (prC ba A.bits.length bc da A.beside.length dc A.only A.empty).toArray] w fun e w' =>
      e = .returned (.tuple #[.agg (idC (rootP l)).toArray, .int .i64 0]) ∧ Below w.heap.size w w' := by
  have := proofRoot_ok A id bs bs.length ba da bc dc w hp hid (hF.ok hl hi) hF.emp rfl hT (fun h => by
    have hc := hp.bits
    rw [hF.bits] at hc
    obtain ⟨b, o, e1, e2⟩ := cells_bit hc h
    exact ⟨b, o, e1, World.block_lt_of_cell? _ _ (e2 0 h), e2⟩)
  rw [hF.root] at this
  exact this
theorem proves_big (l : List (List Int)) (a : Option Addr) (n c : Nat) (id : List Int) (w : World) (h16 : (16 : Int) < n) (hid : IdIn id) (hT : TabK w) :
    Calls Tryd.prog 6 #[.slice a n c, .agg (idC id).toArray] w fun e w' =>
      e = .returned (.bool true) ∧ Below w.heap.size w w' := by
  obtain ⟨us, hus⟩ : ∃ v, v = idC (id) := ⟨_, rfl⟩
  have husl := idC_len hid
  have husi := idC_info hid
  have huso := idC_one (id)
  rw [← hus] at husl husi huso
  have husr : us.length = (List.replicate 32 (Value.int .u8 0)).length := by rw [husl]; rfl
  rw [← hus]
  have H_hus := Box.mk hus
  have H_husl := Box.mk husl
  have H_husi := Box.mk husi
  have H_huso := Box.mk huso
  have H_husr := Box.mk husr
  have H_hid := Box.mk hid
  clear hus husl husi huso husr hid
  have hal := fun W (h : TabK W) => alive_any W h
  have H_hal := Box.mk hal
  have H_hT := Box.mk hT
  clear hal hT
  go_enter Tryd.func6, Tryd.ntmps6
  have hb0 := Below.refl w.heap.size w
  have hX := Blk.newA w w.heap.size _ 24 us rfl rfl
  go_wp2_with fail
  with_reducible refine (H_hal.out _ (H_hT.out.later (by repeat' (first | with_reducible exact hb0 | with_reducible refine Below.drew ?_ | with_reducible refine below_drewN ?_ _ | with_reducible refine Below.alloc ?_ (by have := hb0.size; first | (simp; done) | (simp; omega) | omega) _ | with_reducible refine Below.setCell ?_ (by first | (simp; done) | (simp; omega) | omega) _)))).mono ?_
  rintro e w1 ⟨rfl, hc1⟩
  replace hX := hX.later hc1
  have hb1 : Below w.heap.size w w1 := bchain (by repeat' (first | with_reducible exact hb0 | with_reducible refine Below.drew ?_ | with_reducible refine below_drewN ?_ _ | with_reducible refine Below.alloc ?_ (by have := hb0.size; first | (simp; done) | (simp; omega) | omega) _ | with_reducible refine Below.setCell ?_ (by first | (simp; done) | (simp; omega) | omega) _)) hc1
  clear hc1
  clear hX
  go_wp2_with fail
  go_ret
  exact ⟨rfl, by repeat' (first | with_reducible exact hb1 | with_reducible refine Below.drew ?_ | with_reducible refine below_drewN ?_ _ | with_reducible refine Below.alloc ?_ (by have := hb1.size; first | (simp; done) | (simp; omega) | omega) _ | with_reducible refine Below.setCell ?_ (by first | (simp; done) | (simp; omega) | omega) _)⟩
theorem proves_bad (l : List (List Int)) (a : Option Addr) (n c : Nat) (id : List Int) (w : World) (h : IdsIn w a c l) (hn : n = l.length) (h16 : n ≤ 16) (hz : chkZ l ≠ 0) (hid : IdIn id) (hT : TabK w) :
    Calls Tryd.prog 6 #[.slice a n c, .agg (idC id).toArray] w fun e w' =>
      e = .returned (.bool true) ∧ Below w.heap.size w w' := by
  have hck := fun W (hI : IdsIn W a c l) => rcheck_any l a n c W hI hn (by unfold maxLen; omega)
  obtain ⟨er, her⟩ : ∃ er, chkZ l = er := ⟨_, rfl⟩
  rw [her] at hz
  simp only [her] at hck
  have hzn : (er != 0) = true := by simpa using hz
  have h16I : (n : Int) ≤ 16 := by omega
  obtain ⟨us, hus⟩ : ∃ v, v = idC (id) := ⟨_, rfl⟩
  have husl := idC_len hid
  have husi := idC_info hid
  have huso := idC_one (id)
  rw [← hus] at husl husi huso
  have husr : us.length = (List.replicate 32 (Value.int .u8 0)).length := by rw [husl]; rfl
  rw [← hus]
  have H_hck := Box.mk hck
  have H_hn := Box.mk hn
  have H_her := Box.mk her
  have H_h := Box.mk h
  have H_hz := Box.mk hz
  have H_hus := Box.mk hus
  have H_husl := Box.mk husl
  have H_husi := Box.mk husi
  have H_huso := Box.mk huso
  have H_husr := Box.mk husr
  have H_hid := Box.mk hid
  clear hck hn her h hz hus husl husi huso husr hid
  have hal := fun W (h : TabK W) => alive_any W h
  have H_hal := Box.mk hal
  have H_hT := Box.mk hT
  clear hal hT
  go_enter Tryd.func6, Tryd.ntmps6
  have hb0 := Below.refl w.heap.size w
  have hX := Blk.newA w w.heap.size _ 24 us rfl rfl
  go_wp2_with fail
  with_reducible refine (H_hal.out _ (H_hT.out.later (by repeat' (first | with_reducible exact hb0 | with_reducible refine Below.drew ?_ | with_reducible refine below_drewN ?_ _ | with_reducible refine Below.alloc ?_ (by have := hb0.size; first | (simp; done) | (simp; omega) | omega) _ | with_reducible refine Below.setCell ?_ (by first | (simp; done) | (simp; omega) | omega) _)))).mono ?_
  rintro e w1 ⟨rfl, hc1⟩
  replace hX := hX.later hc1
  have hb1 : Below w.heap.size w w1 := bchain (by repeat' (first | with_reducible exact hb0 | with_reducible refine Below.drew ?_ | with_reducible refine below_drewN ?_ _ | with_reducible refine Below.alloc ?_ (by have := hb0.size; first | (simp; done) | (simp; omega) | omega) _ | with_reducible refine Below.setCell ?_ (by first | (simp; done) | (simp; omega) | omega) _)) hc1
  clear hc1
  clear hX
  go_wp2_with fail
  with_reducible refine (H_hck.out _ (H_h.out.later hb1)).mono ?_
  rintro e w2 ⟨rfl, hc2⟩
  have hb2 : Below w.heap.size w w2 := bchain (by repeat' (first | with_reducible exact hb1 | with_reducible refine Below.drew ?_ | with_reducible refine below_drewN ?_ _ | with_reducible refine Below.alloc ?_ (by have := hb1.size; first | (simp; done) | (simp; omega) | omega) _ | with_reducible refine Below.setCell ?_ (by first | (simp; done) | (simp; omega) | omega) _)) hc2
  clear hc2 hb1
  go_wp2_with fail
  go_ret
  exact ⟨rfl, by repeat' (first | with_reducible exact hb2 | with_reducible refine Below.drew ?_ | with_reducible refine below_drewN ?_ _ | with_reducible refine Below.alloc ?_ (by have := hb2.size; first | (simp; done) | (simp; omega) | omega) _ | with_reducible refine Below.setCell ?_ (by first | (simp; done) | (simp; omega) | omega) _)⟩
set_option maxHeartbeats 8000000 in
theorem proves_main (A : ProofA) (is : Bool) (l : List (List Int)) (a : Option Addr) (n c nb : Nat) (id on : List Int) (em : Bool) (w : World) (h : IdsIn w a c l) (hn : n = l.length) (h16 : n ≤ 16) (h0 : 0 < n) (hnb : nb < n) (hinc : IncL l) (hid : IdIn id) (hon : IdIn on) (hem : em = false) (honl : on ∈ l)
    (hA : proveZ l id = ⟨A, is, 0⟩) (his : decide (id ∈ l) = is) (e1 : A.bits.length = nb) (e2 : A.beside.length = nb) (e3 : A.only = on) (e4 : A.empty = em) (hT : TabK w)
    (hpr : ∀ (W : World) (ba da : Option Addr) (bc dc : Nat), ProofIn W A ba bc da dc → TabK W → Calls Tryd.prog 26 #[.agg (idC id).toArray, .agg (prC ba nb bc da nb dc on em).toArray] W fun e w' => e = .returned (.tuple #[.agg (idC (rootP l)).toArray, .int .i64 0]) ∧ Below W.heap.size W w')
    (hvf : ∀ (W : World) (ba da : Option Addr) (bc dc : Nat), ProofIn W A ba bc da dc → TabK W → Calls Tryd.prog 27 #[.agg (idC (rootP l)).toArray, .agg (idC id).toArray, .agg (prC ba nb bc da nb dc on em).toArray] W fun e w' => e = .returned (.tuple #[.bool is, .int .i64 0]) ∧ Below W.heap.size W w') :
    Calls Tryd.prog 6 #[.slice a n c, .agg (idC id).toArray] w fun e w' =>
      e = .returned (.bool true) ∧ Below w.heap.size w w' := by
  have hin2 := fun W (hI : IdsIn W a c l) => in_any l on a n c W hI hon hn (by unfold maxLen; omega)
  rw [show decide (on ∈ l) = true by simpa using honl] at hin2
  subst hem
  have hck := fun W (hI : IdsIn W a c l) => rcheck_any l a n c W hI hn (by unfold maxLen; omega)
  have hro := fun W (hI : IdsIn W a c l) hT => Root_any l a n c W hI hn (by unfold maxLen; omega) hT
  have hpv := fun W (hI : IdsIn W a c l) hT => prove_any l id a n c W hI hn (by unfold maxLen; omega) hid hT
  have hin := fun W (hI : IdsIn W a c l) => in_any l id a n c W hI hid hn (by unfold maxLen; omega)
  rw [chk_of_inc hinc (by omega)] at hck
  rw [rootZ_of hinc (by omega)] at hro
  rw [hA] at hpv
  obtain ⟨us, hus⟩ : ∃ v, v = idC (id) := ⟨_, rfl⟩
  have husl := idC_len hid
  have husi := idC_info hid
  have huso := idC_one (id)
  rw [← hus] at husl husi huso
  have husr : us.length = (List.replicate 32 (Value.int .u8 0)).length := by rw [husl]; rfl
  obtain ⟨xr, hxr⟩ : ∃ v, v = idC (rootP l) := ⟨_, rfl⟩
  have hxrl := idC_len (rootP_id l)
  have hxri := idC_info (rootP_id l)
  have hxro := idC_one (rootP l)
  rw [← hxr] at hxrl hxri hxro
  have hxrr : xr.length = (List.replicate 32 (Value.int .u8 0)).length := by rw [hxrl]; rfl
  rw [← hus]
  simp only [← hxr] at hro hpr hvf
  simp only [← hus] at hpv hin hpr hvf
  have heqr : ∀ w, (Op.equalIn 10000 24 (.agg xr.toArray) (.agg xr.toArray)).run Tryd.prog w = .ok true w := fun w => by
    rw [hxr]; have := eq_ids _ _ (rootP_id l).len (rootP_id l).len w; rw [beq_self_eq_true] at this; exact this
  have h16I : (n : Int) ≤ 16 := by omega
  obtain ⟨vs, hvs⟩ : ∃ v, v = idC (on) := ⟨_, rfl⟩
  have hvsl := idC_len hon
  have hvsi := idC_info hon
  have hvso := idC_one (on)
  rw [← hvs] at hvsl hvsi hvso
  have hvsr : vs.length = (List.replicate 32 (Value.int .u8 0)).length := by rw [hvsl]; rfl
  simp only [← hvs] at hin2
  rw [his] at hin
  simp only [ProveR, e1, e2, e3, e4] at hpv
  have hbe : (is == is) = true := by simp
  have hbn : (is != is) = false := by simp
  have hnb1 : (nb : Int) < (n : Int) := by omega
  have hn1 : (1 : Int) ≤ (n : Int) := by omega
  have hn0e : ((n : Int) == 0) = false := by simp; omega
  have H_hck := Box.mk hck
  have H_hro := Box.mk hro
  have H_hpv := Box.mk hpv
  have H_hin := Box.mk hin
  have H_hin2 := Box.mk hin2
  have H_hpr := Box.mk hpr
  have H_hvf := Box.mk hvf
  have H_hus := Box.mk hus
  have H_husl := Box.mk husl
  have H_husi := Box.mk husi
  have H_huso := Box.mk huso
  have H_husr := Box.mk husr
  have H_hxr := Box.mk hxr
  have H_hxrl := Box.mk hxrl
  have H_hxri := Box.mk hxri
  have H_hxro := Box.mk hxro
  have H_hxrr := Box.mk hxrr
  have H_hvs := Box.mk hvs
  have H_hvsl := Box.mk hvsl
  have H_hvsi := Box.mk hvsi
  have H_hvso := Box.mk hvso
  have H_hvsr := Box.mk hvsr
  have H_heqr := Box.mk heqr
  have H_h := Box.mk h
  have H_hn := Box.mk hn
  have H_hinc := Box.mk hinc
  have H_hid := Box.mk hid
  have H_hon := Box.mk hon
  have H_honl := Box.mk honl
  have H_hA := Box.mk hA
  have H_his := Box.mk his
  have H_e1 := Box.mk e1
  have H_e2 := Box.mk e2
  have H_e3 := Box.mk e3
  have H_e4 := Box.mk e4
  clear hck hro hpv hin hin2 hpr hvf hus husl husi huso husr hxr hxrl hxri hxro hxrr hvs hvsl hvsi hvso hvsr heqr h hn hinc hid hon honl hA his e1 e2 e3 e4
  have hal := fun W (h : TabK W) => alive_any W h
  have H_hal := Box.mk hal
  have H_hT := Box.mk hT
  clear hal hT
  go_enter Tryd.func6, Tryd.ntmps6
  have hb0 := Below.refl w.heap.size w
  have hX := Blk.newA w w.heap.size _ 24 us rfl rfl
  go_wp2_with fail
  with_reducible refine (H_hal.out _ (H_hT.out.later (by repeat' (first | with_reducible exact hb0 | with_reducible refine Below.drew ?_ | with_reducible refine below_drewN ?_ _ | with_reducible refine Below.alloc ?_ (by have := hb0.size; first | (simp; done) | (simp; omega) | omega) _ | with_reducible refine Below.setCell ?_ (by first | (simp; done) | (simp; omega) | omega) _)))).mono ?_
  rintro e w1 ⟨rfl, hc1⟩
  replace hX := hX.later hc1
  have hb1 : Below w.heap.size w w1 := bchain (by repeat' (first | with_reducible exact hb0 | with_reducible refine Below.drew ?_ | with_reducible refine below_drewN ?_ _ | with_reducible refine Below.alloc ?_ (by have := hb0.size; first | (simp; done) | (simp; omega) | omega) _ | with_reducible refine Below.setCell ?_ (by first | (simp; done) | (simp; omega) | omega) _)) hc1
  clear hc1
  go_wp2_with fail
  with_reducible refine (H_hck.out _ (H_h.out.later hb1)).mono ?_
  rintro e w2 ⟨rfl, hc2⟩
  have hb2 : Below w.heap.size w w2 := bchain (by repeat' (first | with_reducible exact hb1 | with_reducible refine Below.drew ?_ | with_reducible refine below_drewN ?_ _ | with_reducible refine Below.alloc ?_ (by have := hb1.size; first | (simp; done) | (simp; omega) | omega) _ | with_reducible refine Below.setCell ?_ (by first | (simp; done) | (simp; omega) | omega) _)) hc2
  have hst2 : Below w1.heap.size w1 w2 := bchain (by repeat' (first | with_reducible exact Below.refl _ _ | with_reducible refine Below.drew ?_ | with_reducible refine below_drewN ?_ _ | with_reducible refine Below.alloc ?_ (by first | (simp; done) | (simp; omega) | omega) _ | with_reducible refine Below.setCell ?_ (by first | (simp; done) | (simp; omega) | omega) _)) hc2
  replace hX := hX.later hst2
  clear hst2
  clear hc2 hb1
  go_wp2_with (refine wpList_load_blk rfl 24 _ rfl w.heap.size (by rfl) 24 us _ hX Tryd.underlying24 rfl H_husi.out ?_)
  with_reducible refine (H_hpv.out _ (H_h.out.later hb2) (H_hT.out.later hb2)).mono ?_
  rintro e w3 ⟨⟨ba, bc, da, dc, rfl, hp⟩, hc3⟩
  have hb3 : Below w.heap.size w w3 := bchain (by repeat' (first | with_reducible exact hb2 | with_reducible refine Below.drew ?_ | with_reducible refine below_drewN ?_ _ | with_reducible refine Below.alloc ?_ (by have := hb2.size; first | (simp; done) | (simp; omega) | omega) _ | with_reducible refine Below.setCell ?_ (by first | (simp; done) | (simp; omega) | omega) _)) hc3
  have hst3 : Below w2.heap.size w2 w3 := bchain (by repeat' (first | with_reducible exact Below.refl _ _ | with_reducible refine Below.drew ?_ | with_reducible refine below_drewN ?_ _ | with_reducible refine Below.alloc ?_ (by first | (simp; done) | (simp; omega) | omega) _ | with_reducible refine Below.setCell ?_ (by first | (simp; done) | (simp; omega) | omega) _)) hc3
  replace hX := hX.later hst3
  clear hst3
  clear hc3
  obtain ⟨PV, hPV⟩ : ∃ PV, PV = prC ba nb bc da nb dc on false := ⟨_, rfl⟩
  have hPVl : PV.length = 35 := by rw [hPV]; exact prC_len H_hon.out
  have hPVi : (Tryd.prog.info? 41).map (·.size) = some PV.length := by rw [hPVl]; exact info35
  have hPV1 : ∀ u ∈ PV, u.oneCell' = true := by rw [hPV]; exact prC_one _ _ _ _ _ _ _ _
  have hP0 : PV[0]? = some (.slice ba nb bc) := by rw [hPV]; rfl
  have hP1 : PV[1]? = some (.slice da nb dc) := by rw [hPV]; rfl
  have hP2 : ∀ j u, vs[j]? = some u → PV[2 + j]? = some u := fun j u hj => by rw [hPV]; rw [H_hvs.out] at hj; exact prC_only j u hj
  have hP34 : PV[34]? = some (.bool false) := by rw [hPV]; exact prC_empty H_hon.out
  have hpr2 := fun W (h : ProofIn W A ba bc da dc) hT => H_hpr.out W ba da bc dc h hT
  have hvf2 := fun W (h : ProofIn W A ba bc da dc) hT => H_hvf.out W ba da bc dc h hT
  rw [← hPV] at hpr2 hvf2
  have H_hPV := Box.mk hPV
  have H_hPVl := Box.mk hPVl
  have H_hPVi := Box.mk hPVi
  have H_hPV1 := Box.mk hPV1
  have H_hP0 := Box.mk hP0
  have H_hP1 := Box.mk hP1
  have H_hP2 := Box.mk hP2
  have H_hP34 := Box.mk hP34
  have H_hpr2 := Box.mk hpr2
  have H_hvf2 := Box.mk hvf2
  clear hPV hPVl hPVi hPV1 hP0 hP1 hP2 hP34 hpr2 hvf2
  have hN3 := newPr w3 w3.heap.size rfl
  go_upto_region 5 with (refine wpList_store_blk rfl 41 _ _ rfl w3.heap.size (by rfl) 41 _ PV (by rw [H_hPV.out]; rfl) hN3 (by rw [H_hPVl.out]; rfl) H_hPVi.out H_hPV1.out ?_; intro w4 hP he4; have H4 := Box.mk he4; clear he4)
  have hc4 : Below w3.heap.size w3 w4 := H4.out ▸ below_setCells (Nat.le_refl _) _ _ _ ((Below.refl _ _).alloc (Nat.le_refl _) _)
  have hb4 : Below w.heap.size w w4 := bchain (by repeat' (first | with_reducible exact hb3 | with_reducible refine Below.drew ?_ | with_reducible refine below_drewN ?_ _ | with_reducible refine Below.alloc ?_ (by have := hb3.size; first | (simp; done) | (simp; omega) | omega) _ | with_reducible refine Below.setCell ?_ (by first | (simp; done) | (simp; omega) | omega) _)) hc4
  have hst4 : Below w3.heap.size w3 w4 := bchain (by repeat' (first | with_reducible exact Below.refl _ _ | with_reducible refine Below.drew ?_ | with_reducible refine below_drewN ?_ _ | with_reducible refine Below.alloc ?_ (by first | (simp; done) | (simp; omega) | omega) _ | with_reducible refine Below.setCell ?_ (by first | (simp; done) | (simp; omega) | omega) _)) hc4
  replace hX := hX.later hst4
  replace hp := hp.later hst4
  clear hst4
  clear hc4 hN3 H4
  go_wp2_with fail
  with_reducible refine (H_hro.out _ (H_h.out.later hb4) (H_hT.out.later hb4)).mono ?_
  rintro e w5 ⟨rfl, hc5⟩
  have hb5 : Below w.heap.size w w5 := bchain (by repeat' (first | with_reducible exact hb4 | with_reducible refine Below.drew ?_ | with_reducible refine below_drewN ?_ _ | with_reducible refine Below.alloc ?_ (by have := hb4.size; first | (simp; done) | (simp; omega) | omega) _ | with_reducible refine Below.setCell ?_ (by first | (simp; done) | (simp; omega) | omega) _)) hc5
  have hst5 : Below w4.heap.size w4 w5 := bchain (by repeat' (first | with_reducible exact Below.refl _ _ | with_reducible refine Below.drew ?_ | with_reducible refine below_drewN ?_ _ | with_reducible refine Below.alloc ?_ (by first | (simp; done) | (simp; omega) | omega) _ | with_reducible refine Below.setCell ?_ (by first | (simp; done) | (simp; omega) | omega) _)) hc5
  replace hX := hX.later hst5
  replace hp := hp.later hst5
  replace hP := hP.later hst5
  clear hst5
  clear hc5
  have hN5 := Blk.newA w5 w5.heap.size _ 24 (List.replicate 32 (Value.int .u8 0)) rfl rfl
  go_upto_region 6 with (refine wpList_store_blk rfl 24 _ _ rfl w5.heap.size (by rfl) 24 _ xr (by rfl) hN5 H_hxrr.out H_hxri.out H_hxro.out ?_; intro w6 hR he6; have H6 := Box.mk he6; clear he6)
  have hc6 : Below w5.heap.size w5 w6 := H6.out ▸ below_setCells (Nat.le_refl _) _ _ _ ((Below.refl _ _).alloc (Nat.le_refl _) _)
  have hb6 : Below w.heap.size w w6 := bchain (by repeat' (first | with_reducible exact hb5 | with_reducible refine Below.drew ?_ | with_reducible refine below_drewN ?_ _ | with_reducible refine Below.alloc ?_ (by have := hb5.size; first | (simp; done) | (simp; omega) | omega) _ | with_reducible refine Below.setCell ?_ (by first | (simp; done) | (simp; omega) | omega) _)) hc6
  have hst6 : Below w5.heap.size w5 w6 := bchain (by repeat' (first | with_reducible exact Below.refl _ _ | with_reducible refine Below.drew ?_ | with_reducible refine below_drewN ?_ _ | with_reducible refine Below.alloc ?_ (by first | (simp; done) | (simp; omega) | omega) _ | with_reducible refine Below.setCell ?_ (by first | (simp; done) | (simp; omega) | omega) _)) hc6
  replace hX := hX.later hst6
  replace hp := hp.later hst6
  replace hP := hP.later hst6
  clear hst6
  clear hc6 hN5 H6
  go_wp2_with (first | (refine wpList_load_blk rfl 24 _ rfl w.heap.size (by rfl) 24 us _ hX Tryd.underlying24 rfl H_husi.out ?_) | (refine wpList_load_blk rfl 41 _ rfl w3.heap.size (by rfl) 41 PV _ hP Tryd.underlying41 rfl H_hPVi.out ?_))
  with_reducible refine (H_hpr2.out _ hp (H_hT.out.later hb6)).mono ?_
  rintro e w7 ⟨rfl, hc7⟩
  have hb7 : Below w.heap.size w w7 := bchain (by repeat' (first | with_reducible exact hb6 | with_reducible refine Below.drew ?_ | with_reducible refine below_drewN ?_ _ | with_reducible refine Below.alloc ?_ (by have := hb6.size; first | (simp; done) | (simp; omega) | omega) _ | with_reducible refine Below.setCell ?_ (by first | (simp; done) | (simp; omega) | omega) _)) hc7
  have hst7 : Below w6.heap.size w6 w7 := bchain (by repeat' (first | with_reducible exact Below.refl _ _ | with_reducible refine Below.drew ?_ | with_reducible refine below_drewN ?_ _ | with_reducible refine Below.alloc ?_ (by first | (simp; done) | (simp; omega) | omega) _ | with_reducible refine Below.setCell ?_ (by first | (simp; done) | (simp; omega) | omega) _)) hc7
  replace hX := hX.later hst7
  replace hp := hp.later hst7
  replace hP := hP.later hst7
  replace hR := hR.later hst7
  clear hst7
  clear hc7
  have hN7 := Blk.newA w7 w7.heap.size _ 24 (List.replicate 32 (Value.int .u8 0)) rfl rfl
  go_upto_region 7 with (refine wpList_store_blk rfl 24 _ _ rfl w7.heap.size (by rfl) 24 _ xr (by rfl) hN7 H_hxrr.out H_hxri.out H_hxro.out ?_; intro w8 hR2 he8; have H8 := Box.mk he8; clear he8)
  have hc8 : Below w7.heap.size w7 w8 := H8.out ▸ below_setCells (Nat.le_refl _) _ _ _ ((Below.refl _ _).alloc (Nat.le_refl _) _)
  have hb8 : Below w.heap.size w w8 := bchain (by repeat' (first | with_reducible exact hb7 | with_reducible refine Below.drew ?_ | with_reducible refine below_drewN ?_ _ | with_reducible refine Below.alloc ?_ (by have := hb7.size; first | (simp; done) | (simp; omega) | omega) _ | with_reducible refine Below.setCell ?_ (by first | (simp; done) | (simp; omega) | omega) _)) hc8
  have hst8 : Below w7.heap.size w7 w8 := bchain (by repeat' (first | with_reducible exact Below.refl _ _ | with_reducible refine Below.drew ?_ | with_reducible refine below_drewN ?_ _ | with_reducible refine Below.alloc ?_ (by first | (simp; done) | (simp; omega) | omega) _ | with_reducible refine Below.setCell ?_ (by first | (simp; done) | (simp; omega) | omega) _)) hc8
  replace hX := hX.later hst8
  replace hp := hp.later hst8
  replace hP := hP.later hst8
  replace hR := hR.later hst8
  clear hst8
  clear hc8 hN7 H8
  go_wp2_with (first | (refine wpList_load_blk rfl 24 _ rfl w.heap.size (by rfl) 24 us _ hX Tryd.underlying24 rfl H_husi.out ?_) | (refine wpList_load_blk rfl 41 _ rfl w3.heap.size (by rfl) 41 PV _ hP Tryd.underlying41 rfl H_hPVi.out ?_) | (refine wpList_load_blk rfl 24 _ rfl w5.heap.size (by rfl) 24 xr _ hR Tryd.underlying24 rfl H_hxri.out ?_))
  with_reducible refine (H_hvf2.out _ hp (H_hT.out.later hb8)).mono ?_
  rintro e w9 ⟨rfl, hc9⟩
  have hb9 : Below w.heap.size w w9 := bchain (by repeat' (first | with_reducible exact hb8 | with_reducible refine Below.drew ?_ | with_reducible refine below_drewN ?_ _ | with_reducible refine Below.alloc ?_ (by have := hb8.size; first | (simp; done) | (simp; omega) | omega) _ | with_reducible refine Below.setCell ?_ (by first | (simp; done) | (simp; omega) | omega) _)) hc9
  have hst9 : Below w8.heap.size w8 w9 := bchain (by repeat' (first | with_reducible exact Below.refl _ _ | with_reducible refine Below.drew ?_ | with_reducible refine below_drewN ?_ _ | with_reducible refine Below.alloc ?_ (by first | (simp; done) | (simp; omega) | omega) _ | with_reducible refine Below.setCell ?_ (by first | (simp; done) | (simp; omega) | omega) _)) hc9
  replace hX := hX.later hst9
  replace hp := hp.later hst9
  replace hP := hP.later hst9
  replace hR := hR.later hst9
  replace hR2 := hR2.later hst9
  clear hst9
  clear hc9
  have heqr' := H_heqr.out
  go_wp2_with (first | (refine wpList_load_blkG (by first | rfl | (simp [Region.wanted]; done)) 24 _ rfl w7.heap.size (by rfl) 24 xr _ hR2 Tryd.underlying24 rfl H_hxri.out ?_) | (refine wpList_load_blkG (by first | rfl | (simp [Region.wanted]; done)) 24 _ rfl w5.heap.size (by rfl) 24 xr _ hR Tryd.underlying24 rfl H_hxri.out ?_) | (refine wpList_load_blkG (by first | rfl | (simp [Region.wanted]; done)) 24 _ rfl w.heap.size (by rfl) 24 us _ hX Tryd.underlying24 rfl H_husi.out ?_))
  with_reducible refine (H_hin.out _ (H_h.out.later hb9)).mono ?_
  rintro e w10 ⟨rfl, hc10⟩
  have hb10 : Below w.heap.size w w10 := bchain (by repeat' (first | with_reducible exact hb9 | with_reducible refine Below.drew ?_ | with_reducible refine below_drewN ?_ _ | with_reducible refine Below.alloc ?_ (by have := hb9.size; first | (simp; done) | (simp; omega) | omega) _ | with_reducible refine Below.setCell ?_ (by first | (simp; done) | (simp; omega) | omega) _)) hc10
  have hst10 : Below w9.heap.size w9 w10 := bchain (by repeat' (first | with_reducible exact Below.refl _ _ | with_reducible refine Below.drew ?_ | with_reducible refine below_drewN ?_ _ | with_reducible refine Below.alloc ?_ (by first | (simp; done) | (simp; omega) | omega) _ | with_reducible refine Below.setCell ?_ (by first | (simp; done) | (simp; omega) | omega) _)) hc10
  replace hX := hX.later hst10
  replace hp := hp.later hst10
  replace hP := hP.later hst10
  replace hR := hR.later hst10
  replace hR2 := hR2.later hst10
  clear hst10
  clear hc10
  clear heqr'
  have p0 := hP.cell H_hP0.out
  have p1 := hP.cell H_hP1.out
  have p34 := hP.cell H_hP34.out
  have hrv : w10.rangeAt w3.heap.size 2 vs := fun j v hj => hP.cell (H_hP2.out j v hj)
  go_wp2_with (refine wpList_load_midG (by first | rfl | (simp [Region.wanted]; done)) 24 _ rfl w3.heap.size 2 (by rfl) vs _ hrv Tryd.underlying24 rfl H_hvsi.out ?_)
  all_goals
    with_reducible refine (H_hin2.out _ (H_h.out.later hb10)).mono ?_
    rintro e w11 ⟨rfl, hc11⟩
    have hb11 : Below w.heap.size w w11 := bchain hb10 hc11
    clear hc11
    go_wp2_with fail
    go_ret
    exact ⟨rfl, hb11⟩
set_option maxHeartbeats 8000000 in
theorem proves_nil (A : ProofA) (a : Option Addr) (c : Nat) (id on : List Int) (w : World) (hid : IdIn id) (hon : IdIn on)
    (hA : proveZ [] id = ⟨A, false, 0⟩) (e1 : A.bits.length = 0) (e2 : A.beside.length = 0) (e3 : A.only = on) (e4 : A.empty = true) (hT : TabK w)
    (hpr : ∀ (W : World) (ba da : Option Addr) (bc dc : Nat), ProofIn W A ba bc da dc → TabK W → Calls Tryd.prog 26 #[.agg (idC id).toArray, .agg (prC ba 0 bc da 0 dc on true).toArray] W fun e w' => e = .returned (.tuple #[.agg (idC (rootP [])).toArray, .int .i64 0]) ∧ Below W.heap.size W w')
    (hvf : ∀ (W : World) (ba da : Option Addr) (bc dc : Nat), ProofIn W A ba bc da dc → TabK W → Calls Tryd.prog 27 #[.agg (idC (rootP [])).toArray, .agg (idC id).toArray, .agg (prC ba 0 bc da 0 dc on true).toArray] W fun e w' => e = .returned (.tuple #[.bool false, .int .i64 0]) ∧ Below W.heap.size W w') :
    Calls Tryd.prog 6 #[.slice a 0 c, .agg (idC id).toArray] w fun e w' =>
      e = .returned (.bool true) ∧ Below w.heap.size w w' := by
  obtain ⟨l, hl⟩ : ∃ l : List (List Int), l = [] := ⟨_, rfl⟩
  have hn : 0 = l.length := by rw [hl]; rfl
  have h : IdsIn w a c l := by rw [hl]; exact .nil _ _ _
  have hinc : IncL l := by rw [hl]; exact IncL.nil
  rw [← hl] at hA hpr hvf
  have hno : decide (id ∈ l) = false := by rw [hl]; simp
  clear hl
  have hck := fun W (hI : IdsIn W a c l) => rcheck_any l a 0 c W hI hn (by unfold maxLen; omega)
  have hro := fun W (hI : IdsIn W a c l) hT => Root_any l a 0 c W hI hn (by unfold maxLen; omega) hT
  have hpv := fun W (hI : IdsIn W a c l) hT => prove_any l id a 0 c W hI hn (by unfold maxLen; omega) hid hT
  have hin := fun W (hI : IdsIn W a c l) => in_any l id a 0 c W hI hid hn (by unfold maxLen; omega)
  rw [chk_of_inc hinc (by omega)] at hck
  rw [rootZ_of hinc (by omega)] at hro
  rw [hA] at hpv
  obtain ⟨us, hus⟩ : ∃ v, v = idC (id) := ⟨_, rfl⟩
  have husl := idC_len hid
  have husi := idC_info hid
  have huso := idC_one (id)
  rw [← hus] at husl husi huso
  have husr : us.length = (List.replicate 32 (Value.int .u8 0)).length := by rw [husl]; rfl
  obtain ⟨xr, hxr⟩ : ∃ v, v = idC (rootP l) := ⟨_, rfl⟩
  have hxrl := idC_len (rootP_id l)
  have hxri := idC_info (rootP_id l)
  have hxro := idC_one (rootP l)
  rw [← hxr] at hxrl hxri hxro
  have hxrr : xr.length = (List.replicate 32 (Value.int .u8 0)).length := by rw [hxrl]; rfl
  rw [← hus]
  simp only [← hxr] at hro hpr hvf
  simp only [← hus] at hpv hin hpr hvf
  have heqr : ∀ w, (Op.equalIn 10000 24 (.agg xr.toArray) (.agg xr.toArray)).run Tryd.prog w = .ok true w := fun w => by
    rw [hxr]; have := eq_ids _ _ (rootP_id l).len (rootP_id l).len w; rw [beq_self_eq_true] at this; exact this
  obtain ⟨vs, hvs⟩ : ∃ v, v = idC (on) := ⟨_, rfl⟩
  have hvsl := idC_len hon
  have hvsi := idC_info hon
  have hvso := idC_one (on)
  rw [← hvs] at hvsl hvsi hvso
  have hvsr : vs.length = (List.replicate 32 (Value.int .u8 0)).length := by rw [hvsl]; rfl
  rw [hno] at hin
  simp only [ProveR, e1, e2, e3, e4] at hpv
  have H_hck := Box.mk hck
  have H_hro := Box.mk hro
  have H_hpv := Box.mk hpv
  have H_hin := Box.mk hin
  have H_hpr := Box.mk hpr
  have H_hvf := Box.mk hvf
  have H_hus := Box.mk hus
  have H_husl := Box.mk husl
  have H_husi := Box.mk husi
  have H_huso := Box.mk huso
  have H_husr := Box.mk husr
  have H_hxr := Box.mk hxr
  have H_hxrl := Box.mk hxrl
  have H_hxri := Box.mk hxri
  have H_hxro := Box.mk hxro
  have H_hxrr := Box.mk hxrr
  have H_hvs := Box.mk hvs
  have H_hvsl := Box.mk hvsl
  have H_hvsi := Box.mk hvsi
  have H_hvso := Box.mk hvso
  have H_hvsr := Box.mk hvsr
  have H_heqr := Box.mk heqr
  have H_h := Box.mk h
  have H_hn := Box.mk hn
  have H_hinc := Box.mk hinc
  have H_hid := Box.mk hid
  have H_hon := Box.mk hon
  have H_hA := Box.mk hA
  have H_e1 := Box.mk e1
  have H_e2 := Box.mk e2
  have H_e3 := Box.mk e3
  have H_e4 := Box.mk e4
  have H_hno := Box.mk hno
  clear hck hro hpv hin hpr hvf hus husl husi huso husr hxr hxrl hxri hxro hxrr hvs hvsl hvsi hvso hvsr heqr h hn hinc hid hon hA e1 e2 e3 e4 hno
  have hal := fun W (h : TabK W) => alive_any W h
  have H_hal := Box.mk hal
  have H_hT := Box.mk hT
  clear hal hT
  go_enter Tryd.func6, Tryd.ntmps6
  have hb0 := Below.refl w.heap.size w
  have hX := Blk.newA w w.heap.size _ 24 us rfl rfl
  go_wp2_with fail
  with_reducible refine (H_hal.out _ (H_hT.out.later (by repeat' (first | with_reducible exact hb0 | with_reducible refine Below.drew ?_ | with_reducible refine below_drewN ?_ _ | with_reducible refine Below.alloc ?_ (by have := hb0.size; first | (simp; done) | (simp; omega) | omega) _ | with_reducible refine Below.setCell ?_ (by first | (simp; done) | (simp; omega) | omega) _)))).mono ?_
  rintro e w1 ⟨rfl, hc1⟩
  replace hX := hX.later hc1
  have hb1 : Below w.heap.size w w1 := bchain (by repeat' (first | with_reducible exact hb0 | with_reducible refine Below.drew ?_ | with_reducible refine below_drewN ?_ _ | with_reducible refine Below.alloc ?_ (by have := hb0.size; first | (simp; done) | (simp; omega) | omega) _ | with_reducible refine Below.setCell ?_ (by first | (simp; done) | (simp; omega) | omega) _)) hc1
  clear hc1
  go_wp2_with fail
  with_reducible refine (H_hck.out _ (H_h.out.later hb1)).mono ?_
  rintro e w2 ⟨rfl, hc2⟩
  have hb2 : Below w.heap.size w w2 := bchain (by repeat' (first | with_reducible exact hb1 | with_reducible refine Below.drew ?_ | with_reducible refine below_drewN ?_ _ | with_reducible refine Below.alloc ?_ (by have := hb1.size; first | (simp; done) | (simp; omega) | omega) _ | with_reducible refine Below.setCell ?_ (by first | (simp; done) | (simp; omega) | omega) _)) hc2
  have hst2 : Below w1.heap.size w1 w2 := bchain (by repeat' (first | with_reducible exact Below.refl _ _ | with_reducible refine Below.drew ?_ | with_reducible refine below_drewN ?_ _ | with_reducible refine Below.alloc ?_ (by first | (simp; done) | (simp; omega) | omega) _ | with_reducible refine Below.setCell ?_ (by first | (simp; done) | (simp; omega) | omega) _)) hc2
  replace hX := hX.later hst2
  clear hst2
  clear hc2 hb1
  go_wp2_with (refine wpList_load_blk rfl 24 _ rfl w.heap.size (by rfl) 24 us _ hX Tryd.underlying24 rfl H_husi.out ?_)
  with_reducible refine (H_hpv.out _ (H_h.out.later hb2) (H_hT.out.later hb2)).mono ?_
  rintro e w3 ⟨⟨ba, bc, da, dc, rfl, hp⟩, hc3⟩
  have hb3 : Below w.heap.size w w3 := bchain (by repeat' (first | with_reducible exact hb2 | with_reducible refine Below.drew ?_ | with_reducible refine below_drewN ?_ _ | with_reducible refine Below.alloc ?_ (by have := hb2.size; first | (simp; done) | (simp; omega) | omega) _ | with_reducible refine Below.setCell ?_ (by first | (simp; done) | (simp; omega) | omega) _)) hc3
  have hst3 : Below w2.heap.size w2 w3 := bchain (by repeat' (first | with_reducible exact Below.refl _ _ | with_reducible refine Below.drew ?_ | with_reducible refine below_drewN ?_ _ | with_reducible refine Below.alloc ?_ (by first | (simp; done) | (simp; omega) | omega) _ | with_reducible refine Below.setCell ?_ (by first | (simp; done) | (simp; omega) | omega) _)) hc3
  replace hX := hX.later hst3
  clear hst3
  clear hc3
  obtain ⟨PV, hPV⟩ : ∃ PV, PV = prC ba 0 bc da 0 dc on true := ⟨_, rfl⟩
  have hPVl : PV.length = 35 := by rw [hPV]; exact prC_len H_hon.out
  have hPVi : (Tryd.prog.info? 41).map (·.size) = some PV.length := by rw [hPVl]; exact info35
  have hPV1 : ∀ u ∈ PV, u.oneCell' = true := by rw [hPV]; exact prC_one _ _ _ _ _ _ _ _
  have hP0 : PV[0]? = some (.slice ba 0 bc) := by rw [hPV]; rfl
  have hP1 : PV[1]? = some (.slice da 0 dc) := by rw [hPV]; rfl
  have hP2 : ∀ j u, vs[j]? = some u → PV[2 + j]? = some u := fun j u hj => by rw [hPV]; rw [H_hvs.out] at hj; exact prC_only j u hj
  have hP34 : PV[34]? = some (.bool true) := by rw [hPV]; exact prC_empty H_hon.out
  have hpr2 := fun W (h : ProofIn W A ba bc da dc) hT => H_hpr.out W ba da bc dc h hT
  have hvf2 := fun W (h : ProofIn W A ba bc da dc) hT => H_hvf.out W ba da bc dc h hT
  rw [← hPV] at hpr2 hvf2
  have H_hPV := Box.mk hPV
  have H_hPVl := Box.mk hPVl
  have H_hPVi := Box.mk hPVi
  have H_hPV1 := Box.mk hPV1
  have H_hP0 := Box.mk hP0
  have H_hP1 := Box.mk hP1
  have H_hP2 := Box.mk hP2
  have H_hP34 := Box.mk hP34
  have H_hpr2 := Box.mk hpr2
  have H_hvf2 := Box.mk hvf2
  clear hPV hPVl hPVi hPV1 hP0 hP1 hP2 hP34 hpr2 hvf2
  have hN3 := newPr w3 w3.heap.size rfl
  go_upto_region 5 with (refine wpList_store_blk rfl 41 _ _ rfl w3.heap.size (by rfl) 41 _ PV (by rw [H_hPV.out]; rfl) hN3 (by rw [H_hPVl.out]; rfl) H_hPVi.out H_hPV1.out ?_; intro w4 hP he4; have H4 := Box.mk he4; clear he4)
  have hc4 : Below w3.heap.size w3 w4 := H4.out ▸ below_setCells (Nat.le_refl _) _ _ _ ((Below.refl _ _).alloc (Nat.le_refl _) _)
  have hb4 : Below w.heap.size w w4 := bchain (by repeat' (first | with_reducible exact hb3 | with_reducible refine Below.drew ?_ | with_reducible refine below_drewN ?_ _ | with_reducible refine Below.alloc ?_ (by have := hb3.size; first | (simp; done) | (simp; omega) | omega) _ | with_reducible refine Below.setCell ?_ (by first | (simp; done) | (simp; omega) | omega) _)) hc4
  have hst4 : Below w3.heap.size w3 w4 := bchain (by repeat' (first | with_reducible exact Below.refl _ _ | with_reducible refine Below.drew ?_ | with_reducible refine below_drewN ?_ _ | with_reducible refine Below.alloc ?_ (by first | (simp; done) | (simp; omega) | omega) _ | with_reducible refine Below.setCell ?_ (by first | (simp; done) | (simp; omega) | omega) _)) hc4
  replace hX := hX.later hst4
  replace hp := hp.later hst4
  clear hst4
  clear hc4 hN3 H4
  go_wp2_with fail
  with_reducible refine (H_hro.out _ (H_h.out.later hb4) (H_hT.out.later hb4)).mono ?_
  rintro e w5 ⟨rfl, hc5⟩
  have hb5 : Below w.heap.size w w5 := bchain (by repeat' (first | with_reducible exact hb4 | with_reducible refine Below.drew ?_ | with_reducible refine below_drewN ?_ _ | with_reducible refine Below.alloc ?_ (by have := hb4.size; first | (simp; done) | (simp; omega) | omega) _ | with_reducible refine Below.setCell ?_ (by first | (simp; done) | (simp; omega) | omega) _)) hc5
  have hst5 : Below w4.heap.size w4 w5 := bchain (by repeat' (first | with_reducible exact Below.refl _ _ | with_reducible refine Below.drew ?_ | with_reducible refine below_drewN ?_ _ | with_reducible refine Below.alloc ?_ (by first | (simp; done) | (simp; omega) | omega) _ | with_reducible refine Below.setCell ?_ (by first | (simp; done) | (simp; omega) | omega) _)) hc5
  replace hX := hX.later hst5
  replace hp := hp.later hst5
  replace hP := hP.later hst5
  clear hst5
  clear hc5
  have hN5 := Blk.newA w5 w5.heap.size _ 24 (List.replicate 32 (Value.int .u8 0)) rfl rfl
  go_upto_region 6 with (refine wpList_store_blk rfl 24 _ _ rfl w5.heap.size (by rfl) 24 _ xr (by rfl) hN5 H_hxrr.out H_hxri.out H_hxro.out ?_; intro w6 hR he6; have H6 := Box.mk he6; clear he6)
  have hc6 : Below w5.heap.size w5 w6 := H6.out ▸ below_setCells (Nat.le_refl _) _ _ _ ((Below.refl _ _).alloc (Nat.le_refl _) _)
  have hb6 : Below w.heap.size w w6 := bchain (by repeat' (first | with_reducible exact hb5 | with_reducible refine Below.drew ?_ | with_reducible refine below_drewN ?_ _ | with_reducible refine Below.alloc ?_ (by have := hb5.size; first | (simp; done) | (simp; omega) | omega) _ | with_reducible refine Below.setCell ?_ (by first | (simp; done) | (simp; omega) | omega) _)) hc6
  have hst6 : Below w5.heap.size w5 w6 := bchain (by repeat' (first | with_reducible exact Below.refl _ _ | with_reducible refine Below.drew ?_ | with_reducible refine below_drewN ?_ _ | with_reducible refine Below.alloc ?_ (by first | (simp; done) | (simp; omega) | omega) _ | with_reducible refine Below.setCell ?_ (by first | (simp; done) | (simp; omega) | omega) _)) hc6
  replace hX := hX.later hst6
  replace hp := hp.later hst6
  replace hP := hP.later hst6
  clear hst6
  clear hc6 hN5 H6
  go_wp2_with (first | (refine wpList_load_blk rfl 24 _ rfl w.heap.size (by rfl) 24 us _ hX Tryd.underlying24 rfl H_husi.out ?_) | (refine wpList_load_blk rfl 41 _ rfl w3.heap.size (by rfl) 41 PV _ hP Tryd.underlying41 rfl H_hPVi.out ?_))
  with_reducible refine (H_hpr2.out _ hp (H_hT.out.later hb6)).mono ?_
  rintro e w7 ⟨rfl, hc7⟩
  have hb7 : Below w.heap.size w w7 := bchain (by repeat' (first | with_reducible exact hb6 | with_reducible refine Below.drew ?_ | with_reducible refine below_drewN ?_ _ | with_reducible refine Below.alloc ?_ (by have := hb6.size; first | (simp; done) | (simp; omega) | omega) _ | with_reducible refine Below.setCell ?_ (by first | (simp; done) | (simp; omega) | omega) _)) hc7
  have hst7 : Below w6.heap.size w6 w7 := bchain (by repeat' (first | with_reducible exact Below.refl _ _ | with_reducible refine Below.drew ?_ | with_reducible refine below_drewN ?_ _ | with_reducible refine Below.alloc ?_ (by first | (simp; done) | (simp; omega) | omega) _ | with_reducible refine Below.setCell ?_ (by first | (simp; done) | (simp; omega) | omega) _)) hc7
  replace hX := hX.later hst7
  replace hp := hp.later hst7
  replace hP := hP.later hst7
  replace hR := hR.later hst7
  clear hst7
  clear hc7
  have hN7 := Blk.newA w7 w7.heap.size _ 24 (List.replicate 32 (Value.int .u8 0)) rfl rfl
  go_upto_region 7 with (refine wpList_store_blk rfl 24 _ _ rfl w7.heap.size (by rfl) 24 _ xr (by rfl) hN7 H_hxrr.out H_hxri.out H_hxro.out ?_; intro w8 hR2 he8; have H8 := Box.mk he8; clear he8)
  have hc8 : Below w7.heap.size w7 w8 := H8.out ▸ below_setCells (Nat.le_refl _) _ _ _ ((Below.refl _ _).alloc (Nat.le_refl _) _)
  have hb8 : Below w.heap.size w w8 := bchain (by repeat' (first | with_reducible exact hb7 | with_reducible refine Below.drew ?_ | with_reducible refine below_drewN ?_ _ | with_reducible refine Below.alloc ?_ (by have := hb7.size; first | (simp; done) | (simp; omega) | omega) _ | with_reducible refine Below.setCell ?_ (by first | (simp; done) | (simp; omega) | omega) _)) hc8
  have hst8 : Below w7.heap.size w7 w8 := bchain (by repeat' (first | with_reducible exact Below.refl _ _ | with_reducible refine Below.drew ?_ | with_reducible refine below_drewN ?_ _ | with_reducible refine Below.alloc ?_ (by first | (simp; done) | (simp; omega) | omega) _ | with_reducible refine Below.setCell ?_ (by first | (simp; done) | (simp; omega) | omega) _)) hc8
  replace hX := hX.later hst8
  replace hp := hp.later hst8
  replace hP := hP.later hst8
  replace hR := hR.later hst8
  clear hst8
  clear hc8 hN7 H8
  go_wp2_with (first | (refine wpList_load_blk rfl 24 _ rfl w.heap.size (by rfl) 24 us _ hX Tryd.underlying24 rfl H_husi.out ?_) | (refine wpList_load_blk rfl 41 _ rfl w3.heap.size (by rfl) 41 PV _ hP Tryd.underlying41 rfl H_hPVi.out ?_) | (refine wpList_load_blk rfl 24 _ rfl w5.heap.size (by rfl) 24 xr _ hR Tryd.underlying24 rfl H_hxri.out ?_))
  with_reducible refine (H_hvf2.out _ hp (H_hT.out.later hb8)).mono ?_
  rintro e w9 ⟨rfl, hc9⟩
  have hb9 : Below w.heap.size w w9 := bchain (by repeat' (first | with_reducible exact hb8 | with_reducible refine Below.drew ?_ | with_reducible refine below_drewN ?_ _ | with_reducible refine Below.alloc ?_ (by have := hb8.size; first | (simp; done) | (simp; omega) | omega) _ | with_reducible refine Below.setCell ?_ (by first | (simp; done) | (simp; omega) | omega) _)) hc9
  have hst9 : Below w8.heap.size w8 w9 := bchain (by repeat' (first | with_reducible exact Below.refl _ _ | with_reducible refine Below.drew ?_ | with_reducible refine below_drewN ?_ _ | with_reducible refine Below.alloc ?_ (by first | (simp; done) | (simp; omega) | omega) _ | with_reducible refine Below.setCell ?_ (by first | (simp; done) | (simp; omega) | omega) _)) hc9
  replace hX := hX.later hst9
  replace hp := hp.later hst9
  replace hP := hP.later hst9
  replace hR := hR.later hst9
  replace hR2 := hR2.later hst9
  clear hst9
  clear hc9
  have heqr' := H_heqr.out
  go_wp2_with (first | (refine wpList_load_blkG (by first | rfl | (simp [Region.wanted]; done)) 24 _ rfl w7.heap.size (by rfl) 24 xr _ hR2 Tryd.underlying24 rfl H_hxri.out ?_) | (refine wpList_load_blkG (by first | rfl | (simp [Region.wanted]; done)) 24 _ rfl w5.heap.size (by rfl) 24 xr _ hR Tryd.underlying24 rfl H_hxri.out ?_) | (refine wpList_load_blkG (by first | rfl | (simp [Region.wanted]; done)) 24 _ rfl w.heap.size (by rfl) 24 us _ hX Tryd.underlying24 rfl H_husi.out ?_))
  with_reducible refine (H_hin.out _ (H_h.out.later hb9)).mono ?_
  rintro e w10 ⟨rfl, hc10⟩
  have hb10 : Below w.heap.size w w10 := bchain (by repeat' (first | with_reducible exact hb9 | with_reducible refine Below.drew ?_ | with_reducible refine below_drewN ?_ _ | with_reducible refine Below.alloc ?_ (by have := hb9.size; first | (simp; done) | (simp; omega) | omega) _ | with_reducible refine Below.setCell ?_ (by first | (simp; done) | (simp; omega) | omega) _)) hc10
  have hst10 : Below w9.heap.size w9 w10 := bchain (by repeat' (first | with_reducible exact Below.refl _ _ | with_reducible refine Below.drew ?_ | with_reducible refine below_drewN ?_ _ | with_reducible refine Below.alloc ?_ (by first | (simp; done) | (simp; omega) | omega) _ | with_reducible refine Below.setCell ?_ (by first | (simp; done) | (simp; omega) | omega) _)) hc10
  replace hX := hX.later hst10
  replace hp := hp.later hst10
  replace hP := hP.later hst10
  replace hR := hR.later hst10
  replace hR2 := hR2.later hst10
  clear hst10
  clear hc10
  clear heqr'
  have p0 := hP.cell H_hP0.out
  have p1 := hP.cell H_hP1.out
  have p34 := hP.cell H_hP34.out
  have hrv : w10.rangeAt w3.heap.size 2 vs := fun j v hj => hP.cell (H_hP2.out j v hj)
  clear hrv
  go_wp2_with fail
  go_ret
  exact ⟨rfl, hb10⟩
theorem proves_full (l : List (List Int)) (a : Option Addr) (c : Nat) (id : List Int) (w : World) (h : IdsIn w a c l ∧ l.length ≤ maxLen) (hid : IdIn id) (hK : CellsAt w (some ⟨1, 0, none⟩) (kcs.map (Value.int .u32)) ∧ 1 < w.heap.size) :
    Calls Tryd.prog 6 #[.slice a l.length c, .agg (id.map (Value.int .u8)).toArray] w fun e w' =>
      e = .returned (.bool true) ∧ Below w.heap.size w w' := by
  have hT : TabK w := ⟨hK.1, hK.2⟩
  show Calls _ _ #[.slice a l.length c, .agg (idC id).toArray] _ _
  by_cases h16 : l.length ≤ 16
  · by_cases hz : chkZ l = 0
    · obtain ⟨hinc, hl⟩ := inc_of_chk h.1.ids hz
      by_cases h0 : l.length = 0
      · obtain rfl : l = [] := List.eq_nil_of_length_eq_zero h0
        have hpr := fun (W : World) (ba da : Option Addr) (bc dc : Nat) (hp : ProofIn W proofE ba bc da dc) (hT : TabK W) => proofRoot_empty proofE id ba da bc dc W hid (proofE_ok id) rfl
        rw [← rootP_nil] at hpr
        refine proves_nil proofE a c id _ w hid zeroIdIn (proveZ_nil id) rfl rfl rfl rfl hT (fun W ba da bc dc h1 h2 => hpr W ba da bc dc h1 h2) (fun W ba da bc dc h1 h2 => ?_)
        exact verify_ok proofE id (rootP []) ba da bc dc 0 0 _ W hid (rootP_id _) zeroIdIn rfl h1 (fun W' h3 h4 => hpr W' ba da bc dc h3 (h2.later h4))
      · obtain ⟨bs, hF⟩ := prov_ok l.length l id rfl hinc (by omega)
        have hla : (provP l id).bits.length = bs.length := by rw [hF.bits, List.length_map]
        have hlb := hF.len
        have hle := hF.le
        have hpr := fun (W : World) (ba da : Option Addr) (bc dc : Nat) (hp : ProofIn W (provP l id) ba bc da dc) (hT : TabK W) => proot_any (provP l id) id [] l bs ba da bc dc W hF hinc hl hid hp hT
        have hib : ((provP l id).only == id) = decide (id ∈ l) := by rw [Bool.eq_iff_iff]; simp [hF.is]
        refine proves_main (provP l id) (decide (id ∈ l)) l a _ c bs.length id _ _ w h.1 rfl h16 (by omega) (by omega) hinc hid (hinc.ids _ hF.mem) hF.emp hF.mem (proveZ_of hinc hl (by omega) hF) rfl hla hlb rfl rfl hT (fun W ba da bc dc h1 h2 => ?_) (fun W ba da bc dc h1 h2 => ?_)
        · have := hpr W ba da bc dc h1 h2
          rw [hla, hlb] at this; exact this
        · have := verify_ok (provP l id) id (rootP l) ba da bc dc bs.length bs.length _ W hid (rootP_id _) (hinc.ids _ hF.mem) hib h1 (fun W' h3 h4 => by
            have := hpr W' ba da bc dc h3 (h2.later h4)
            rw [hla, hlb] at this; exact this)
          rw [show (!(provP l id).empty && decide (id ∈ l)) = decide (id ∈ l) by rw [hF.emp]; simp] at this
          exact this
    · exact proves_bad l a _ c id w h.1 rfl h16 hz hid hT
  · exact proves_big l a _ c id w (by omega) hid hT

end Go.Proofs.YtfabcdpmnbeflaaDoor
