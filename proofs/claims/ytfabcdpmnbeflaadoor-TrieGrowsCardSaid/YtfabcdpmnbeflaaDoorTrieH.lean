/- TrieH: TrieDown3, TrieDownOk, TrieRApart, TrieFoundP, TrieFoundW. -/
import Derived.Test.YtfabcdpmnbeflaaDoorTrieF
import Derived.Test.YtfabcdpmnbeflaaDoorTrieR
import Derived.Test.YtfabcdpmnbeflaaDoorTrieG
/- down: two lists that are descended further. -/
namespace Go.Proofs.YtfabcdpmnbeflaaDoor
set_option linter.unusedSimpArgs false
set_option linter.unusedVariables false
set_option linter.unnecessarySimpa false
open Go.RowKit Go.Sort
set_option maxRecDepth 100000

def sl12 : List Tmp := [76, 77, 78, 79, 80, 81, 82, 83, 84, 10, 11]
def val12 (aa : Option Addr) (n ac b1 of1 k : Nat) (us ul : List Value) (b9 b10 : Nat) : Nat → Value
  | 0 => .slice aa n ac
  | 1 => .pointer (some ⟨b1, of1, none⟩)
  | 2 => .agg us.toArray
  | 3 => .slice aa n ac
  | 4 => .slice aa n ac
  | 5 => .int .i64 n
  | 6 => .int .i64 k
  | 7 => .pointer (some ⟨b1, of1 + k * 32, none⟩)
  | 8 => .agg ul.toArray
  | 9 => .pointer (some ⟨b9, 0, none⟩)
  | _ => .pointer (some ⟨b10, 0, none⟩)
def zeros32 : List Value := List.replicate 32 (Value.int .u8 0)
/-- Region 12: what holds whatever the order. -/
structure I12 (a0 : Act) (w0 : World) (aa : Option Addr) (n ac b1 of1 k : Nat) (us ul : List Value) (listed : Array Bool) (act : Act) (W : World) (b9 b10 : Nat) : Prop where
  fr : RegI a0 sl12 (val12 aa n ac b1 of1 k us ul b9 b10) listed act
  bel : Below w0.heap.size w0 W
  p9 : listed.getD 9 false = true → Blk W b9 24 (cond (listed.getD 11 false) us zeros32) ∧ w0.heap.size ≤ b9
  p10 : listed.getD 10 false = true → Blk W b10 24 (cond (listed.getD 12 false) ul zeros32) ∧ w0.heap.size ≤ b10
  ne : listed.getD 9 false = true → listed.getD 10 false = true → b9 ≠ b10
  c11 : listed.getD 11 false = true → listed.getD 9 false = true
  c12 : listed.getD 12 false = true → listed.getD 10 false = true
  sz : listed.size = 13
theorem I12.quiet {a0 act : Act} {w0 W : World} {aa : Option Addr} {n ac b1 of1 k : Nat} {us ul : List Value} {listed : Array Bool} {b9 b10 i : Nat} {s : Tmp} (h : I12 a0 w0 aa n ac b1 of1 k us ul listed act W b9 b10) (hi : sl12[i]? = some s) (h9 : i < 9) (hs : s < a0.tmps.size) (u : Value) (hu : u = val12 aa n ac b1 of1 k us ul b9 b10 i) :
    I12 a0 w0 aa n ac b1 of1 k us ul (listed.setIfInBounds i true) (act.put (some s) u) W b9 b10 := by
  refine ⟨h.fr.put (by decide) hi hs u hu, h.bel, ?_, ?_, ?_, ?_, ?_, by rw [Array.size_setIfInBounds]; exact h.sz⟩
  · rw [getD_set_other (by omega), getD_set_other (by omega)]; exact h.p9
  · rw [getD_set_other (by omega), getD_set_other (by omega)]; exact h.p10
  · rw [getD_set_other (by omega), getD_set_other (by omega)]; exact h.ne
  · rw [getD_set_other (by omega), getD_set_other (by omega)]; exact h.c11
  · rw [getD_set_other (by omega), getD_set_other (by omega)]; exact h.c12
theorem I12.alloc9 {a0 act : Act} {w0 W : World} {aa : Option Addr} {n ac b1 of1 k : Nat} {us ul : List Value} {listed : Array Bool} {b9 b10 : Nat} (h : I12 a0 w0 aa n ac b1 of1 k us ul listed act W b9 b10) (hun : listed.getD 9 false = false) (hs : 10 < a0.tmps.size) :
    I12 a0 w0 aa n ac b1 of1 k us ul (listed.setIfInBounds 9 true) (act.put (some 10) (.pointer (some ⟨W.heap.size, 0, none⟩))) (W.alloc (.cells zeros32.toArray 24)) W.heap.size b10 := by
  have h11 : listed.getD 11 false = false := by
    cases e : listed.getD 11 false with
    | false => rfl
    | true => rw [h.c11 e] at hun; cases hun
  have hfr : RegI a0 sl12 (val12 aa n ac b1 of1 k us ul W.heap.size b10) listed act := h.fr.val fun j _ hj => by
    match j with
    | 0 | 1 | 2 | 3 | 4 | 5 | 6 | 7 | 8 => rfl
    | 9 => rw [hj] at hun; cases hun
    | _ + 10 => rfl
  refine ⟨hfr.put (by decide) (i := 9) rfl hs _ rfl, h.bel.alloc h.bel.size _, fun _ => ?_, ?_, ?_, ?_, ?_, by rw [Array.size_setIfInBounds]; exact h.sz⟩
  · rw [getD_set_other (by omega), h11]
    exact ⟨Blk.newA W _ _ _ zeros32 rfl rfl, h.bel.size⟩
  · rw [getD_set_other (by omega), getD_set_other (by omega)]; exact fun hl => ⟨(h.p10 hl).1.alloc _, (h.p10 hl).2⟩
  · rw [getD_set_other (j := 10) (by omega)]; exact fun _ hl e => by have := (h.p10 hl).1.lt; omega
  · rw [getD_set_other (j := 11) (by omega), h11]; intro e; cases e
  · rw [getD_set_other (by omega), getD_set_other (by omega)]; exact h.c12
theorem I12.alloc10 {a0 act : Act} {w0 W : World} {aa : Option Addr} {n ac b1 of1 k : Nat} {us ul : List Value} {listed : Array Bool} {b9 b10 : Nat} (h : I12 a0 w0 aa n ac b1 of1 k us ul listed act W b9 b10) (hun : listed.getD 10 false = false) (hs : 11 < a0.tmps.size) :
    I12 a0 w0 aa n ac b1 of1 k us ul (listed.setIfInBounds 10 true) (act.put (some 11) (.pointer (some ⟨W.heap.size, 0, none⟩))) (W.alloc (.cells zeros32.toArray 24)) b9 W.heap.size := by
  have h12 : listed.getD 12 false = false := by
    cases e : listed.getD 12 false with
    | false => rfl
    | true => rw [h.c12 e] at hun; cases hun
  have hfr : RegI a0 sl12 (val12 aa n ac b1 of1 k us ul b9 W.heap.size) listed act := h.fr.val fun j hjl hj => by
    match j, hjl with
    | 0, _ | 1, _ | 2, _ | 3, _ | 4, _ | 5, _ | 6, _ | 7, _ | 8, _ | 9, _ => rfl
    | 10, _ => rw [hj] at hun; cases hun
    | j + 11, hl => have e : sl12.length = 11 := rfl; omega
  refine ⟨hfr.put (by decide) (i := 10) rfl hs _ rfl, h.bel.alloc h.bel.size _, ?_, fun _ => ?_, ?_, ?_, ?_, by rw [Array.size_setIfInBounds]; exact h.sz⟩
  · rw [getD_set_other (by omega), getD_set_other (by omega)]; exact fun hl => ⟨(h.p9 hl).1.alloc _, (h.p9 hl).2⟩
  · rw [getD_set_other (by omega), h12]
    exact ⟨Blk.newA W _ _ _ zeros32 rfl rfl, h.bel.size⟩
  · rw [getD_set_other (j := 9) (by omega)]; exact fun hl _ e => by have := (h.p9 hl).1.lt; omega
  · rw [getD_set_other (by omega), getD_set_other (by omega)]; exact h.c11
  · rw [getD_set_other (j := 12) (by omega), h12]; intro e; cases e
theorem I12.store11 {a0 act : Act} {w0 W : World} {aa : Option Addr} {n ac b1 of1 k : Nat} {us ul : List Value} {listed : Array Bool} {b9 b10 : Nat} (h : I12 a0 w0 aa n ac b1 of1 k us ul listed act W b9 b10) (h9 : listed.getD 9 false = true) (hun : listed.getD 11 false = false) (hl : us.length = 32) (u : Value) :
    I12 a0 w0 aa n ac b1 of1 k us ul (listed.setIfInBounds 11 true) (act.put none u) (W.setCells b9 0 us) b9 b10 := by
  refine ⟨h.fr.skip (by decide) u, below_setCells (h.p9 h9).2 _ _ _ h.bel, fun _ => ?_, ?_, ?_, ?_, ?_, by rw [Array.size_setIfInBounds]; exact h.sz⟩
  · rw [getD_set_same_true (by have := h.sz; omega)]
    have := h.p9 h9
    rw [hun] at this
    exact ⟨this.1.setAll (by rw [hl]; rfl), this.2⟩
  · rw [getD_set_other (by omega), getD_set_other (by omega)]
    exact fun hl => ⟨Blk.setCellsFar (fun e => h.ne h9 hl e.symm) _ _ _ (h.p10 hl).1, (h.p10 hl).2⟩
  · rw [getD_set_other (by omega), getD_set_other (by omega)]; exact h.ne
  · rw [getD_set_other (j := 9) (by omega)]; exact fun _ => h9
  · rw [getD_set_other (by omega), getD_set_other (by omega)]; exact h.c12
theorem I12.store12 {a0 act : Act} {w0 W : World} {aa : Option Addr} {n ac b1 of1 k : Nat} {us ul : List Value} {listed : Array Bool} {b9 b10 : Nat} (h : I12 a0 w0 aa n ac b1 of1 k us ul listed act W b9 b10) (h10 : listed.getD 10 false = true) (hun : listed.getD 12 false = false) (hl : ul.length = 32) (u : Value) :
    I12 a0 w0 aa n ac b1 of1 k us ul (listed.setIfInBounds 12 true) (act.put none u) (W.setCells b10 0 ul) b9 b10 := by
  refine ⟨h.fr.skip (by decide) u, below_setCells (h.p10 h10).2 _ _ _ h.bel, ?_, fun _ => ?_, ?_, ?_, ?_, by rw [Array.size_setIfInBounds]; exact h.sz⟩
  · rw [getD_set_other (by omega), getD_set_other (by omega)]
    exact fun hl => ⟨Blk.setCellsFar (fun e => h.ne hl h10 e) _ _ _ (h.p9 hl).1, (h.p9 hl).2⟩
  · rw [getD_set_same_true (by have := h.sz; omega)]
    have := h.p10 h10
    rw [hun] at this
    exact ⟨this.1.setAll (by rw [hl]; rfl), this.2⟩
  · rw [getD_set_other (by omega), getD_set_other (by omega)]; exact h.ne
  · rw [getD_set_other (by omega), getD_set_other (by omega)]; exact h.c11
  · rw [getD_set_other (j := 10) (by omega)]; exact fun _ => h10
/-- Region 12's end. -/
theorem I12.done {a0 act : Act} {w0 W : World} {aa : Option Addr} {n ac b1 of1 k : Nat} {us ul : List Value} {listed : Array Bool} {b9 b10 : Nat} (h : I12 a0 w0 aa n ac b1 of1 k us ul listed act W b9 b10) (hall : ∀ j, j < 13 → listed.getD j false = true) :
    act = putAll a0 (sl12.zip ((List.range 11).map (val12 aa n ac b1 of1 k us ul b9 b10))) ∧ Below w0.heap.size w0 W ∧ Blk W b9 24 us ∧ Blk W b10 24 ul ∧ b9 ≠ b10 ∧ w0.heap.size ≤ b9 ∧ w0.heap.size ≤ b10 := by
  have p9 := h.p9 (hall 9 (by omega))
  have p10 := h.p10 (hall 10 (by omega))
  rw [hall 11 (by omega)] at p9
  rw [hall 12 (by omega)] at p10
  refine ⟨?_, h.bel, p9.1, p10.1, h.ne (hall 9 (by omega)) (hall 10 (by omega)), p9.2, p10.2⟩
  have hv : ∀ j s, sl12[j]? = some s → act.eval (.tmp s) = val12 aa n ac b1 of1 k us ul b9 b10 j := fun j s hj => h.fr.vals j s hj (hall j (by have := (List.getElem?_eq_some_iff.1 hj).1; have e : sl12.length = 11 := rfl; omega))
  have he := h.fr.frame.eq
  rw [he]
  congr 1
  simp only [sl12, List.map_cons, List.map_nil]
  rw [hv 0 76 rfl, hv 1 77 rfl, hv 2 78 rfl, hv 3 79 rfl, hv 4 80 rfl, hv 5 81 rfl, hv 6 82 rfl, hv 7 83 rfl, hv 8 84 rfl, hv 9 10 rfl, hv 10 11 rfl]
  rfl
set_option maxHeartbeats 8000000 in
theorem down_more (a b za zb oa ob : List (List Int)) (N : Nat) (D E : DescA) (ha : IncL a) (hb : IncL b) (h60 : a.length ≤ 60) (h60b : b.length ≤ 60) (hrr : rootP a ≠ rootP b) (h2 : 2 ≤ a.length) (k2 : 2 ≤ b.length) (hC : CutU a b N) (eza : zerosL a N = za) (ezb : zerosL b N = zb) (eoa : onesL a N = oa) (eob : onesL b N = ob)
    (hz : DownOk za zb D) (ho : DownOk oa ob E) (hDl : D.l.length ≤ za.length) (hDr : D.r.length ≤ zb.length) (hDn : D.n ≤ 1 ∨ D.n + 1 ≤ 2 * (za.length + zb.length)) : DownOk a b ⟨D.l ++ E.l, D.r ++ E.r, 1 + D.n + E.n⟩ := by
  have H_hz := Box.mk hz
  have H_ho := Box.mk ho
  have H_hC := Box.mk hC
  have H_eza := Box.mk eza
  have H_ezb := Box.mk ezb
  have H_eoa := Box.mk eoa
  have H_eob := Box.mk eob
  have H_hDl := Box.mk hDl
  have H_hDr := Box.mk hDr
  have H_hDn := Box.mk hDn
  clear hz ho hC eza ezb eoa eob hDl hDr hDn
  intro aa ba ac bc sb l r k la lc ra rc w hA hB hAs hBs hT hG hS hl hr hk
  have hra := fun (W : World) (h1 : IdsIn W aa ac a) (h2 : TabK W) => root_ok a.length a (Nat.le_refl _) (by omega) ha aa ac W h1 h2
  have hrb := fun (W : World) (h1 : IdsIn W ba bc b) (h2 : TabK W) => root_ok b.length b (Nat.le_refl _) (by omega) hb ba bc W h1 h2
  have heq := fun w => eq_ids (rootP a) (rootP b) (rootP_id a).len (rootP_id b).len w
  obtain ⟨us, hus⟩ : ∃ v, v = idC (rootP a) := ⟨_, rfl⟩
  have husl := idC_len (rootP_id a)
  have husi := idC_info (rootP_id a)
  have huso := idC_one (rootP a)
  rw [← hus] at husl husi huso
  have husr : us.length = (List.replicate 32 (Value.int .u8 0)).length := by rw [husl]; rfl
  obtain ⟨vs, hvs⟩ : ∃ v, v = idC (rootP b) := ⟨_, rfl⟩
  have hvsl := idC_len (rootP_id b)
  have hvsi := idC_info (rootP_id b)
  have hvso := idC_one (rootP b)
  rw [← hvs] at hvsl hvsi hvso
  have hvsr : vs.length = (List.replicate 32 (Value.int .u8 0)).length := by rw [hvsl]; rfl
  obtain ⟨bb, hbb⟩ : ∃ bb, (rootP a == rootP b) = bb := ⟨_, rfl⟩
  have heq' : ∀ w, (Op.equalIn 10000 24 (.agg us.toArray) (.agg vs.toArray)).run Tryd.prog w = .ok bb w := fun w => by
    rw [hus, hvs, ← hbb]; exact heq w
  simp only [GivesId, ← hus] at hra
  simp only [GivesId, ← hvs] at hrb
  have S_2 : w.cell? ⟨sb, 2, none⟩ = some (.int .i64 k) := hS.p.cell (j := 2) rfl
  have S_f := hS.p.free 2
  have hkI : (k : Int) ≤ 10000 := by omega
  have hS1 := hS.tick (k + 1) ((k : Int) + 1) (by omega)
  have hbel : Below sb w (w.setCell ⟨sb, 2, none⟩ (.int .i64 ((k : Int) + 1))) := (Below.refl _ _).setCell (by simp) _
  have hD0 : DnW w (w.setCell ⟨sb, 2, none⟩ (.int .i64 ((k : Int) + 1))) sb aa ac a ba bc b l r (k + 1) la lc ra rc := ⟨hbel, by have := hS.p.lt; simp; omega, hA.below hbel hAs, hB.below hbel hBs, hT.below hbel hG (by have := hS.p.lt; simp; omega), hS1⟩
  have H_hus := Box.mk hus
  have H_husl := Box.mk husl
  have H_husi := Box.mk husi
  have H_huso := Box.mk huso
  have H_husr := Box.mk husr
  have H_hvs := Box.mk hvs
  have H_hvsl := Box.mk hvsl
  have H_hvsi := Box.mk hvsi
  have H_hvso := Box.mk hvso
  have H_hvsr := Box.mk hvsr
  have H_hra := Box.mk hra
  have H_hrb := Box.mk hrb
  have H_hA := Box.mk hA
  have H_hB := Box.mk hB
  have H_hAs := Box.mk hAs
  have H_hBs := Box.mk hBs
  have H_hT := Box.mk hT
  have H_hG := Box.mk hG
  have H_hS := Box.mk hS
  have H_hbb := Box.mk hbb
  have H_heq := Box.mk heq
  have H_ha := Box.mk ha
  have H_hb := Box.mk hb
  have H_hS1 := Box.mk hS1
  clear hus husl husi huso husr hvs hvsl hvsi hvso hvsr hra hrb hA hB hAs hBs hT hG hS hbb heq ha hb hS1
  clear hbel
  go_enter Tryd.func41, Tryd.ntmps41
  have hb0 := Below.refl w.heap.size w
  go_upto_region 2 with fail
  refine wp_gen fun w1 hc1 => ?_
  have hD1 := hD0.later hc1
  clear hc1 hD0 S_2 S_f
  go_wp2_with fail
  with_reducible refine (H_hra.out _ hD1.A hD1.T).mono ?_
  rintro e w2 ⟨rfl, hc2⟩
  have hD2 := hD1.later hc2
  clear hc2 hD1
  have hN := Blk.new w2 w2.heap.size (List.replicate 32 (Value.int .u8 0)) 24 rfl
  go_upto_region 3 with (refine wpList_store_blk rfl 24 _ _ rfl w2.heap.size (by rfl) 24 _ us (by rfl) hN H_husr.out H_husi.out H_huso.out ?_; intro w3 hX he; have HW := Box.mk he; clear he)
  have hc3 : Below w2.heap.size w2 w3 := HW.out ▸ below_setCells (Nat.le_refl _) _ _ _ ((Below.refl _ _).alloc (Nat.le_refl _) _)
  have hD3 := hD2.later hc3
  clear hc3 hD2 hN HW
  go_wp2_with fail
  with_reducible refine (H_hrb.out _ hD3.B hD3.T).mono ?_
  rintro e w4 ⟨rfl, hc4⟩
  have hD4 := hD3.later hc4
  have hX4 := hX.later hc4
  clear hc4 hD3 hX
  have hN := Blk.new w4 w4.heap.size (List.replicate 32 (Value.int .u8 0)) 24 rfl
  go_upto_region 6 with (refine wpList_store_blk rfl 24 _ _ rfl w4.heap.size (by rfl) 24 _ vs (by rfl) hN H_hvsr.out H_hvsi.out H_hvso.out ?_; intro w5 hY he; have HW := Box.mk he; clear he)
  have hc5 : Below w4.heap.size w4 w5 := HW.out ▸ below_setCells (Nat.le_refl _) _ _ _ ((Below.refl _ _).alloc (Nat.le_refl _) _)
  have hD5 := hD4.later hc5
  have hX5 := hX4.later hc5
  clear hc5 hD4 hX4 hN HW
  obtain rfl : bb = false := by rw [← H_hbb.out]; simpa using hrr
  have h2I : (2 : Int) ≤ (a.length : Int) := by omega
  have k2I : (2 : Int) ≤ (b.length : Int) := by omega
  go_upto_region 12 with (first | (refine wpList_load_blkG (by rfl) 24 _ rfl w2.heap.size (by rfl) 24 us _ hX5 Tryd.underlying24 rfl H_husi.out ?_) | (refine wpList_load_blkG (by rfl) 24 _ rfl w4.heap.size (by rfl) 24 vs _ hY Tryd.underlying24 rfl H_hvsi.out ?_))
  clear hX5 hY
  refine wp_gen fun w hc6 => ?_
  have hD6 := hD5.later hc6
  clear hc6 hD5
  obtain ⟨b1, of1, rfl, hbl1, hr1⟩ := hD6.A.row (by omega)
  obtain ⟨n1, hn1⟩ : ∃ n1, a.length = n1 + 1 := ⟨a.length - 1, by omega⟩
  have hx := H_ha.out.at (show 0 < a.length by omega)
  have hy := H_ha.out.at (show n1 < a.length by omega)
  obtain ⟨xs, hxs⟩ : ∃ v, v = idC (pc a 0) := ⟨_, rfl⟩
  have hxsl := idC_len hx
  have hxsi := idC_info hx
  have hxso := idC_one (pc a 0)
  rw [← hxs] at hxsl hxsi hxso
  have hxsr : xs.length = (List.replicate 32 (Value.int .u8 0)).length := by rw [hxsl]; rfl
  obtain ⟨ys, hys⟩ : ∃ v, v = idC (pc a n1) := ⟨_, rfl⟩
  have hysl := idC_len hy
  have hysi := idC_info hy
  have hyso := idC_one (pc a n1)
  rw [← hys] at hysl hysi hyso
  have hysr : ys.length = (List.replicate 32 (Value.int .u8 0)).length := by rw [hysl]; rfl
  have hrx6 : w.rangeAt b1 of1 xs := by have h := hr1 0 (by omega); rw [Nat.zero_mul, Nat.add_zero, ← hxs] at h; exact h
  have hry6 : w.rangeAt b1 (of1 + n1 * 32) ys := by have h := hr1 n1 (by omega); rw [← hys] at h; exact h
  have H_hn1 := Box.mk hn1
  have H_hxsi := Box.mk hxsi
  have H_hysi := Box.mk hysi
  have H_hxsl := Box.mk hxsl
  have H_hysl := Box.mk hysl
  have H_hxso := Box.mk hxso
  have H_hyso := Box.mk hyso
  have H_hxs := Box.mk hxs
  have H_hys := Box.mk hys
  have H_hxsr := Box.mk hxsr
  have H_hysr := Box.mk hysr
  have H_hx := Box.mk hx
  have H_hy := Box.mk hy
  clear hn1 hxsi hysi hxsl hysl hxso hyso hxs hys hxsr hysr hx hy
  refine wp_region_frame (fun a0 listed act W => ∃ b9 b10, I12 a0 w (some ⟨b1, of1, none⟩) a.length ac b1 of1 n1 xs ys listed act W b9 b10) rfl ?_ ?_ ?_
  · exact ⟨0, 0, RegI.start _ _ _ _, Below.drew (Below.refl _ _), fun h => by simp at h, fun h => by simp at h, fun h => by simp at h, fun h => by simp at h, fun h => by simp at h, by simp⟩
  · intro listed act W i ⟨b9, b10, hI⟩ hi
    obtain ⟨hun, o, ho', hdep⟩ := mem_ready.1 hi
    have e1 : act.eval (.tmp 1) = .slice (some ⟨b1, of1, none⟩) a.length ac := (hI.fr.frame.off 1 (by decide)).trans rfl
    have ev : ∀ (s : Tmp) (u : Value), act.eval (.tmp s) = u → act.tmps[s]?.getD undef = u := fun s u h => by simpa [Act.eval, Array.getD_eq_getD_getElem?] using h
    have e1 := ev _ _ e1
    match i with
    | 0 =>
      clear hdep ho' hi
      refine wpOp_gives (fun v W' => v = .slice (some ⟨b1, of1, none⟩) a.length ac ∧ W' = W) rfl rfl ?_ ?_
      · unfold Oper.gives; go_simp
      · rintro v W' ⟨rfl, rfl⟩
        exact ⟨b9, b10, hI.quiet rfl (by decide) (by simp) _ rfl⟩
    | 1 =>
      have hoo := Option.some.inj ho'
      subst hoo
      have d0 := ev _ _ (hI.fr.vals 0 76 rfl (hdep ⟨0, .data⟩ (by simp) (by rfl)))
      simp only [val12] at d0
      clear hdep ho' hi
      refine wpOp_gives (fun v W' => v = .pointer (some ⟨b1, of1, none⟩) ∧ W' = W) rfl rfl ?_ ?_
      · have h0N : 0 < a.length := by omega
        unfold Oper.gives; go_simp
      · rintro v W' ⟨rfl, rfl⟩
        exact ⟨b9, b10, hI.quiet rfl (by decide) (by simp) _ rfl⟩
    | 3 =>
      have hoo := Option.some.inj ho'
      subst hoo
      clear hdep ho' hi
      refine wpOp_gives (fun v W' => v = .slice (some ⟨b1, of1, none⟩) a.length ac ∧ W' = W) rfl rfl ?_ ?_
      · skip
        unfold Oper.gives; go_simp
      · rintro v W' ⟨rfl, rfl⟩
        exact ⟨b9, b10, hI.quiet rfl (by decide) (by simp) _ rfl⟩
    | 4 =>
      have hoo := Option.some.inj ho'
      subst hoo
      clear hdep ho' hi
      refine wpOp_gives (fun v W' => v = .slice (some ⟨b1, of1, none⟩) a.length ac ∧ W' = W) rfl rfl ?_ ?_
      · skip
        unfold Oper.gives; go_simp
      · rintro v W' ⟨rfl, rfl⟩
        exact ⟨b9, b10, hI.quiet rfl (by decide) (by simp) _ rfl⟩
    | 5 =>
      have hoo := Option.some.inj ho'
      subst hoo
      have d4 := ev _ _ (hI.fr.vals 4 80 rfl (hdep ⟨4, .data⟩ (by simp) (by rfl)))
      simp only [val12] at d4
      clear hdep ho' hi
      refine wpOp_gives (fun v W' => v = .int .i64 a.length ∧ W' = W) rfl rfl ?_ ?_
      · skip
        unfold Oper.gives; go_simp
      · rintro v W' ⟨rfl, rfl⟩
        exact ⟨b9, b10, hI.quiet rfl (by decide) (by simp) _ rfl⟩
    | 6 =>
      have hoo := Option.some.inj ho'
      subst hoo
      have d5 := ev _ _ (hI.fr.vals 5 81 rfl (hdep ⟨5, .data⟩ (by simp) (by rfl)))
      simp only [val12] at d5
      clear hdep ho' hi
      refine wpOp_gives (fun v W' => v = .int .i64 n1 ∧ W' = W) rfl rfl ?_ ?_
      · have hsub : (a.length : Int) - 1 = n1 := by have := H_hn1.out; omega
        have hn60 : (n1 : Int) ≤ 60 := by have := H_hn1.out; omega
        unfold Oper.gives; go_simp
        exact IntWalk.i64_in _ (by omega)
      · rintro v W' ⟨rfl, rfl⟩
        exact ⟨b9, b10, hI.quiet rfl (by decide) (by simp) _ rfl⟩
    | 7 =>
      have hoo := Option.some.inj ho'
      subst hoo
      have d3 := ev _ _ (hI.fr.vals 3 79 rfl (hdep ⟨3, .data⟩ (by simp) (by rfl)))
      simp only [val12] at d3
      have d6 := ev _ _ (hI.fr.vals 6 82 rfl (hdep ⟨6, .data⟩ (by simp) (by rfl)))
      simp only [val12] at d6
      clear hdep ho' hi
      refine wpOp_gives (fun v W' => v = .pointer (some ⟨b1, of1 + n1 * 32, none⟩) ∧ W' = W) rfl rfl ?_ ?_
      · have h0N : n1 < a.length := by have := H_hn1.out; omega
        unfold Oper.gives; go_simp
      · rintro v W' ⟨rfl, rfl⟩
        exact ⟨b9, b10, hI.quiet rfl (by decide) (by simp) _ rfl⟩
    | 2 =>
      have hoo := Option.some.inj ho'
      subst hoo
      have d1 := hI.fr.vals 1 77 rfl (hdep ⟨1, .data⟩ (by simp) (by rfl))
      simp only [val12] at d1
      clear hdep ho' hi
      have hl := run_loadAt_mid W b1 (of1) 24 xs _ (rangeAt_later hrx6 hI.bel) Tryd.underlying24 rfl H_hxsi.out
      refine wpOp_gives (fun v W' => v = .agg xs.toArray ∧ W' = W) rfl rfl (gives_run _ _ (by simp [execOp, d1, hl]) ⟨rfl, rfl⟩) ?_
      rintro v W' ⟨rfl, rfl⟩
      exact ⟨b9, b10, hI.quiet rfl (by decide) (by simp) _ rfl⟩
    | 8 =>
      have hoo := Option.some.inj ho'
      subst hoo
      have d7 := hI.fr.vals 7 83 rfl (hdep ⟨7, .data⟩ (by simp) (by rfl))
      simp only [val12] at d7
      clear hdep ho' hi
      have hl := run_loadAt_mid W b1 (of1 + n1 * 32) 24 ys _ (rangeAt_later hry6 hI.bel) Tryd.underlying24 rfl H_hysi.out
      refine wpOp_gives (fun v W' => v = .agg ys.toArray ∧ W' = W) rfl rfl (gives_run _ _ (by simp [execOp, d7, hl]) ⟨rfl, rfl⟩) ?_
      rintro v W' ⟨rfl, rfl⟩
      exact ⟨b9, b10, hI.quiet rfl (by decide) (by simp) _ rfl⟩
    | 9 =>
      have hoo := Option.some.inj ho'
      subst hoo
      have hun9 : listed.getD 9 false = false := by
        cases e : listed.getD 9 false with
        | false => rfl
        | true => rw [getD_of_true e true] at hun; cases hun
      clear hdep ho' hi
      refine wpOp_gives (fun v W' => v = .pointer (some ⟨W.heap.size, 0, none⟩) ∧ W' = W.alloc (.cells zeros32.toArray 24)) rfl rfl ?_ ?_
      · unfold Oper.gives; go_simp
        rfl
      · rintro v W' ⟨rfl, rfl⟩
        exact ⟨_, b10, hI.alloc9 hun9 (by simp)⟩
    | 10 =>
      have hoo := Option.some.inj ho'
      subst hoo
      have hun10 : listed.getD 10 false = false := by
        cases e : listed.getD 10 false with
        | false => rfl
        | true => rw [getD_of_true e true] at hun; cases hun
      clear hdep ho' hi
      refine wpOp_gives (fun v W' => v = .pointer (some ⟨W.heap.size, 0, none⟩) ∧ W' = W.alloc (.cells zeros32.toArray 24)) rfl rfl ?_ ?_
      · unfold Oper.gives; go_simp
        rfl
      · rintro v W' ⟨rfl, rfl⟩
        exact ⟨b9, _, hI.alloc10 hun10 (by simp)⟩
    | 11 =>
      have hoo := Option.some.inj ho'
      subst hoo
      have hun11 : listed.getD 11 false = false := by
        cases e : listed.getD 11 false with
        | false => rfl
        | true => rw [getD_of_true e true] at hun; cases hun
      have l9 := hdep ⟨9, .data⟩ (by simp) (by rfl)
      have d9 := hI.fr.vals 9 10 rfl l9
      have d2 := hI.fr.vals 2 78 rfl (hdep ⟨2, .data⟩ (by simp) (by rfl))
      simp only [val12] at d9 d2
      have hp := (hI.p9 l9).1
      rw [hun11] at hp
      clear hdep ho' hi
      refine wpOp_gives (fun v W' => v = undef ∧ W' = W.setCells b9 0 xs) rfl rfl (gives_store_blk _ _ _ rfl b9 d9 24 zeros32 xs d2 hp (by rw [H_hxsl.out]; rfl) H_hxsi.out H_hxso.out fun _ => ⟨rfl, rfl⟩) ?_
      rintro v W' ⟨rfl, rfl⟩
      exact ⟨b9, b10, hI.store11 l9 hun11 H_hxsl.out _⟩
    | 12 =>
      have hoo := Option.some.inj ho'
      subst hoo
      have hun12 : listed.getD 12 false = false := by
        cases e : listed.getD 12 false with
        | false => rfl
        | true => rw [getD_of_true e true] at hun; cases hun
      have l10 := hdep ⟨10, .data⟩ (by simp) (by rfl)
      have d10 := hI.fr.vals 10 11 rfl l10
      have d8 := hI.fr.vals 8 84 rfl (hdep ⟨8, .data⟩ (by simp) (by rfl))
      simp only [val12] at d10 d8
      have hp := (hI.p10 l10).1
      rw [hun12] at hp
      clear hdep ho' hi
      refine wpOp_gives (fun v W' => v = undef ∧ W' = W.setCells b10 0 ys) rfl rfl (gives_store_blk _ _ _ rfl b10 d10 24 zeros32 ys d8 hp (by rw [H_hysl.out]; rfl) H_hysi.out H_hyso.out fun _ => ⟨rfl, rfl⟩) ?_
      rintro v W' ⟨rfl, rfl⟩
      exact ⟨b9, b10, hI.store12 l10 hun12 H_hysl.out _⟩
    | j + 13 => simp at ho'
  rintro listed act w7 ⟨b9, b10, hI⟩ hr
  have hall := all_listed hr hI.sz (by kernel_rfl)
  obtain ⟨hact, hc7, hX7, hY7, hne7, hz9, hz10⟩ := hI.done fun j hj => hall j hj
  clear hI hall hr
  subst hact
  simp only [putAll, sl12, List.range, List.range.loop, List.map_cons, List.map_nil, List.zip_cons_cons, List.zip_nil_right, val12, Act.put, List.setIfInBounds_toArray, List.set_cons_succ, List.set_cons_zero]
  clear hrx6 hry6 hr1
  obtain ⟨b2, of2, rfl, hbl2, hr2⟩ := hD6.B.row (by omega)
  obtain ⟨n2, hn2⟩ : ∃ n2, b.length = n2 + 1 := ⟨b.length - 1, by omega⟩
  have hp := H_hb.out.at (show 0 < b.length by omega)
  have ht := H_hb.out.at (show n2 < b.length by omega)
  obtain ⟨ps, hps⟩ : ∃ v, v = idC (pc b 0) := ⟨_, rfl⟩
  have hpsl := idC_len hp
  have hpsi := idC_info hp
  have hpso := idC_one (pc b 0)
  rw [← hps] at hpsl hpsi hpso
  have hpsr : ps.length = (List.replicate 32 (Value.int .u8 0)).length := by rw [hpsl]; rfl
  obtain ⟨ts, hts⟩ : ∃ v, v = idC (pc b n2) := ⟨_, rfl⟩
  have htsl := idC_len ht
  have htsi := idC_info ht
  have htso := idC_one (pc b n2)
  rw [← hts] at htsl htsi htso
  have htsr : ts.length = (List.replicate 32 (Value.int .u8 0)).length := by rw [htsl]; rfl
  have hrp : w.rangeAt b2 of2 ps := by have h := hr2 0 (by omega); rw [Nat.zero_mul, Nat.add_zero, ← hps] at h; exact h
  have hrt : w.rangeAt b2 (of2 + n2 * 32) ts := by have h := hr2 n2 (by omega); rw [← hts] at h; exact h
  obtain ⟨c1, hcm1⟩ : ∃ c, cmpZ (pc b 0) (pc a 0) = c := ⟨_, rfl⟩
  obtain ⟨c2, hcm2⟩ : ∃ c, cmpZ (pc b n2) (pc a n1) = c := ⟨_, rfl⟩
  have hcp1 : ∀ W, Calls Tryd.prog 39 #[.agg ps.toArray, .agg xs.toArray] W fun e w' => e = .returned (.int .i64 c1) ∧ Below W.heap.size W w' := fun W => by
    rw [hps, H_hxs.out, ← hcm1]; exact cmp_any _ _ W hp.len H_hx.out.len hp.bytes H_hx.out.bytes
  have hcp2 : ∀ W, Calls Tryd.prog 39 #[.agg ts.toArray, .agg ys.toArray] W fun e w' => e = .returned (.int .i64 c2) ∧ Below W.heap.size W w' := fun W => by
    rw [hts, H_hys.out, ← hcm2]; exact cmp_any _ _ W ht.len H_hy.out.len ht.bytes H_hy.out.bytes
  have hn2a : (n2 : Int) < (b.length : Int) := by omega
  have hn2b : (n2 : Int) ≤ 60 := by omega
  have hn2c : (b.length : Int) - 1 = n2 := by omega
  have hn2d : n2 < b.length := by omega
  clear hr2
  have H_hn2 := Box.mk hn2
  have H_hp := Box.mk hp
  have H_ht := Box.mk ht
  have H_hps := Box.mk hps
  have H_hpsl := Box.mk hpsl
  have H_hpsi := Box.mk hpsi
  have H_hpso := Box.mk hpso
  have H_hpsr := Box.mk hpsr
  have H_hts := Box.mk hts
  have H_htsl := Box.mk htsl
  have H_htsi := Box.mk htsi
  have H_htso := Box.mk htso
  have H_htsr := Box.mk htsr
  have H_hcm1 := Box.mk hcm1
  have H_hcm2 := Box.mk hcm2
  have H_hcp1 := Box.mk hcp1
  have H_hcp2 := Box.mk hcp2
  have H_hne7 := Box.mk hne7
  clear hn2 hp ht hps hpsl hpsi hpso hpsr hts htsl htsi htso htsr hcm1 hcm2 hcp1 hcp2 hne7
  go_wp2_with fail
  refine wp_gen fun w8 hc8 => ?_
  have hb8 : Below w.heap.size w w8 := bchain (by repeat' (first | with_reducible exact hc7 | with_reducible refine Below.drew ?_ | with_reducible refine below_drewN ?_ _ | with_reducible refine Below.alloc ?_ (by have := hc7.size; first | (simp; done) | (simp; omega) | omega) _ | with_reducible refine Below.setCell ?_ (by first | (simp; done) | (simp; omega) | omega) _)) hc8
  have hst8 : Below w7.heap.size w7 w8 := bchain (by repeat' (first | with_reducible exact Below.refl _ _ | with_reducible refine Below.drew ?_ | with_reducible refine below_drewN ?_ _ | with_reducible refine Below.alloc ?_ (by first | (simp; done) | (simp; omega) | omega) _ | with_reducible refine Below.setCell ?_ (by first | (simp; done) | (simp; omega) | omega) _)) hc8
  replace hX7 := hX7.later hst8
  replace hY7 := hY7.later hst8
  clear hst8
  have hrp1 := rangeAt_later hrp hb8
  refine wp_region_on (by kernel_rfl) (by kernel_rfl) ?_
  repeat (first | ((refine wpQuiet_load_mid (by first | rfl | (simp [Region.wanted]; done)) 24 _ rfl b2 of2 (by rfl) ps _ hrp1 Tryd.underlying24 rfl H_hpsi.out ?_); simp only [Act.put, List.setIfInBounds_toArray, List.set_cons_succ, List.set_cons_zero]) | (refine wpQuiet_load_blk (by first | rfl | (simp [Region.wanted]; done)) 24 _ rfl (b9) (by rfl) 24 xs _ hX7 Tryd.underlying24 rfl H_hxsi.out ?_; simp only [Act.put, List.setIfInBounds_toArray, List.set_cons_succ, List.set_cons_zero]) | (go_big_quiet_step ((first | (go_at_call 39; with_reducible exact calls_on (H_hcp1.out _))))))
  refine wpQuiet_nil ?_
  intro w9 hc9
  have hb9 : Below w.heap.size w w9 := bchain (by repeat' (first | with_reducible exact hb8 | with_reducible refine Below.drew ?_ | with_reducible refine below_drewN ?_ _ | with_reducible refine Below.alloc ?_ (by have := hb8.size; first | (simp; done) | (simp; omega) | omega) _ | with_reducible refine Below.setCell ?_ (by first | (simp; done) | (simp; omega) | omega) _)) hc9
  have hst9 : Below w8.heap.size w8 w9 := bchain (by repeat' (first | with_reducible exact Below.refl _ _ | with_reducible refine Below.drew ?_ | with_reducible refine below_drewN ?_ _ | with_reducible refine Below.alloc ?_ (by first | (simp; done) | (simp; omega) | omega) _ | with_reducible refine Below.setCell ?_ (by first | (simp; done) | (simp; omega) | omega) _)) hc9
  replace hX7 := hX7.later hst9
  replace hY7 := hY7.later hst9
  clear hst9
  clear hc8 hc9 hrp1
  by_cases h1 : c1 < 0
  · skip
    have hrp9 := rangeAt_later hrp hb9
    go_upto_region 15 with (first | (refine wpList_load_mid rfl 24 _ rfl b2 of2 (by rfl) ps _ hrp9 Tryd.underlying24 rfl H_hpsi.out ?_) | (refine wpList_store_blk rfl 24 _ _ rfl b9 (by rfl) 24 _ ps (by rfl) hX7 (by rw [H_hpsl.out, H_hxsl.out]) H_hpsi.out H_hpso.out ?_; intro w10 hX10 he; have HW := Box.mk he; clear he))
    have hb10 : Below w.heap.size w w10 := HW.out ▸ below_setCells hz9 _ _ _ hb9
    have hY10 : Blk w10 b10 24 ys := HW.out ▸ Blk.setCellsFar (fun e => H_hne7.out e.symm) _ _ _ hY7
    clear hrp9 hX7 hY7 HW
    try simp only [Act.put, List.setIfInBounds_toArray, List.set_cons_succ, List.set_cons_zero]
    refine wp_gen fun wA hcA => ?_
    have hbA := bchain hb10 hcA
    have hXA := hX10.later hcA
    have hYA := hY10.later hcA
    have hrtA := rangeAt_later hrt hbA
    clear hX10 hY10 hcA
    go_wp2_with fail
    refine wp_gen fun w31 hc31 => ?_
    have hb31 : Below w.heap.size w w31 := bchain (by repeat' (first | with_reducible exact hbA | with_reducible refine Below.drew ?_ | with_reducible refine below_drewN ?_ _ | with_reducible refine Below.alloc ?_ (by have := hbA.size; first | (simp; done) | (simp; omega) | omega) _ | with_reducible refine Below.setCell ?_ (by first | (simp; done) | (simp; omega) | omega) _)) hc31
    have hst31 : Below wA.heap.size wA w31 := bchain (by repeat' (first | with_reducible exact Below.refl _ _ | with_reducible refine Below.drew ?_ | with_reducible refine below_drewN ?_ _ | with_reducible refine Below.alloc ?_ (by first | (simp; done) | (simp; omega) | omega) _ | with_reducible refine Below.setCell ?_ (by first | (simp; done) | (simp; omega) | omega) _)) hc31
    replace hXA := hXA.later hst31
    replace hYA := hYA.later hst31
    clear hst31
    replace hrtA := rangeAt_later hrt hb31
    refine wp_region_on (by kernel_rfl) (by kernel_rfl) ?_
    repeat (first | ((refine wpQuiet_load_mid (by first | rfl | (simp [Region.wanted]; done)) 24 _ rfl b2 of2 (by rfl) ps _ hrp1 Tryd.underlying24 rfl H_hpsi.out ?_); simp only [Act.put, List.setIfInBounds_toArray, List.set_cons_succ, List.set_cons_zero]) | (refine wpQuiet_load_blk (by first | rfl | (simp [Region.wanted]; done)) 24 _ rfl (b9) (by rfl) 24 xs _ hX7 Tryd.underlying24 rfl H_hxsi.out ?_; simp only [Act.put, List.setIfInBounds_toArray, List.set_cons_succ, List.set_cons_zero]) | ((refine wpQuiet_load_mid (by first | rfl | (simp [Region.wanted]; done)) 24 _ rfl b2 (of2 + n2 * 32) (by rfl) ts _ hrtA Tryd.underlying24 rfl H_htsi.out ?_); simp only [Act.put, List.setIfInBounds_toArray, List.set_cons_succ, List.set_cons_zero]) | (refine wpQuiet_load_blk (by first | rfl | (simp [Region.wanted]; done)) 24 _ rfl (b10) (by rfl) 24 ys _ hYA Tryd.underlying24 rfl H_hysi.out ?_; simp only [Act.put, List.setIfInBounds_toArray, List.set_cons_succ, List.set_cons_zero]) | (go_big_quiet_step ((first | (go_at_call 39; with_reducible exact calls_on (H_hcp2.out _))))))
    refine wpQuiet_nil ?_
    intro w32 hc32
    have hb32 : Below w.heap.size w w32 := bchain (by repeat' (first | with_reducible exact hb31 | with_reducible refine Below.drew ?_ | with_reducible refine below_drewN ?_ _ | with_reducible refine Below.alloc ?_ (by have := hb31.size; first | (simp; done) | (simp; omega) | omega) _ | with_reducible refine Below.setCell ?_ (by first | (simp; done) | (simp; omega) | omega) _)) hc32
    have hst32 : Below w31.heap.size w31 w32 := bchain (by repeat' (first | with_reducible exact Below.refl _ _ | with_reducible refine Below.drew ?_ | with_reducible refine below_drewN ?_ _ | with_reducible refine Below.alloc ?_ (by first | (simp; done) | (simp; omega) | omega) _ | with_reducible refine Below.setCell ?_ (by first | (simp; done) | (simp; omega) | omega) _)) hc32
    replace hXA := hXA.later hst32
    replace hYA := hYA.later hst32
    clear hst32
    clear hc31 hc32 hrtA
    have hlo : loA a b = pc b 0 := by unfold loA; rw [H_hcm1.out, if_pos h1]
    by_cases h2' : 0 < c2
    · skip
      have hrt9 := rangeAt_later hrt hb32
      go_upto_region 17 with (first | (refine wpList_load_mid rfl 24 _ rfl b2 (of2 + n2 * 32) (by rfl) ts _ hrt9 Tryd.underlying24 rfl H_htsi.out ?_) | (refine wpList_store_blk rfl 24 _ _ rfl b10 (by rfl) 24 _ ts (by rfl) hYA (by rw [H_htsl.out, H_hysl.out]) H_htsi.out H_htso.out ?_; intro w33 hY33 he; have HW := Box.mk he; clear he))
      have hb33 : Below w.heap.size w w33 := HW.out ▸ below_setCells hz10 _ _ _ hb32
      have hX33 := HW.out ▸ Blk.setCellsFar H_hne7.out _ _ _ hXA
      clear hrt9 hXA hYA HW
      try simp only [Act.put, List.setIfInBounds_toArray, List.set_cons_succ, List.set_cons_zero]
      refine wp_gen fun wB hcB => ?_
      have hbB := bchain hb33 hcB
      have hXB := hX33.later hcB
      have hYB := hY33.later hcB
      clear hX33 hY33 hcB
      have hhi : hiA a b = pc b n2 := by unfold hiA; rw [show b.length - 1 = n2 by have := H_hn2.out; omega, show a.length - 1 = n1 by have := H_hn1.out; omega, H_hcm2.out, if_pos h2']
      have hap : ∀ W, Calls Tryd.prog 34 #[.agg ps.toArray, .agg ts.toArray] W fun e w' => e = .returned (.int .i64 N) ∧ Below W.heap.size W w' := fun W => by
        have h := apart_any (pc b 0) (pc b n2) W H_hp.out H_ht.out
        rw [show apN (pc b 0) (pc b n2) = N by rw [← hlo, ← hhi]; exact H_hC.out.ap, ← H_hps.out, ← H_hts.out] at h
        exact h
      have hcu1 : ∀ W, IdsIn W (some ⟨b1, of1, none⟩) ac a → Calls Tryd.prog 35 #[.slice (some ⟨b1, of1, none⟩) a.length ac, .int .i64 N] W fun e w' => CutR2 (some ⟨b1, of1, none⟩) w' za oa e ∧ Below W.heap.size W w' := fun W h => by
        have := cut_any2 a (some ⟨b1, of1, none⟩) a.length ac N W h rfl (by omega) H_hC.out.hN H_hC.out.catA
        rw [H_eza.out, H_eoa.out] at this; exact this
      have hcu2 : ∀ W, IdsIn W (some ⟨b2, of2, none⟩) bc b → Calls Tryd.prog 35 #[.slice (some ⟨b2, of2, none⟩) b.length bc, .int .i64 N] W fun e w' => CutR2 (some ⟨b2, of2, none⟩) w' zb ob e ∧ Below W.heap.size W w' := fun W h => by
        have := cut_any2 b (some ⟨b2, of2, none⟩) b.length bc N W h rfl (by omega) H_hC.out.hN H_hC.out.catB
        rw [H_ezb.out, H_eob.out] at this; exact this
      have e3 : za.length + oa.length = a.length := by rw [← H_eza.out, ← H_eoa.out, ← List.length_append, H_hC.out.catA]
      have e4 : zb.length + ob.length = b.length := by rw [← H_ezb.out, ← H_eob.out, ← List.length_append, H_hC.out.catB]
      have e5 : 0 < za.length + zb.length := by have := H_hC.out.z; rw [H_eza.out, H_ezb.out] at this; exact this
      have e7 : 0 < oa.length + ob.length := by have := H_hC.out.o; rw [H_eoa.out, H_eob.out] at this; exact this
      have e6 : D.n + 1 ≤ 2 * (za.length + zb.length) := by rcases H_hDn.out with h | h <;> omega
      have H_hap := Box.mk hap
      have H_hcu1 := Box.mk hcu1
      have H_hcu2 := Box.mk hcu2
      have H_hlo := Box.mk hlo
      have H_hhi := Box.mk hhi
      have H_e3 := Box.mk e3
      have H_e4 := Box.mk e4
      have H_e5 := Box.mk e5
      have H_e6 := Box.mk e6
      have H_e7 := Box.mk e7
      clear hap hcu1 hcu2 hlo hhi e3 e4 e5 e6 e7
      go_wp2_with (first | (refine wpList_load_blkG (by rfl) 24 _ rfl b9 (by rfl) 24 ps _ hXB Tryd.underlying24 rfl H_hpsi.out ?_) | (refine wpList_load_blkG (by rfl) 24 _ rfl b10 (by rfl) 24 ts _ hYB Tryd.underlying24 rfl H_htsi.out ?_))
      with_reducible refine (H_hap.out _).mono ?_
      rintro e wC ⟨rfl, hcC⟩
      have hbC := bchain hbB hcC
      clear hcC hXB hYB
      go_wp2_with fail
      with_reducible refine (H_hcu1.out _ (hD6.A.later hbC)).mono ?_
      rintro e wD ⟨⟨p1, q1, r1, rfl, ia1, ia2, ad1, ad2⟩, hcD⟩
      have hbD := bchain hbC hcD
      clear hcD
      go_wp2_with fail
      with_reducible refine (H_hcu2.out _ (hD6.B.later hbD)).mono ?_
      rintro e wE ⟨⟨p2, q2, r2, rfl, ib1, ib2, bd1, bd2⟩, hcE⟩
      have hbE := bchain hbD hcE
      replace ia1 := ia1.later hcE
      replace ia2 := ia2.later hcE
      have hDE := hD6.later hbE
      clear hcE hbD hbC
      have far1 : ∀ x, p1 = some x → x.block < sb := fun x e => by obtain ⟨y, hy, hyb⟩ := ad1 x e; have := H_hAs.out y hy; omega
      have far2 : ∀ x, q1 = some x → x.block < sb := fun x e => by obtain ⟨y, hy, hyb⟩ := ad2 x e; have := H_hAs.out y hy; omega
      have far3 : ∀ x, p2 = some x → x.block < sb := fun x e => by obtain ⟨y, hy, hyb⟩ := bd1 x e; have := H_hBs.out y hy; omega
      have far4 : ∀ x, q2 = some x → x.block < sb := fun x e => by obtain ⟨y, hy, hyb⟩ := bd2 x e; have := H_hBs.out y hy; omega
      have hdn1 := H_hz.out p1 p2 za.length zb.length sb l r (k + 1) la lc ra rc wE ia1 ib1 far1 far3 hDE.T H_hG.out hDE.S (by have := H_e3.out; omega) (by have := H_e4.out; omega) (by have := H_e3.out; have := H_e4.out; have := H_e7.out; omega)
      have H_hdn1 := Box.mk hdn1
      have H_far1 := Box.mk far1
      have H_far2 := Box.mk far2
      have H_far3 := Box.mk far3
      have H_far4 := Box.mk far4
      have H_ad1 := Box.mk ad1
      have H_ad2 := Box.mk ad2
      have H_bd1 := Box.mk bd1
      have H_bd2 := Box.mk bd2
      clear hdn1 far1 far2 far3 far4 ad1 ad2 bd1 bd2
      go_wp2_with fail
      with_reducible refine H_hdn1.out.mono ?_
      rintro e wF ⟨rfl, hcF, la1, lc1, ra1, rc1, hSF⟩
      have hTF := hDE.T.below hcF H_hG.out (by have := hSF.p.lt; omega)
      have hdn2 := H_ho.out q1 q2 r1 r2 sb (l ++ D.l) (r ++ D.r) (k + 1 + D.n) la1 lc1 ra1 rc1 wF (ia2.below hcF H_far2.out) (ib2.below hcF H_far4.out) H_far2.out H_far4.out hTF H_hG.out hSF (by have := H_e3.out; have := H_hDl.out; rw [List.length_append]; omega) (by have := H_e4.out; have := H_hDr.out; rw [List.length_append]; omega) (by have := H_e3.out; have := H_e4.out; have := H_e6.out; omega)
      have hbF := hDE.bel.trans hcF
      have H_hdn2 := Box.mk hdn2
      clear hdn2
      clear hSF hTF hcF hDE ia1 ia2 ib1 ib2 hbE hbB
      go_wp2_with fail
      with_reducible refine H_hdn2.out.mono ?_
      rintro e wG ⟨rfl, hcG, la2, lc2, ra2, rc2, hSG⟩
      go_wp2_with fail
      go_ret
      refine ⟨rfl, hbF.trans hcG, la2, lc2, ra2, rc2, ?_⟩
      rw [List.append_assoc, List.append_assoc, show k + 1 + D.n + E.n = k + (1 + D.n + E.n) by omega] at hSG
      exact hSG
    · skip
      go_upto_region 17 with fail
      try simp only [Act.put, List.setIfInBounds_toArray, List.set_cons_succ, List.set_cons_zero]
      refine wp_gen fun wB hcB => ?_
      have hbB := bchain hb32 hcB
      have hXB := hXA.later hcB
      have hYB := hYA.later hcB
      clear hXA hYA hcB
      have hhi : hiA a b = pc a n1 := by unfold hiA; rw [show b.length - 1 = n2 by have := H_hn2.out; omega, show a.length - 1 = n1 by have := H_hn1.out; omega, H_hcm2.out, if_neg (by omega)]
      have hap : ∀ W, Calls Tryd.prog 34 #[.agg ps.toArray, .agg ys.toArray] W fun e w' => e = .returned (.int .i64 N) ∧ Below W.heap.size W w' := fun W => by
        have h := apart_any (pc b 0) (pc a n1) W H_hp.out H_hy.out
        rw [show apN (pc b 0) (pc a n1) = N by rw [← hlo, ← hhi]; exact H_hC.out.ap, ← H_hps.out, ← H_hys.out] at h
        exact h
      have hcu1 : ∀ W, IdsIn W (some ⟨b1, of1, none⟩) ac a → Calls Tryd.prog 35 #[.slice (some ⟨b1, of1, none⟩) a.length ac, .int .i64 N] W fun e w' => CutR2 (some ⟨b1, of1, none⟩) w' za oa e ∧ Below W.heap.size W w' := fun W h => by
        have := cut_any2 a (some ⟨b1, of1, none⟩) a.length ac N W h rfl (by omega) H_hC.out.hN H_hC.out.catA
        rw [H_eza.out, H_eoa.out] at this; exact this
      have hcu2 : ∀ W, IdsIn W (some ⟨b2, of2, none⟩) bc b → Calls Tryd.prog 35 #[.slice (some ⟨b2, of2, none⟩) b.length bc, .int .i64 N] W fun e w' => CutR2 (some ⟨b2, of2, none⟩) w' zb ob e ∧ Below W.heap.size W w' := fun W h => by
        have := cut_any2 b (some ⟨b2, of2, none⟩) b.length bc N W h rfl (by omega) H_hC.out.hN H_hC.out.catB
        rw [H_ezb.out, H_eob.out] at this; exact this
      have e3 : za.length + oa.length = a.length := by rw [← H_eza.out, ← H_eoa.out, ← List.length_append, H_hC.out.catA]
      have e4 : zb.length + ob.length = b.length := by rw [← H_ezb.out, ← H_eob.out, ← List.length_append, H_hC.out.catB]
      have e5 : 0 < za.length + zb.length := by have := H_hC.out.z; rw [H_eza.out, H_ezb.out] at this; exact this
      have e7 : 0 < oa.length + ob.length := by have := H_hC.out.o; rw [H_eoa.out, H_eob.out] at this; exact this
      have e6 : D.n + 1 ≤ 2 * (za.length + zb.length) := by rcases H_hDn.out with h | h <;> omega
      have H_hap := Box.mk hap
      have H_hcu1 := Box.mk hcu1
      have H_hcu2 := Box.mk hcu2
      have H_hlo := Box.mk hlo
      have H_hhi := Box.mk hhi
      have H_e3 := Box.mk e3
      have H_e4 := Box.mk e4
      have H_e5 := Box.mk e5
      have H_e6 := Box.mk e6
      have H_e7 := Box.mk e7
      clear hap hcu1 hcu2 hlo hhi e3 e4 e5 e6 e7
      go_wp2_with (first | (refine wpList_load_blkG (by rfl) 24 _ rfl b9 (by rfl) 24 ps _ hXB Tryd.underlying24 rfl H_hpsi.out ?_) | (refine wpList_load_blkG (by rfl) 24 _ rfl b10 (by rfl) 24 ys _ hYB Tryd.underlying24 rfl H_hysi.out ?_))
      with_reducible refine (H_hap.out _).mono ?_
      rintro e wC ⟨rfl, hcC⟩
      have hbC := bchain hbB hcC
      clear hcC hXB hYB
      go_wp2_with fail
      with_reducible refine (H_hcu1.out _ (hD6.A.later hbC)).mono ?_
      rintro e wD ⟨⟨p1, q1, r1, rfl, ia1, ia2, ad1, ad2⟩, hcD⟩
      have hbD := bchain hbC hcD
      clear hcD
      go_wp2_with fail
      with_reducible refine (H_hcu2.out _ (hD6.B.later hbD)).mono ?_
      rintro e wE ⟨⟨p2, q2, r2, rfl, ib1, ib2, bd1, bd2⟩, hcE⟩
      have hbE := bchain hbD hcE
      replace ia1 := ia1.later hcE
      replace ia2 := ia2.later hcE
      have hDE := hD6.later hbE
      clear hcE hbD hbC
      have far1 : ∀ x, p1 = some x → x.block < sb := fun x e => by obtain ⟨y, hy, hyb⟩ := ad1 x e; have := H_hAs.out y hy; omega
      have far2 : ∀ x, q1 = some x → x.block < sb := fun x e => by obtain ⟨y, hy, hyb⟩ := ad2 x e; have := H_hAs.out y hy; omega
      have far3 : ∀ x, p2 = some x → x.block < sb := fun x e => by obtain ⟨y, hy, hyb⟩ := bd1 x e; have := H_hBs.out y hy; omega
      have far4 : ∀ x, q2 = some x → x.block < sb := fun x e => by obtain ⟨y, hy, hyb⟩ := bd2 x e; have := H_hBs.out y hy; omega
      have hdn1 := H_hz.out p1 p2 za.length zb.length sb l r (k + 1) la lc ra rc wE ia1 ib1 far1 far3 hDE.T H_hG.out hDE.S (by have := H_e3.out; omega) (by have := H_e4.out; omega) (by have := H_e3.out; have := H_e4.out; have := H_e7.out; omega)
      have H_hdn1 := Box.mk hdn1
      have H_far1 := Box.mk far1
      have H_far2 := Box.mk far2
      have H_far3 := Box.mk far3
      have H_far4 := Box.mk far4
      have H_ad1 := Box.mk ad1
      have H_ad2 := Box.mk ad2
      have H_bd1 := Box.mk bd1
      have H_bd2 := Box.mk bd2
      clear hdn1 far1 far2 far3 far4 ad1 ad2 bd1 bd2
      go_wp2_with fail
      with_reducible refine H_hdn1.out.mono ?_
      rintro e wF ⟨rfl, hcF, la1, lc1, ra1, rc1, hSF⟩
      have hTF := hDE.T.below hcF H_hG.out (by have := hSF.p.lt; omega)
      have hdn2 := H_ho.out q1 q2 r1 r2 sb (l ++ D.l) (r ++ D.r) (k + 1 + D.n) la1 lc1 ra1 rc1 wF (ia2.below hcF H_far2.out) (ib2.below hcF H_far4.out) H_far2.out H_far4.out hTF H_hG.out hSF (by have := H_e3.out; have := H_hDl.out; rw [List.length_append]; omega) (by have := H_e4.out; have := H_hDr.out; rw [List.length_append]; omega) (by have := H_e3.out; have := H_e4.out; have := H_e6.out; omega)
      have hbF := hDE.bel.trans hcF
      have H_hdn2 := Box.mk hdn2
      clear hdn2
      clear hSF hTF hcF hDE ia1 ia2 ib1 ib2 hbE hbB
      go_wp2_with fail
      with_reducible refine H_hdn2.out.mono ?_
      rintro e wG ⟨rfl, hcG, la2, lc2, ra2, rc2, hSG⟩
      go_wp2_with fail
      go_ret
      refine ⟨rfl, hbF.trans hcG, la2, lc2, ra2, rc2, ?_⟩
      rw [List.append_assoc, List.append_assoc, show k + 1 + D.n + E.n = k + (1 + D.n + E.n) by omega] at hSG
      exact hSG
  · skip
    go_upto_region 15 with fail
    try simp only [Act.put, List.setIfInBounds_toArray, List.set_cons_succ, List.set_cons_zero]
    refine wp_gen fun wA hcA => ?_
    have hbA := bchain hb9 hcA
    have hXA := hX7.later hcA
    have hYA := hY7.later hcA
    have hrtA := rangeAt_later hrt hbA
    clear hX7 hY7 hcA
    go_wp2_with fail
    refine wp_gen fun w31 hc31 => ?_
    have hb31 : Below w.heap.size w w31 := bchain (by repeat' (first | with_reducible exact hbA | with_reducible refine Below.drew ?_ | with_reducible refine below_drewN ?_ _ | with_reducible refine Below.alloc ?_ (by have := hbA.size; first | (simp; done) | (simp; omega) | omega) _ | with_reducible refine Below.setCell ?_ (by first | (simp; done) | (simp; omega) | omega) _)) hc31
    have hst31 : Below wA.heap.size wA w31 := bchain (by repeat' (first | with_reducible exact Below.refl _ _ | with_reducible refine Below.drew ?_ | with_reducible refine below_drewN ?_ _ | with_reducible refine Below.alloc ?_ (by first | (simp; done) | (simp; omega) | omega) _ | with_reducible refine Below.setCell ?_ (by first | (simp; done) | (simp; omega) | omega) _)) hc31
    replace hXA := hXA.later hst31
    replace hYA := hYA.later hst31
    clear hst31
    replace hrtA := rangeAt_later hrt hb31
    refine wp_region_on (by kernel_rfl) (by kernel_rfl) ?_
    repeat (first | ((refine wpQuiet_load_mid (by first | rfl | (simp [Region.wanted]; done)) 24 _ rfl b2 of2 (by rfl) ps _ hrp1 Tryd.underlying24 rfl H_hpsi.out ?_); simp only [Act.put, List.setIfInBounds_toArray, List.set_cons_succ, List.set_cons_zero]) | (refine wpQuiet_load_blk (by first | rfl | (simp [Region.wanted]; done)) 24 _ rfl (b9) (by rfl) 24 xs _ hX7 Tryd.underlying24 rfl H_hxsi.out ?_; simp only [Act.put, List.setIfInBounds_toArray, List.set_cons_succ, List.set_cons_zero]) | ((refine wpQuiet_load_mid (by first | rfl | (simp [Region.wanted]; done)) 24 _ rfl b2 (of2 + n2 * 32) (by rfl) ts _ hrtA Tryd.underlying24 rfl H_htsi.out ?_); simp only [Act.put, List.setIfInBounds_toArray, List.set_cons_succ, List.set_cons_zero]) | (refine wpQuiet_load_blk (by first | rfl | (simp [Region.wanted]; done)) 24 _ rfl (b10) (by rfl) 24 ys _ hYA Tryd.underlying24 rfl H_hysi.out ?_; simp only [Act.put, List.setIfInBounds_toArray, List.set_cons_succ, List.set_cons_zero]) | ((refine wpQuiet_load_mid (by first | rfl | (simp [Region.wanted]; done)) 24 _ rfl b2 (of2 + n2 * 32) (by rfl) ts _ hrtA Tryd.underlying24 rfl H_htsi.out ?_); simp only [Act.put, List.setIfInBounds_toArray, List.set_cons_succ, List.set_cons_zero]) | (refine wpQuiet_load_blk (by first | rfl | (simp [Region.wanted]; done)) 24 _ rfl (b10) (by rfl) 24 ys _ hYA Tryd.underlying24 rfl H_hysi.out ?_; simp only [Act.put, List.setIfInBounds_toArray, List.set_cons_succ, List.set_cons_zero]) | (go_big_quiet_step ((first | (go_at_call 39; with_reducible exact calls_on (H_hcp2.out _))))))
    refine wpQuiet_nil ?_
    intro w32 hc32
    have hb32 : Below w.heap.size w w32 := bchain (by repeat' (first | with_reducible exact hb31 | with_reducible refine Below.drew ?_ | with_reducible refine below_drewN ?_ _ | with_reducible refine Below.alloc ?_ (by have := hb31.size; first | (simp; done) | (simp; omega) | omega) _ | with_reducible refine Below.setCell ?_ (by first | (simp; done) | (simp; omega) | omega) _)) hc32
    have hst32 : Below w31.heap.size w31 w32 := bchain (by repeat' (first | with_reducible exact Below.refl _ _ | with_reducible refine Below.drew ?_ | with_reducible refine below_drewN ?_ _ | with_reducible refine Below.alloc ?_ (by first | (simp; done) | (simp; omega) | omega) _ | with_reducible refine Below.setCell ?_ (by first | (simp; done) | (simp; omega) | omega) _)) hc32
    replace hXA := hXA.later hst32
    replace hYA := hYA.later hst32
    clear hst32
    clear hc31 hc32 hrtA
    have hlo : loA a b = pc a 0 := by unfold loA; rw [H_hcm1.out, if_neg (by omega)]
    by_cases h2' : 0 < c2
    · skip
      have hrt9 := rangeAt_later hrt hb32
      go_upto_region 17 with (first | (refine wpList_load_mid rfl 24 _ rfl b2 (of2 + n2 * 32) (by rfl) ts _ hrt9 Tryd.underlying24 rfl H_htsi.out ?_) | (refine wpList_store_blk rfl 24 _ _ rfl b10 (by rfl) 24 _ ts (by rfl) hYA (by rw [H_htsl.out, H_hysl.out]) H_htsi.out H_htso.out ?_; intro w33 hY33 he; have HW := Box.mk he; clear he))
      have hb33 : Below w.heap.size w w33 := HW.out ▸ below_setCells hz10 _ _ _ hb32
      have hX33 := HW.out ▸ Blk.setCellsFar H_hne7.out _ _ _ hXA
      clear hrt9 hXA hYA HW
      try simp only [Act.put, List.setIfInBounds_toArray, List.set_cons_succ, List.set_cons_zero]
      refine wp_gen fun wB hcB => ?_
      have hbB := bchain hb33 hcB
      have hXB := hX33.later hcB
      have hYB := hY33.later hcB
      clear hX33 hY33 hcB
      have hhi : hiA a b = pc b n2 := by unfold hiA; rw [show b.length - 1 = n2 by have := H_hn2.out; omega, show a.length - 1 = n1 by have := H_hn1.out; omega, H_hcm2.out, if_pos h2']
      have hap : ∀ W, Calls Tryd.prog 34 #[.agg xs.toArray, .agg ts.toArray] W fun e w' => e = .returned (.int .i64 N) ∧ Below W.heap.size W w' := fun W => by
        have h := apart_any (pc a 0) (pc b n2) W H_hx.out H_ht.out
        rw [show apN (pc a 0) (pc b n2) = N by rw [← hlo, ← hhi]; exact H_hC.out.ap, ← H_hxs.out, ← H_hts.out] at h
        exact h
      have hcu1 : ∀ W, IdsIn W (some ⟨b1, of1, none⟩) ac a → Calls Tryd.prog 35 #[.slice (some ⟨b1, of1, none⟩) a.length ac, .int .i64 N] W fun e w' => CutR2 (some ⟨b1, of1, none⟩) w' za oa e ∧ Below W.heap.size W w' := fun W h => by
        have := cut_any2 a (some ⟨b1, of1, none⟩) a.length ac N W h rfl (by omega) H_hC.out.hN H_hC.out.catA
        rw [H_eza.out, H_eoa.out] at this; exact this
      have hcu2 : ∀ W, IdsIn W (some ⟨b2, of2, none⟩) bc b → Calls Tryd.prog 35 #[.slice (some ⟨b2, of2, none⟩) b.length bc, .int .i64 N] W fun e w' => CutR2 (some ⟨b2, of2, none⟩) w' zb ob e ∧ Below W.heap.size W w' := fun W h => by
        have := cut_any2 b (some ⟨b2, of2, none⟩) b.length bc N W h rfl (by omega) H_hC.out.hN H_hC.out.catB
        rw [H_ezb.out, H_eob.out] at this; exact this
      have e3 : za.length + oa.length = a.length := by rw [← H_eza.out, ← H_eoa.out, ← List.length_append, H_hC.out.catA]
      have e4 : zb.length + ob.length = b.length := by rw [← H_ezb.out, ← H_eob.out, ← List.length_append, H_hC.out.catB]
      have e5 : 0 < za.length + zb.length := by have := H_hC.out.z; rw [H_eza.out, H_ezb.out] at this; exact this
      have e7 : 0 < oa.length + ob.length := by have := H_hC.out.o; rw [H_eoa.out, H_eob.out] at this; exact this
      have e6 : D.n + 1 ≤ 2 * (za.length + zb.length) := by rcases H_hDn.out with h | h <;> omega
      have H_hap := Box.mk hap
      have H_hcu1 := Box.mk hcu1
      have H_hcu2 := Box.mk hcu2
      have H_hlo := Box.mk hlo
      have H_hhi := Box.mk hhi
      have H_e3 := Box.mk e3
      have H_e4 := Box.mk e4
      have H_e5 := Box.mk e5
      have H_e6 := Box.mk e6
      have H_e7 := Box.mk e7
      clear hap hcu1 hcu2 hlo hhi e3 e4 e5 e6 e7
      go_wp2_with (first | (refine wpList_load_blkG (by rfl) 24 _ rfl b9 (by rfl) 24 xs _ hXB Tryd.underlying24 rfl H_hxsi.out ?_) | (refine wpList_load_blkG (by rfl) 24 _ rfl b10 (by rfl) 24 ts _ hYB Tryd.underlying24 rfl H_htsi.out ?_))
      with_reducible refine (H_hap.out _).mono ?_
      rintro e wC ⟨rfl, hcC⟩
      have hbC := bchain hbB hcC
      clear hcC hXB hYB
      go_wp2_with fail
      with_reducible refine (H_hcu1.out _ (hD6.A.later hbC)).mono ?_
      rintro e wD ⟨⟨p1, q1, r1, rfl, ia1, ia2, ad1, ad2⟩, hcD⟩
      have hbD := bchain hbC hcD
      clear hcD
      go_wp2_with fail
      with_reducible refine (H_hcu2.out _ (hD6.B.later hbD)).mono ?_
      rintro e wE ⟨⟨p2, q2, r2, rfl, ib1, ib2, bd1, bd2⟩, hcE⟩
      have hbE := bchain hbD hcE
      replace ia1 := ia1.later hcE
      replace ia2 := ia2.later hcE
      have hDE := hD6.later hbE
      clear hcE hbD hbC
      have far1 : ∀ x, p1 = some x → x.block < sb := fun x e => by obtain ⟨y, hy, hyb⟩ := ad1 x e; have := H_hAs.out y hy; omega
      have far2 : ∀ x, q1 = some x → x.block < sb := fun x e => by obtain ⟨y, hy, hyb⟩ := ad2 x e; have := H_hAs.out y hy; omega
      have far3 : ∀ x, p2 = some x → x.block < sb := fun x e => by obtain ⟨y, hy, hyb⟩ := bd1 x e; have := H_hBs.out y hy; omega
      have far4 : ∀ x, q2 = some x → x.block < sb := fun x e => by obtain ⟨y, hy, hyb⟩ := bd2 x e; have := H_hBs.out y hy; omega
      have hdn1 := H_hz.out p1 p2 za.length zb.length sb l r (k + 1) la lc ra rc wE ia1 ib1 far1 far3 hDE.T H_hG.out hDE.S (by have := H_e3.out; omega) (by have := H_e4.out; omega) (by have := H_e3.out; have := H_e4.out; have := H_e7.out; omega)
      have H_hdn1 := Box.mk hdn1
      have H_far1 := Box.mk far1
      have H_far2 := Box.mk far2
      have H_far3 := Box.mk far3
      have H_far4 := Box.mk far4
      have H_ad1 := Box.mk ad1
      have H_ad2 := Box.mk ad2
      have H_bd1 := Box.mk bd1
      have H_bd2 := Box.mk bd2
      clear hdn1 far1 far2 far3 far4 ad1 ad2 bd1 bd2
      go_wp2_with fail
      with_reducible refine H_hdn1.out.mono ?_
      rintro e wF ⟨rfl, hcF, la1, lc1, ra1, rc1, hSF⟩
      have hTF := hDE.T.below hcF H_hG.out (by have := hSF.p.lt; omega)
      have hdn2 := H_ho.out q1 q2 r1 r2 sb (l ++ D.l) (r ++ D.r) (k + 1 + D.n) la1 lc1 ra1 rc1 wF (ia2.below hcF H_far2.out) (ib2.below hcF H_far4.out) H_far2.out H_far4.out hTF H_hG.out hSF (by have := H_e3.out; have := H_hDl.out; rw [List.length_append]; omega) (by have := H_e4.out; have := H_hDr.out; rw [List.length_append]; omega) (by have := H_e3.out; have := H_e4.out; have := H_e6.out; omega)
      have hbF := hDE.bel.trans hcF
      have H_hdn2 := Box.mk hdn2
      clear hdn2
      clear hSF hTF hcF hDE ia1 ia2 ib1 ib2 hbE hbB
      go_wp2_with fail
      with_reducible refine H_hdn2.out.mono ?_
      rintro e wG ⟨rfl, hcG, la2, lc2, ra2, rc2, hSG⟩
      go_wp2_with fail
      go_ret
      refine ⟨rfl, hbF.trans hcG, la2, lc2, ra2, rc2, ?_⟩
      rw [List.append_assoc, List.append_assoc, show k + 1 + D.n + E.n = k + (1 + D.n + E.n) by omega] at hSG
      exact hSG
    · skip
      go_upto_region 17 with fail
      try simp only [Act.put, List.setIfInBounds_toArray, List.set_cons_succ, List.set_cons_zero]
      refine wp_gen fun wB hcB => ?_
      have hbB := bchain hb32 hcB
      have hXB := hXA.later hcB
      have hYB := hYA.later hcB
      clear hXA hYA hcB
      have hhi : hiA a b = pc a n1 := by unfold hiA; rw [show b.length - 1 = n2 by have := H_hn2.out; omega, show a.length - 1 = n1 by have := H_hn1.out; omega, H_hcm2.out, if_neg (by omega)]
      have hap : ∀ W, Calls Tryd.prog 34 #[.agg xs.toArray, .agg ys.toArray] W fun e w' => e = .returned (.int .i64 N) ∧ Below W.heap.size W w' := fun W => by
        have h := apart_any (pc a 0) (pc a n1) W H_hx.out H_hy.out
        rw [show apN (pc a 0) (pc a n1) = N by rw [← hlo, ← hhi]; exact H_hC.out.ap, ← H_hxs.out, ← H_hys.out] at h
        exact h
      have hcu1 : ∀ W, IdsIn W (some ⟨b1, of1, none⟩) ac a → Calls Tryd.prog 35 #[.slice (some ⟨b1, of1, none⟩) a.length ac, .int .i64 N] W fun e w' => CutR2 (some ⟨b1, of1, none⟩) w' za oa e ∧ Below W.heap.size W w' := fun W h => by
        have := cut_any2 a (some ⟨b1, of1, none⟩) a.length ac N W h rfl (by omega) H_hC.out.hN H_hC.out.catA
        rw [H_eza.out, H_eoa.out] at this; exact this
      have hcu2 : ∀ W, IdsIn W (some ⟨b2, of2, none⟩) bc b → Calls Tryd.prog 35 #[.slice (some ⟨b2, of2, none⟩) b.length bc, .int .i64 N] W fun e w' => CutR2 (some ⟨b2, of2, none⟩) w' zb ob e ∧ Below W.heap.size W w' := fun W h => by
        have := cut_any2 b (some ⟨b2, of2, none⟩) b.length bc N W h rfl (by omega) H_hC.out.hN H_hC.out.catB
        rw [H_ezb.out, H_eob.out] at this; exact this
      have e3 : za.length + oa.length = a.length := by rw [← H_eza.out, ← H_eoa.out, ← List.length_append, H_hC.out.catA]
      have e4 : zb.length + ob.length = b.length := by rw [← H_ezb.out, ← H_eob.out, ← List.length_append, H_hC.out.catB]
      have e5 : 0 < za.length + zb.length := by have := H_hC.out.z; rw [H_eza.out, H_ezb.out] at this; exact this
      have e7 : 0 < oa.length + ob.length := by have := H_hC.out.o; rw [H_eoa.out, H_eob.out] at this; exact this
      have e6 : D.n + 1 ≤ 2 * (za.length + zb.length) := by rcases H_hDn.out with h | h <;> omega
      have H_hap := Box.mk hap
      have H_hcu1 := Box.mk hcu1
      have H_hcu2 := Box.mk hcu2
      have H_hlo := Box.mk hlo
      have H_hhi := Box.mk hhi
      have H_e3 := Box.mk e3
      have H_e4 := Box.mk e4
      have H_e5 := Box.mk e5
      have H_e6 := Box.mk e6
      have H_e7 := Box.mk e7
      clear hap hcu1 hcu2 hlo hhi e3 e4 e5 e6 e7
      go_wp2_with (first | (refine wpList_load_blkG (by rfl) 24 _ rfl b9 (by rfl) 24 xs _ hXB Tryd.underlying24 rfl H_hxsi.out ?_) | (refine wpList_load_blkG (by rfl) 24 _ rfl b10 (by rfl) 24 ys _ hYB Tryd.underlying24 rfl H_hysi.out ?_))
      with_reducible refine (H_hap.out _).mono ?_
      rintro e wC ⟨rfl, hcC⟩
      have hbC := bchain hbB hcC
      clear hcC hXB hYB
      go_wp2_with fail
      with_reducible refine (H_hcu1.out _ (hD6.A.later hbC)).mono ?_
      rintro e wD ⟨⟨p1, q1, r1, rfl, ia1, ia2, ad1, ad2⟩, hcD⟩
      have hbD := bchain hbC hcD
      clear hcD
      go_wp2_with fail
      with_reducible refine (H_hcu2.out _ (hD6.B.later hbD)).mono ?_
      rintro e wE ⟨⟨p2, q2, r2, rfl, ib1, ib2, bd1, bd2⟩, hcE⟩
      have hbE := bchain hbD hcE
      replace ia1 := ia1.later hcE
      replace ia2 := ia2.later hcE
      have hDE := hD6.later hbE
      clear hcE hbD hbC
      have far1 : ∀ x, p1 = some x → x.block < sb := fun x e => by obtain ⟨y, hy, hyb⟩ := ad1 x e; have := H_hAs.out y hy; omega
      have far2 : ∀ x, q1 = some x → x.block < sb := fun x e => by obtain ⟨y, hy, hyb⟩ := ad2 x e; have := H_hAs.out y hy; omega
      have far3 : ∀ x, p2 = some x → x.block < sb := fun x e => by obtain ⟨y, hy, hyb⟩ := bd1 x e; have := H_hBs.out y hy; omega
      have far4 : ∀ x, q2 = some x → x.block < sb := fun x e => by obtain ⟨y, hy, hyb⟩ := bd2 x e; have := H_hBs.out y hy; omega
      have hdn1 := H_hz.out p1 p2 za.length zb.length sb l r (k + 1) la lc ra rc wE ia1 ib1 far1 far3 hDE.T H_hG.out hDE.S (by have := H_e3.out; omega) (by have := H_e4.out; omega) (by have := H_e3.out; have := H_e4.out; have := H_e7.out; omega)
      have H_hdn1 := Box.mk hdn1
      have H_far1 := Box.mk far1
      have H_far2 := Box.mk far2
      have H_far3 := Box.mk far3
      have H_far4 := Box.mk far4
      have H_ad1 := Box.mk ad1
      have H_ad2 := Box.mk ad2
      have H_bd1 := Box.mk bd1
      have H_bd2 := Box.mk bd2
      clear hdn1 far1 far2 far3 far4 ad1 ad2 bd1 bd2
      go_wp2_with fail
      with_reducible refine H_hdn1.out.mono ?_
      rintro e wF ⟨rfl, hcF, la1, lc1, ra1, rc1, hSF⟩
      have hTF := hDE.T.below hcF H_hG.out (by have := hSF.p.lt; omega)
      have hdn2 := H_ho.out q1 q2 r1 r2 sb (l ++ D.l) (r ++ D.r) (k + 1 + D.n) la1 lc1 ra1 rc1 wF (ia2.below hcF H_far2.out) (ib2.below hcF H_far4.out) H_far2.out H_far4.out hTF H_hG.out hSF (by have := H_e3.out; have := H_hDl.out; rw [List.length_append]; omega) (by have := H_e4.out; have := H_hDr.out; rw [List.length_append]; omega) (by have := H_e3.out; have := H_e4.out; have := H_e6.out; omega)
      have hbF := hDE.bel.trans hcF
      have H_hdn2 := Box.mk hdn2
      clear hdn2
      clear hSF hTF hcF hDE ia1 ia2 ib1 ib2 hbE hbB
      go_wp2_with fail
      with_reducible refine H_hdn2.out.mono ?_
      rintro e wG ⟨rfl, hcG, la2, lc2, ra2, rc2, hSG⟩
      go_wp2_with fail
      go_ret
      refine ⟨rfl, hbF.trans hcG, la2, lc2, ra2, rc2, ?_⟩
      rw [List.append_assoc, List.append_assoc, show k + 1 + D.n + E.n = k + (1 + D.n + E.n) by omega] at hSG
      exact hSG

end Go.Proofs.YtfabcdpmnbeflaaDoor

/- down: all lists. -/
namespace Go.Proofs.YtfabcdpmnbeflaaDoor
open Go.RowKit
set_option linter.unusedVariables false

theorem down_ok : ∀ (m : Nat) (a b : List (List Int)), IncL a → IncL b → a.length ≤ 60 → b.length ≤ 60 → a.length + b.length ≤ m → DownOk a b (descF m a b) := by
  intro m
  induction m with
  | zero =>
    intro a b ha hb h1 h2 hm
    obtain rfl : a = [] := List.eq_nil_of_length_eq_zero (by omega)
    obtain rfl : b = [] := List.eq_nil_of_length_eq_zero (by omega)
    exact down_same [] [] ha hb h1 h2 rfl
  | succ m ih =>
    intro a b ha hb h1 h2 hm
    by_cases hr : rootP a = rootP b
    · rw [descF_eq hr]; exact down_same a b ha hb h1 h2 hr
    · by_cases hl : a.length < 2 ∨ b.length < 2
      · rw [descF_few hr hl]; exact down_few a b ha hb h1 h2 hr hl
      · obtain ⟨N, hN⟩ : ∃ N, splitN (a ++ b) = N := ⟨_, rfl⟩
        have hC := cutU ha hb (by omega) (by omega)
        rw [hN] at hC
        rw [descF_more hr hl hN]
        have la := cut_lens a N
        have lb := cut_lens b N
        have cz := hC.z
        have co := hC.o
        have iz := ih (zerosL a N) (zerosL b N) (ha.zeros _) (hb.zeros _) (by omega) (by omega) (by omega)
        have io := ih (onesL a N) (onesL b N) (ha.ones _) (hb.ones _) (by omega) (by omega) (by omega)
        obtain ⟨p1, p2, p3, p4⟩ := descF_facts m (zerosL a N) (zerosL b N) (ha.zeros _) (hb.zeros _) (by omega)
        exact down_more a b _ _ _ _ N _ _ ha hb h1 h2 hr (by omega) (by omega) hC rfl rfl rfl rfl iz io p1 p2 p4

end Go.Proofs.YtfabcdpmnbeflaaDoor

/- The reference's Apart. -/
namespace Go.Proofs.YtfabcdpmnbeflaaDoor
set_option linter.unusedSimpArgs false
set_option linter.unusedVariables false
set_option linter.unnecessarySimpa false
open Go.RowKit
set_option maxRecDepth 100000

def apartF : Nat → List (List Int) → List (List Int) → Bool
  | 0, _, _ => true
  | m + 1, a, b =>
    if a = b then true else if rootP a = rootP b then false
    else if a.length < 2 ∨ b.length < 2 then true
    else apartF m (zerosL a (splitN (a ++ b))) (zerosL b (splitN (a ++ b))) && apartF m (onesL a (splitN (a ++ b))) (onesL b (splitN (a ++ b)))
def RApartOk (a b : List (List Int)) (V : Bool) : Prop := ∀ (aa ba : Option Addr) (ac bc : Nat) (w : World), IdsIn w aa ac a → IdsIn w ba bc b →
  Calls Tryd.prog 23 #[.slice aa a.length ac, .slice ba b.length bc] w fun e w' => e = .returned (.bool V) ∧ Below w.heap.size w w'
theorem rapart_eq (a : List (List Int)) (h60 : a.length ≤ 60) : RApartOk a a true := by
  intro aa ba ac bc w hA hB
  have hs := fun W (h1 : IdsIn W aa ac a) (h2 : IdsIn W ba bc a) => sameIds_any a a aa ba a.length a.length ac bc W h1 h2 rfl rfl (by unfold maxLen; omega) (by unfold maxLen; omega)
  have e : decide (a = a) = true := by simp
  rw [e] at hs
  have H_hs := Box.mk hs
  have H_hA := Box.mk hA
  have H_hB := Box.mk hB
  clear hs hA hB
  go_enter Tryd.func23, Tryd.ntmps23
  have hb0 := Below.refl w.heap.size w
  go_wp2_with fail
  with_reducible refine (H_hs.out _ H_hA.out H_hB.out).mono ?_
  rintro e w1 ⟨rfl, hc1⟩
  have hb1 : Below w.heap.size w w1 := bchain (by repeat' (first | with_reducible exact hb0 | with_reducible refine Below.drew ?_ | with_reducible refine below_drewN ?_ _ | with_reducible refine Below.alloc ?_ (by have := hb0.size; first | (simp; done) | (simp; omega) | omega) _ | with_reducible refine Below.setCell ?_ (by first | (simp; done) | (simp; omega) | omega) _)) hc1
  clear hc1 hb0
  go_wp2_with fail
  go_ret
  exact ⟨rfl, hb1⟩
theorem rapart_same (a b : List (List Int)) (ha : IncL a) (hb : IncL b) (h60 : a.length ≤ 60) (h60b : b.length ≤ 60) (hne : a ≠ b) (hrr : rootP a = rootP b) : RApartOk a b false := by
  intro aa ba ac bc w hA hB
  have hs := fun W (h1 : IdsIn W aa ac a) (h2 : IdsIn W ba bc b) => sameIds_any a b aa ba a.length b.length ac bc W h1 h2 rfl rfl (by unfold maxLen; omega) (by unfold maxLen; omega)
  rw [show decide (a = b) = false by simpa using hne] at hs
  have hra := fun (W : World) (h1 : IdsIn W aa ac a) => rof_ok a.length a (Nat.le_refl _) (by omega) ha aa ac W h1
  have hrb := fun (W : World) (h1 : IdsIn W ba bc b) => rof_ok b.length b (Nat.le_refl _) (by omega) hb ba bc W h1
  have heq := fun w => eq_ids (rootP a) (rootP b) (rootP_id a).len (rootP_id b).len w
  obtain ⟨us, hus⟩ : ∃ v, v = idC (rootP a) := ⟨_, rfl⟩
  have husl := idC_len (rootP_id a)
  have husi := idC_info (rootP_id a)
  have huso := idC_one (rootP a)
  rw [← hus] at husl husi huso
  have husr : us.length = (List.replicate 32 (Value.int .u8 0)).length := by rw [husl]; rfl
  obtain ⟨vs, hvs⟩ : ∃ v, v = idC (rootP b) := ⟨_, rfl⟩
  have hvsl := idC_len (rootP_id b)
  have hvsi := idC_info (rootP_id b)
  have hvso := idC_one (rootP b)
  rw [← hvs] at hvsl hvsi hvso
  have hvsr : vs.length = (List.replicate 32 (Value.int .u8 0)).length := by rw [hvsl]; rfl
  obtain ⟨bb, hbb⟩ : ∃ bb, (rootP a == rootP b) = bb := ⟨_, rfl⟩
  have heq' : ∀ w, (Op.equalIn 10000 24 (.agg us.toArray) (.agg vs.toArray)).run Tryd.prog w = .ok bb w := fun w => by
    rw [hus, hvs, ← hbb]; exact heq w
  simp only [← hus] at hra
  simp only [← hvs] at hrb
  have H_hs := Box.mk hs
  have H_hA := Box.mk hA
  have H_hB := Box.mk hB
  have H_hus := Box.mk hus
  have H_husl := Box.mk husl
  have H_husi := Box.mk husi
  have H_huso := Box.mk huso
  have H_husr := Box.mk husr
  have H_hvs := Box.mk hvs
  have H_hvsl := Box.mk hvsl
  have H_hvsi := Box.mk hvsi
  have H_hvso := Box.mk hvso
  have H_hvsr := Box.mk hvsr
  have H_hra := Box.mk hra
  have H_hrb := Box.mk hrb
  have H_hbb := Box.mk hbb
  have H_heq := Box.mk heq
  have H_ha := Box.mk ha
  have H_hb := Box.mk hb
  have H_hne := Box.mk hne
  clear hs hA hB hus husl husi huso husr hvs hvsl hvsi hvso hvsr hra hrb hbb heq ha hb hne
  go_enter Tryd.func23, Tryd.ntmps23
  have hb0 := Below.refl w.heap.size w
  go_wp2_with fail
  with_reducible refine (H_hs.out _ H_hA.out H_hB.out).mono ?_
  rintro e w1 ⟨rfl, hc1⟩
  have hb1 : Below w.heap.size w w1 := bchain (by repeat' (first | with_reducible exact hb0 | with_reducible refine Below.drew ?_ | with_reducible refine below_drewN ?_ _ | with_reducible refine Below.alloc ?_ (by have := hb0.size; first | (simp; done) | (simp; omega) | omega) _ | with_reducible refine Below.setCell ?_ (by first | (simp; done) | (simp; omega) | omega) _)) hc1
  clear hc1 hb0
  go_wp2_with fail
  with_reducible refine (H_hra.out _ (H_hA.out.later hb1)).mono ?_
  rintro e w2 ⟨rfl, hc2⟩
  have hb2 : Below w.heap.size w w2 := bchain (by repeat' (first | with_reducible exact hb1 | with_reducible refine Below.drew ?_ | with_reducible refine below_drewN ?_ _ | with_reducible refine Below.alloc ?_ (by have := hb1.size; first | (simp; done) | (simp; omega) | omega) _ | with_reducible refine Below.setCell ?_ (by first | (simp; done) | (simp; omega) | omega) _)) hc2
  clear hc2 hb1
  go_wp2_with fail
  with_reducible refine (H_hrb.out _ (H_hB.out.later hb2)).mono ?_
  rintro e w3 ⟨rfl, hc3⟩
  have hb3 : Below w.heap.size w w3 := bchain (by repeat' (first | with_reducible exact hb2 | with_reducible refine Below.drew ?_ | with_reducible refine below_drewN ?_ _ | with_reducible refine Below.alloc ?_ (by have := hb2.size; first | (simp; done) | (simp; omega) | omega) _ | with_reducible refine Below.setCell ?_ (by first | (simp; done) | (simp; omega) | omega) _)) hc3
  clear hc3 hb2
  obtain rfl : bb = true := by rw [← H_hbb.out, hrr]; simp
  go_wp2_with fail
  go_ret
  exact ⟨rfl, hb3⟩
theorem rapart_few (a b : List (List Int)) (ha : IncL a) (hb : IncL b) (h60 : a.length ≤ 60) (h60b : b.length ≤ 60) (hne : a ≠ b) (hrr : rootP a ≠ rootP b) (h2 : a.length < 2 ∨ b.length < 2) : RApartOk a b true := by
  intro aa ba ac bc w hA hB
  have hs := fun W (h1 : IdsIn W aa ac a) (h2 : IdsIn W ba bc b) => sameIds_any a b aa ba a.length b.length ac bc W h1 h2 rfl rfl (by unfold maxLen; omega) (by unfold maxLen; omega)
  rw [show decide (a = b) = false by simpa using hne] at hs
  have hra := fun (W : World) (h1 : IdsIn W aa ac a) => rof_ok a.length a (Nat.le_refl _) (by omega) ha aa ac W h1
  have hrb := fun (W : World) (h1 : IdsIn W ba bc b) => rof_ok b.length b (Nat.le_refl _) (by omega) hb ba bc W h1
  have heq := fun w => eq_ids (rootP a) (rootP b) (rootP_id a).len (rootP_id b).len w
  obtain ⟨us, hus⟩ : ∃ v, v = idC (rootP a) := ⟨_, rfl⟩
  have husl := idC_len (rootP_id a)
  have husi := idC_info (rootP_id a)
  have huso := idC_one (rootP a)
  rw [← hus] at husl husi huso
  have husr : us.length = (List.replicate 32 (Value.int .u8 0)).length := by rw [husl]; rfl
  obtain ⟨vs, hvs⟩ : ∃ v, v = idC (rootP b) := ⟨_, rfl⟩
  have hvsl := idC_len (rootP_id b)
  have hvsi := idC_info (rootP_id b)
  have hvso := idC_one (rootP b)
  rw [← hvs] at hvsl hvsi hvso
  have hvsr : vs.length = (List.replicate 32 (Value.int .u8 0)).length := by rw [hvsl]; rfl
  obtain ⟨bb, hbb⟩ : ∃ bb, (rootP a == rootP b) = bb := ⟨_, rfl⟩
  have heq' : ∀ w, (Op.equalIn 10000 24 (.agg us.toArray) (.agg vs.toArray)).run Tryd.prog w = .ok bb w := fun w => by
    rw [hus, hvs, ← hbb]; exact heq w
  simp only [← hus] at hra
  simp only [← hvs] at hrb
  have H_hs := Box.mk hs
  have H_hA := Box.mk hA
  have H_hB := Box.mk hB
  have H_hus := Box.mk hus
  have H_husl := Box.mk husl
  have H_husi := Box.mk husi
  have H_huso := Box.mk huso
  have H_husr := Box.mk husr
  have H_hvs := Box.mk hvs
  have H_hvsl := Box.mk hvsl
  have H_hvsi := Box.mk hvsi
  have H_hvso := Box.mk hvso
  have H_hvsr := Box.mk hvsr
  have H_hra := Box.mk hra
  have H_hrb := Box.mk hrb
  have H_hbb := Box.mk hbb
  have H_heq := Box.mk heq
  have H_ha := Box.mk ha
  have H_hb := Box.mk hb
  have H_hne := Box.mk hne
  clear hs hA hB hus husl husi huso husr hvs hvsl hvsi hvso hvsr hra hrb hbb heq ha hb hne
  go_enter Tryd.func23, Tryd.ntmps23
  have hb0 := Below.refl w.heap.size w
  go_wp2_with fail
  with_reducible refine (H_hs.out _ H_hA.out H_hB.out).mono ?_
  rintro e w1 ⟨rfl, hc1⟩
  have hb1 : Below w.heap.size w w1 := bchain (by repeat' (first | with_reducible exact hb0 | with_reducible refine Below.drew ?_ | with_reducible refine below_drewN ?_ _ | with_reducible refine Below.alloc ?_ (by have := hb0.size; first | (simp; done) | (simp; omega) | omega) _ | with_reducible refine Below.setCell ?_ (by first | (simp; done) | (simp; omega) | omega) _)) hc1
  clear hc1 hb0
  go_wp2_with fail
  with_reducible refine (H_hra.out _ (H_hA.out.later hb1)).mono ?_
  rintro e w2 ⟨rfl, hc2⟩
  have hb2 : Below w.heap.size w w2 := bchain (by repeat' (first | with_reducible exact hb1 | with_reducible refine Below.drew ?_ | with_reducible refine below_drewN ?_ _ | with_reducible refine Below.alloc ?_ (by have := hb1.size; first | (simp; done) | (simp; omega) | omega) _ | with_reducible refine Below.setCell ?_ (by first | (simp; done) | (simp; omega) | omega) _)) hc2
  clear hc2 hb1
  go_wp2_with fail
  with_reducible refine (H_hrb.out _ (H_hB.out.later hb2)).mono ?_
  rintro e w3 ⟨rfl, hc3⟩
  have hb3 : Below w.heap.size w w3 := bchain (by repeat' (first | with_reducible exact hb2 | with_reducible refine Below.drew ?_ | with_reducible refine below_drewN ?_ _ | with_reducible refine Below.alloc ?_ (by have := hb2.size; first | (simp; done) | (simp; omega) | omega) _ | with_reducible refine Below.setCell ?_ (by first | (simp; done) | (simp; omega) | omega) _)) hc3
  clear hc3 hb2
  obtain rfl : bb = false := by rw [← H_hbb.out]; simpa using hrr
  rcases (show a.length < 2 ∨ (2 ≤ a.length ∧ b.length < 2) by omega) with h2a | ⟨h2a, h2b⟩
  · have h2I : (a.length : Int) < 2 := by omega
    go_wp2_with fail
    go_ret
    exact ⟨rfl, hb3⟩
  · have h2I : (2 : Int) ≤ (a.length : Int) := by omega
    have h2J : (b.length : Int) < 2 := by omega
    go_wp2_with fail
    go_ret
    exact ⟨rfl, hb3⟩

set_option maxHeartbeats 4000000 in
theorem rapart_more (a b za zb oa ob : List (List Int)) (N : Nat) (x y : Bool) (ha : IncL a) (hb : IncL b) (h60 : a.length ≤ 60) (h60b : b.length ≤ 60) (hne : a ≠ b) (hrr : rootP a ≠ rootP b) (h2 : 2 ≤ a.length) (k2 : 2 ≤ b.length) (hC : CutU a b N) (eza : zerosL a N = za) (ezb : zerosL b N = zb) (eoa : onesL a N = oa) (eob : onesL b N = ob) (hz : RApartOk za zb x) (ho : RApartOk oa ob y) : RApartOk a b (x && y) := by
  obtain ⟨i0, hi, hz0, hz1, hz2⟩ := info_parts info_id32
  have hil := idsC_len ha.ids
  have hib := idsC_len hb.ids
  have hids : ∀ q ∈ a ++ b, IdIn q := fun q hq => (List.mem_append.1 hq).elim (ha.ids q) (hb.ids q)
  have c1 := fun (aa : Option Addr) (ac : Nat) (W : World) (h : IdsIn W aa ac a) => rcut_any a aa a.length ac N false W h rfl (by omega) hC.hN
  have c2 := fun (aa : Option Addr) (ac : Nat) (W : World) (h : IdsIn W aa ac b) => rcut_any b aa b.length ac N false W h rfl (by omega) hC.hN
  have c3 := fun (aa : Option Addr) (ac : Nat) (W : World) (h : IdsIn W aa ac a) => rcut_any a aa a.length ac N true W h rfl (by omega) hC.hN
  have c4 := fun (aa : Option Addr) (ac : Nat) (W : World) (h : IdsIn W aa ac b) => rcut_any b aa b.length ac N true W h rfl (by omega) hC.hN
  simp only [cutL_zeros, cutL_ones, eza, ezb, eoa, eob] at c1 c2 c3 c4
  have j1 := fun q (hq : q ∈ za) => ha.ids q (List.mem_filter.1 (eza ▸ hq)).1
  have j2 := fun q (hq : q ∈ zb) => hb.ids q (List.mem_filter.1 (ezb ▸ hq)).1
  have j3 := fun q (hq : q ∈ oa) => ha.ids q (List.mem_filter.1 (eoa ▸ hq)).1
  have j4 := fun q (hq : q ∈ ob) => hb.ids q (List.mem_filter.1 (eob ▸ hq)).1
  have H_hil := Box.mk hil
  have H_hib := Box.mk hib
  have H_hids := Box.mk hids
  have H_c1 := Box.mk c1
  have H_c2 := Box.mk c2
  have H_c3 := Box.mk c3
  have H_c4 := Box.mk c4
  have H_j1 := Box.mk j1
  have H_j2 := Box.mk j2
  have H_j3 := Box.mk j3
  have H_j4 := Box.mk j4
  have H_hC := Box.mk hC
  have H_eza := Box.mk eza
  have H_ezb := Box.mk ezb
  have H_eoa := Box.mk eoa
  have H_eob := Box.mk eob
  have H_hz := Box.mk hz
  have H_ho := Box.mk ho
  clear hil hib hids c1 c2 c3 c4 j1 j2 j3 j4 hC eza ezb eoa eob hz ho
  intro aa ba ac bc w hA hB
  have hs := fun W (h1 : IdsIn W aa ac a) (h2 : IdsIn W ba bc b) => sameIds_any a b aa ba a.length b.length ac bc W h1 h2 rfl rfl (by unfold maxLen; omega) (by unfold maxLen; omega)
  rw [show decide (a = b) = false by simpa using hne] at hs
  have hra := fun (W : World) (h1 : IdsIn W aa ac a) => rof_ok a.length a (Nat.le_refl _) (by omega) ha aa ac W h1
  have hrb := fun (W : World) (h1 : IdsIn W ba bc b) => rof_ok b.length b (Nat.le_refl _) (by omega) hb ba bc W h1
  have heq := fun w => eq_ids (rootP a) (rootP b) (rootP_id a).len (rootP_id b).len w
  obtain ⟨us, hus⟩ : ∃ v, v = idC (rootP a) := ⟨_, rfl⟩
  have husl := idC_len (rootP_id a)
  have husi := idC_info (rootP_id a)
  have huso := idC_one (rootP a)
  rw [← hus] at husl husi huso
  have husr : us.length = (List.replicate 32 (Value.int .u8 0)).length := by rw [husl]; rfl
  obtain ⟨vs, hvs⟩ : ∃ v, v = idC (rootP b) := ⟨_, rfl⟩
  have hvsl := idC_len (rootP_id b)
  have hvsi := idC_info (rootP_id b)
  have hvso := idC_one (rootP b)
  rw [← hvs] at hvsl hvsi hvso
  have hvsr : vs.length = (List.replicate 32 (Value.int .u8 0)).length := by rw [hvsl]; rfl
  obtain ⟨bb, hbb⟩ : ∃ bb, (rootP a == rootP b) = bb := ⟨_, rfl⟩
  have heq' : ∀ w, (Op.equalIn 10000 24 (.agg us.toArray) (.agg vs.toArray)).run Tryd.prog w = .ok bb w := fun w => by
    rw [hus, hvs, ← hbb]; exact heq w
  simp only [← hus] at hra
  simp only [← hvs] at hrb
  have H_hs := Box.mk hs
  have H_hA := Box.mk hA
  have H_hB := Box.mk hB
  have H_hus := Box.mk hus
  have H_husl := Box.mk husl
  have H_husi := Box.mk husi
  have H_huso := Box.mk huso
  have H_husr := Box.mk husr
  have H_hvs := Box.mk hvs
  have H_hvsl := Box.mk hvsl
  have H_hvsi := Box.mk hvsi
  have H_hvso := Box.mk hvso
  have H_hvsr := Box.mk hvsr
  have H_hra := Box.mk hra
  have H_hrb := Box.mk hrb
  have H_hbb := Box.mk hbb
  have H_heq := Box.mk heq
  have H_ha := Box.mk ha
  have H_hb := Box.mk hb
  have H_hne := Box.mk hne
  clear hs hA hB hus husl husi huso husr hvs hvsl hvsi hvso hvsr hra hrb hbb heq ha hb hne
  go_enter Tryd.func23, Tryd.ntmps23
  have hb0 := Below.refl w.heap.size w
  go_wp2_with fail
  with_reducible refine (H_hs.out _ H_hA.out H_hB.out).mono ?_
  rintro e w1 ⟨rfl, hc1⟩
  have hb1 : Below w.heap.size w w1 := bchain (by repeat' (first | with_reducible exact hb0 | with_reducible refine Below.drew ?_ | with_reducible refine below_drewN ?_ _ | with_reducible refine Below.alloc ?_ (by have := hb0.size; first | (simp; done) | (simp; omega) | omega) _ | with_reducible refine Below.setCell ?_ (by first | (simp; done) | (simp; omega) | omega) _)) hc1
  clear hc1 hb0
  go_wp2_with fail
  with_reducible refine (H_hra.out _ (H_hA.out.later hb1)).mono ?_
  rintro e w2 ⟨rfl, hc2⟩
  have hb2 : Below w.heap.size w w2 := bchain (by repeat' (first | with_reducible exact hb1 | with_reducible refine Below.drew ?_ | with_reducible refine below_drewN ?_ _ | with_reducible refine Below.alloc ?_ (by have := hb1.size; first | (simp; done) | (simp; omega) | omega) _ | with_reducible refine Below.setCell ?_ (by first | (simp; done) | (simp; omega) | omega) _)) hc2
  clear hc2 hb1
  go_wp2_with fail
  with_reducible refine (H_hrb.out _ (H_hB.out.later hb2)).mono ?_
  rintro e w3 ⟨rfl, hc3⟩
  have hb3 : Below w.heap.size w w3 := bchain (by repeat' (first | with_reducible exact hb2 | with_reducible refine Below.drew ?_ | with_reducible refine below_drewN ?_ _ | with_reducible refine Below.alloc ?_ (by have := hb2.size; first | (simp; done) | (simp; omega) | omega) _ | with_reducible refine Below.setCell ?_ (by first | (simp; done) | (simp; omega) | omega) _)) hc3
  clear hc3 hb2
  obtain rfl : bb = false := by rw [← H_hbb.out]; simpa using hrr
  have h2I : (2 : Int) ≤ (a.length : Int) := by omega
  have k2I : (2 : Int) ≤ (b.length : Int) := by omega
  go_upto_region 7 with fail
  go_wp2_with (at_builtin; refine stop ?_)
  refine Stop.go ?_
  refine wpList_append_x _ rfl _ _ 22 rfl w3.heap.size 24 i0 _ 32 32 Tryd.underlying22 hi hz0 hz1 hz2 oneCell_idz (by decide) _ 0 [] rfl (OwnX.made _ [] _ _ 0 _ (Nat.le_refl _) (by simp [maxLen]) rfl) aa a.length ac (idsC a) rfl H_hil.out ((H_hA.out.later hb3).cells.alloc _) (idsC_one _) (by unfold maxLen; omega) (by omega) (by simp) ?_
  intro a4 c4 w4 o4 hg4 _
  rw [Nat.zero_add, List.nil_append] at o4
  have hb34 : Below w3.heap.size w3 w4 := below_grownX ((Below.refl w3.heap.size w3).alloc (Nat.le_refl _) _) hg4 (by simp) (fun k hk => ((OwnX.made w3 [] _ 0 0 32 (Nat.le_refl _) (by simp [maxLen]) rfl).lt k hk).1)
  have hb4 := bchain hb3 hb34
  clear hg4
  go_wp2_with (at_builtin; refine stop ?_)
  refine Stop.go ?_
  refine wpList_append_x _ rfl _ _ 22 rfl w3.heap.size 24 i0 _ 32 32 Tryd.underlying22 hi hz0 hz1 hz2 oneCell_idz (by decide) (.slice a4 a.length c4) a.length _ rfl o4 ba b.length bc (idsC b) rfl H_hib.out (H_hB.out.later hb4).cells (idsC_one _) (by unfold maxLen; omega) (by omega) hb34.size ?_
  intro a5 c5 w5 o5 hg5 _
  rw [← idsC_append] at o5
  have hb35 : Below w3.heap.size w3 w5 := below_grownX hb34 hg5 hb34.size (fun k hk => (o4.lt k hk).1)
  have hb5 := bchain hb3 hb35
  have hI5 : IdsIn w5 a5 c5 (a ++ b) := o5.idsIn (by simp) H_hids.out
  clear hg5 o4 o5 hb34 hb35 hb4
  go_wp2_with fail
  with_reducible refine (rsplit_any (a ++ b) a5 (a.length + b.length) c5 N w5 hI5 (by rw [List.length_append]) (by omega) H_hC.out.is).mono ?_
  rintro e w6 ⟨rfl, hc6⟩
  have hb6 := bchain hb5 hc6
  clear hc6 hI5
  go_wp2_with fail
  with_reducible refine (H_c1.out _ _ _ (H_hA.out.later hb6)).mono ?_
  rintro e w7 ⟨⟨p1, q1, rfl, o1⟩, hc7⟩
  have hb7 := bchain hb6 hc7
  have i1 := o1.idsIn rfl H_j1.out
  clear hc7 o1
  go_wp2_with fail
  with_reducible refine (H_c2.out _ _ _ (H_hB.out.later hb7)).mono ?_
  rintro e w8 ⟨⟨p2, q2, rfl, o2⟩, hc8⟩
  have hb8 := bchain hb7 hc8
  have i1 := i1.later hc8
  have i2 := o2.idsIn rfl H_j2.out
  clear hc8 o2
  go_wp2_with fail
  have hz' := H_hz.out p1 p2 _ _ w8 i1 i2
  with_reducible refine hz'.mono ?_
  rintro e w9 ⟨rfl, hc9⟩
  have hb9 := bchain hb8 hc9
  clear hc9 i1 i2
  cases x with
  | false =>
    go_wp2_with fail
    go_ret
    exact ⟨rfl, hb9⟩
  | true =>
    go_wp2_with fail
    with_reducible refine (H_c3.out _ _ _ (H_hA.out.later hb9)).mono ?_
    rintro e w10 ⟨⟨p1, q1, rfl, o1⟩, hc10⟩
    have hb10 := bchain hb9 hc10
    have i1 := o1.idsIn rfl H_j3.out
    clear hc10 o1
    go_wp2_with fail
    with_reducible refine (H_c4.out _ _ _ (H_hB.out.later hb10)).mono ?_
    rintro e w11 ⟨⟨p2, q2, rfl, o2⟩, hc11⟩
    have hb11 := bchain hb10 hc11
    have i1 := i1.later hc11
    have i2 := o2.idsIn rfl H_j4.out
    clear hc11 o2
    go_wp2_with fail
    have ho' := H_ho.out p1 p2 _ _ w11 i1 i2
    with_reducible refine ho'.mono ?_
    rintro e w12 ⟨rfl, hc12⟩
    have hb12 := bchain hb11 hc12
    go_wp2_with fail
    go_ret
    exact ⟨by cases y <;> rfl, hb12⟩
theorem rapart_ok : ∀ (m : Nat) (a b : List (List Int)), IncL a → IncL b → a.length ≤ 60 → b.length ≤ 60 → a.length + b.length ≤ m → RApartOk a b (apartF m a b) := by
  intro m
  induction m with
  | zero =>
    intro a b ha hb h1 h2 hm
    obtain rfl : a = [] := List.eq_nil_of_length_eq_zero (by omega)
    obtain rfl : b = [] := List.eq_nil_of_length_eq_zero (by omega)
    exact rapart_eq [] h1
  | succ m ih =>
    intro a b ha hb h1 h2 hm
    unfold apartF
    by_cases hne : a = b
    · subst hne; rw [if_pos rfl]; exact rapart_eq a h1
    · rw [if_neg hne]
      by_cases hr : rootP a = rootP b
      · rw [if_pos hr]; exact rapart_same a b ha hb h1 h2 hne hr
      · rw [if_neg hr]
        by_cases hf : a.length < 2 ∨ b.length < 2
        · rw [if_pos hf]; exact rapart_few a b ha hb h1 h2 hne hr hf
        · rw [if_neg hf]
          have hC := cutU ha hb (by omega) (by omega)
          have la := cut_lens a (splitN (a ++ b))
          have lb := cut_lens b (splitN (a ++ b))
          have cz := hC.z
          have co := hC.o
          exact rapart_more a b _ _ _ _ _ _ _ ha hb h1 h2 hne hr (by omega) (by omega) hC rfl rfl rfl rfl (ih _ _ (ha.zeros _) (hb.zeros _) (by omega) (by omega) (by omega)) (ih _ _ (ha.ones _) (hb.ones _) (by omega) (by omega) (by omega))

end Go.Proofs.YtfabcdpmnbeflaaDoor

/- Descending: its mirror; what it finds where different lists have different digests. -/
namespace Go.Proofs.YtfabcdpmnbeflaaDoor
open Go.RowKit
set_option linter.unusedVariables false

theorem isSplit_comm {a b : List (List Int)} {N : Nat} (h : IsSplit (a ++ b) N) : IsSplit (b ++ a) N := by
  have sw : ∀ z, z ∈ b ++ a ↔ z ∈ a ++ b := fun z => by rw [List.mem_append, List.mem_append]; exact or_comm
  obtain ⟨h1, h2, x, hx, y, hy, h3⟩ := h
  exact ⟨h1, fun j hj x hx y hy => h2 j hj x ((sw x).1 hx) y ((sw y).1 hy), x, (sw x).2 hx, y, (sw y).2 hy, h3⟩
theorem descF_mirror : ∀ (m : Nat) (a b : List (List Int)), IncL a → IncL b → a.length + b.length ≤ m → descF m b a = ⟨(descF m a b).r, (descF m a b).l, (descF m a b).n⟩ := by
  intro m
  induction m with
  | zero => intro a b _ _ _; rfl
  | succ m ih =>
    intro a b ha hb hm
    by_cases hr : rootP a = rootP b
    · rw [descF_eq hr, descF_eq hr.symm]
    · by_cases h2 : a.length < 2 ∨ b.length < 2
      · rw [descF_few hr h2, descF_few (Ne.symm hr) h2.symm]
      · obtain ⟨N, hN⟩ : ∃ N, splitN (a ++ b) = N := ⟨_, rfl⟩
        have hC := cutU ha hb (by omega) (by omega)
        rw [hN] at hC
        have hN' : splitN (b ++ a) = N := (isSplit_comm hC.is).eq
        rw [descF_more hr h2 hN, descF_more (Ne.symm hr) (fun h => h2 h.symm) hN']
        have la := cut_lens a N
        have lb := cut_lens b N
        have cz := hC.z
        have co := hC.o
        rw [ih (zerosL a N) (zerosL b N) (ha.zeros _) (hb.zeros _) (by omega), ih (onesL a N) (onesL b N) (ha.ones _) (hb.ones _) (by omega)]
theorem lack_self (a : List (List Int)) : lackP a a = [] := by
  unfold lackP
  rw [List.filter_eq_nil_iff]
  intro x hx
  simp [hx]
theorem lack_cut {a b : List (List Int)} {N : Nat} (h : CutU a b N) : lackP a b = lackP (zerosL a N) (zerosL b N) ++ lackP (onesL a N) (onesL b N) := by
  have hz : ∀ x, x ∈ zerosL a N → (x ∈ b ↔ x ∈ zerosL b N) := fun x hx => by
    have h1 := (List.mem_filter.1 hx).2
    exact ⟨fun hb => List.mem_filter.2 ⟨hb, h1⟩, fun hb => (List.mem_filter.1 hb).1⟩
  have ho : ∀ x, x ∈ onesL a N → (x ∈ b ↔ x ∈ onesL b N) := fun x hx => by
    have h1 := (List.mem_filter.1 hx).2
    exact ⟨fun hb => List.mem_filter.2 ⟨hb, h1⟩, fun hb => (List.mem_filter.1 hb).1⟩
  conv => lhs; rw [← h.catA]
  unfold lackP
  rw [List.filter_append]
  congr 1
  · exact List.filter_congr fun x hx => by rw [decide_eq_decide.2 (hz x hx)]
  · exact List.filter_congr fun x hx => by rw [decide_eq_decide.2 (ho x hx)]
theorem CutU.swap {a b : List (List Int)} {N : Nat} (ha : IncL a) (hb : IncL b) (h : CutU a b N) (h2 : 2 ≤ b.length) (k2 : 0 < a.length) : CutU b a N := by
  have := cutU hb ha h2 k2
  rw [(isSplit_comm h.is).eq] at this
  exact this
theorem apart_found : ∀ (m : Nat) (a b : List (List Int)), IncL a → IncL b → a.length + b.length ≤ m → apartF m a b = true → (descF m a b).l = lackP a b ∧ (descF m a b).r = lackP b a := by
  intro m
  induction m with
  | zero =>
    intro a b _ _ hm _
    obtain rfl : a = [] := List.eq_nil_of_length_eq_zero (by omega)
    obtain rfl : b = [] := List.eq_nil_of_length_eq_zero (by omega)
    exact ⟨rfl, rfl⟩
  | succ m ih =>
    intro a b ha hb hm hap
    unfold apartF at hap
    by_cases hne : a = b
    · subst hne
      rw [descF_eq rfl, lack_self]; exact ⟨rfl, rfl⟩
    · rw [if_neg hne] at hap
      by_cases hr : rootP a = rootP b
      · rw [if_pos hr] at hap; cases hap
      · rw [if_neg hr] at hap
        by_cases h2 : a.length < 2 ∨ b.length < 2
        · rw [descF_few hr h2]; exact ⟨rfl, rfl⟩
        · rw [if_neg h2] at hap
          obtain ⟨N, hN⟩ : ∃ N, splitN (a ++ b) = N := ⟨_, rfl⟩
          have hC := cutU ha hb (by omega) (by omega)
          rw [hN] at hC hap
          rw [descF_more hr h2 hN]
          have la := cut_lens a N
          have lb := cut_lens b N
          have cz := hC.z
          have co := hC.o
          simp only [Bool.and_eq_true] at hap
          obtain ⟨p1, p2⟩ := ih (zerosL a N) (zerosL b N) (ha.zeros _) (hb.zeros _) (by omega) hap.1
          obtain ⟨q1, q2⟩ := ih (onesL a N) (onesL b N) (ha.ones _) (hb.ones _) (by omega) hap.2
          have hC' := CutU.swap ha hb hC (by omega) (by omega)
          simp only [p1, p2, q1, q2]
          exact ⟨(lack_cut hC).symm, (lack_cut hC').symm⟩

end Go.Proofs.YtfabcdpmnbeflaaDoor

/- The law TrieFound. -/
namespace Go.Proofs.YtfabcdpmnbeflaaDoor
set_option linter.unusedSimpArgs false
set_option linter.unusedVariables false
set_option linter.unnecessarySimpa false
open Go.RowKit
set_option maxRecDepth 100000

theorem found_big1 (a b : Option Addr) (na ac nb bc : Nat) (w : World) (h16 : (16 : Int) < na) (hT : TabK w) :
    Calls Tryd.prog 4 #[.slice a na ac, .slice b nb bc] w fun e w' =>
      e = .returned (.bool true) ∧ Below w.heap.size w w' := by
  have hal := fun W (h : TabK W) => alive_any W h
  have H_hal := Box.mk hal
  have H_hT := Box.mk hT
  clear hal hT
  go_enter Tryd.func4, Tryd.ntmps4
  have hb0 := Below.refl w.heap.size w
  go_wp2_with fail
  with_reducible refine (H_hal.out _ H_hT.out).mono ?_
  rintro e w1 ⟨rfl, hc1⟩
  have hb1 : Below w.heap.size w w1 := bchain (by repeat' (first | with_reducible exact hb0 | with_reducible refine Below.drew ?_ | with_reducible refine below_drewN ?_ _ | with_reducible refine Below.alloc ?_ (by have := hb0.size; first | (simp; done) | (simp; omega) | omega) _ | with_reducible refine Below.setCell ?_ (by first | (simp; done) | (simp; omega) | omega) _)) hc1
  clear hc1 hb0
  go_wp2_with fail
  go_ret
  exact ⟨rfl, by repeat' (first | with_reducible exact hb1 | with_reducible refine Below.drew ?_ | with_reducible refine below_drewN ?_ _ | with_reducible refine Below.alloc ?_ (by have := hb1.size; first | (simp; done) | (simp; omega) | omega) _ | with_reducible refine Below.setCell ?_ (by first | (simp; done) | (simp; omega) | omega) _)⟩
theorem found_big2 (a b : Option Addr) (na ac nb bc : Nat) (w : World) (h16 : (na : Int) ≤ 16) (k16 : (16 : Int) < nb) (hT : TabK w) :
    Calls Tryd.prog 4 #[.slice a na ac, .slice b nb bc] w fun e w' =>
      e = .returned (.bool true) ∧ Below w.heap.size w w' := by
  have hal := fun W (h : TabK W) => alive_any W h
  have H_hal := Box.mk hal
  have H_hT := Box.mk hT
  clear hal hT
  go_enter Tryd.func4, Tryd.ntmps4
  have hb0 := Below.refl w.heap.size w
  go_wp2_with fail
  with_reducible refine (H_hal.out _ H_hT.out).mono ?_
  rintro e w1 ⟨rfl, hc1⟩
  have hb1 : Below w.heap.size w w1 := bchain (by repeat' (first | with_reducible exact hb0 | with_reducible refine Below.drew ?_ | with_reducible refine below_drewN ?_ _ | with_reducible refine Below.alloc ?_ (by have := hb0.size; first | (simp; done) | (simp; omega) | omega) _ | with_reducible refine Below.setCell ?_ (by first | (simp; done) | (simp; omega) | omega) _)) hc1
  clear hc1 hb0
  go_wp2_with fail
  go_ret
  exact ⟨rfl, by repeat' (first | with_reducible exact hb1 | with_reducible refine Below.drew ?_ | with_reducible refine below_drewN ?_ _ | with_reducible refine Below.alloc ?_ (by have := hb1.size; first | (simp; done) | (simp; omega) | omega) _ | with_reducible refine Below.setCell ?_ (by first | (simp; done) | (simp; omega) | omega) _)⟩
theorem found_bad1 (l : List (List Int)) (a b : Option Addr) (na ac nb bc : Nat) (w : World) (h : IdsIn w a ac l) (hn : na = l.length) (h16 : na ≤ 16) (k16 : nb ≤ 16) (hz : chkZ l ≠ 0) (hT : TabK w) :
    Calls Tryd.prog 4 #[.slice a na ac, .slice b nb bc] w fun e w' =>
      e = .returned (.bool true) ∧ Below w.heap.size w w' := by
  have hck := fun W (hI : IdsIn W a ac l) => rcheck_any l a na ac W hI hn (by unfold maxLen; omega)
  obtain ⟨er, her⟩ : ∃ er, chkZ l = er := ⟨_, rfl⟩
  rw [her] at hz
  simp only [her] at hck
  have hzn : (er != 0) = true := by simpa using hz
  have h16I : (na : Int) ≤ 16 := by omega
  have k16I : (nb : Int) ≤ 16 := by omega
  have H_hck := Box.mk hck
  have H_hn := Box.mk hn
  have H_her := Box.mk her
  have H_h := Box.mk h
  have H_hz := Box.mk hz
  clear hck hn her h hz
  have hal := fun W (h : TabK W) => alive_any W h
  have H_hal := Box.mk hal
  have H_hT := Box.mk hT
  clear hal hT
  go_enter Tryd.func4, Tryd.ntmps4
  have hb0 := Below.refl w.heap.size w
  go_wp2_with fail
  with_reducible refine (H_hal.out _ H_hT.out).mono ?_
  rintro e w1 ⟨rfl, hc1⟩
  have hb1 : Below w.heap.size w w1 := bchain (by repeat' (first | with_reducible exact hb0 | with_reducible refine Below.drew ?_ | with_reducible refine below_drewN ?_ _ | with_reducible refine Below.alloc ?_ (by have := hb0.size; first | (simp; done) | (simp; omega) | omega) _ | with_reducible refine Below.setCell ?_ (by first | (simp; done) | (simp; omega) | omega) _)) hc1
  clear hc1 hb0
  go_wp2_with fail
  with_reducible refine (H_hck.out _ (H_h.out.later hb1)).mono ?_
  rintro e w2 ⟨rfl, hc2⟩
  have hb2 : Below w.heap.size w w2 := bchain (by repeat' (first | with_reducible exact hb1 | with_reducible refine Below.drew ?_ | with_reducible refine below_drewN ?_ _ | with_reducible refine Below.alloc ?_ (by have := hb1.size; first | (simp; done) | (simp; omega) | omega) _ | with_reducible refine Below.setCell ?_ (by first | (simp; done) | (simp; omega) | omega) _)) hc2
  clear hc2 hb1
  go_wp2_with fail
  go_ret
  exact ⟨rfl, by repeat' (first | with_reducible exact hb2 | with_reducible refine Below.drew ?_ | with_reducible refine below_drewN ?_ _ | with_reducible refine Below.alloc ?_ (by have := hb2.size; first | (simp; done) | (simp; omega) | omega) _ | with_reducible refine Below.setCell ?_ (by first | (simp; done) | (simp; omega) | omega) _)⟩
theorem found_bad2 (l m : List (List Int)) (a b : Option Addr) (na ac nb bc : Nat) (w : World) (h : IdsIn w a ac l) (k : IdsIn w b bc m) (hn : na = l.length) (hm : nb = m.length) (h16 : na ≤ 16) (k16 : nb ≤ 16) (hz0 : chkZ l = 0) (hz : chkZ m ≠ 0) (hT : TabK w) :
    Calls Tryd.prog 4 #[.slice a na ac, .slice b nb bc] w fun e w' =>
      e = .returned (.bool true) ∧ Below w.heap.size w w' := by
  have hck := fun W (hI : IdsIn W a ac l) => rcheck_any l a na ac W hI hn (by unfold maxLen; omega)
  have hck2 := fun W (hI : IdsIn W b bc m) => rcheck_any m b nb bc W hI hm (by unfold maxLen; omega)
  obtain ⟨er, her⟩ : ∃ er, chkZ m = er := ⟨_, rfl⟩
  rw [her] at hz
  simp only [hz0] at hck
  simp only [her] at hck2
  have hzn : (er != 0) = true := by simpa using hz
  have h16I : (na : Int) ≤ 16 := by omega
  have k16I : (nb : Int) ≤ 16 := by omega
  have H_hck := Box.mk hck
  have H_hck2 := Box.mk hck2
  have H_hn := Box.mk hn
  have H_hm := Box.mk hm
  have H_her := Box.mk her
  have H_h := Box.mk h
  have H_k := Box.mk k
  have H_hz := Box.mk hz
  have H_hz0 := Box.mk hz0
  clear hck hck2 hn hm her h k hz hz0
  have hal := fun W (h : TabK W) => alive_any W h
  have H_hal := Box.mk hal
  have H_hT := Box.mk hT
  clear hal hT
  go_enter Tryd.func4, Tryd.ntmps4
  have hb0 := Below.refl w.heap.size w
  go_wp2_with fail
  with_reducible refine (H_hal.out _ H_hT.out).mono ?_
  rintro e w1 ⟨rfl, hc1⟩
  have hb1 : Below w.heap.size w w1 := bchain (by repeat' (first | with_reducible exact hb0 | with_reducible refine Below.drew ?_ | with_reducible refine below_drewN ?_ _ | with_reducible refine Below.alloc ?_ (by have := hb0.size; first | (simp; done) | (simp; omega) | omega) _ | with_reducible refine Below.setCell ?_ (by first | (simp; done) | (simp; omega) | omega) _)) hc1
  clear hc1 hb0
  go_wp2_with fail
  with_reducible refine (H_hck.out _ (H_h.out.later hb1)).mono ?_
  rintro e w2 ⟨rfl, hc2⟩
  have hb2 : Below w.heap.size w w2 := bchain (by repeat' (first | with_reducible exact hb1 | with_reducible refine Below.drew ?_ | with_reducible refine below_drewN ?_ _ | with_reducible refine Below.alloc ?_ (by have := hb1.size; first | (simp; done) | (simp; omega) | omega) _ | with_reducible refine Below.setCell ?_ (by first | (simp; done) | (simp; omega) | omega) _)) hc2
  clear hc2 hb1
  go_wp2_with fail
  with_reducible refine (H_hck2.out _ (H_k.out.later hb2)).mono ?_
  rintro e w3 ⟨rfl, hc3⟩
  have hb3 : Below w.heap.size w w3 := bchain (by repeat' (first | with_reducible exact hb2 | with_reducible refine Below.drew ?_ | with_reducible refine below_drewN ?_ _ | with_reducible refine Below.alloc ?_ (by have := hb2.size; first | (simp; done) | (simp; omega) | omega) _ | with_reducible refine Below.setCell ?_ (by first | (simp; done) | (simp; omega) | omega) _)) hc3
  clear hc3 hb2
  go_wp2_with fail
  go_ret
  exact ⟨rfl, by repeat' (first | with_reducible exact hb3 | with_reducible refine Below.drew ?_ | with_reducible refine below_drewN ?_ _ | with_reducible refine Below.alloc ?_ (by have := hb3.size; first | (simp; done) | (simp; omega) | omega) _ | with_reducible refine Below.setCell ?_ (by first | (simp; done) | (simp; omega) | omega) _)⟩

set_option maxHeartbeats 8000000 in
theorem found_ne (l m L R : List (List Int)) (N : Nat) (V : Bool) (a b : Option Addr) (na ac nb bc : Nat) (w : World) (h : IdsIn w a ac l) (k : IdsIn w b bc m) (hn : na = l.length) (hm : nb = m.length) (h16 : na ≤ 16) (k16 : nb ≤ 16) (hi : IncL l) (hj : IncL m) (hT : TabK w)
    (ha : ∀ x, a = some x → x.block < w.heap.size) (hb : ∀ x, b = some x → x.block < w.heap.size) (hd : DownOk l m ⟨L, R, N⟩) (hd2 : DownOk m l ⟨R, L, N⟩) (hap : RApartOk l m V) (hid : (∀ x ∈ L, IdIn x) ∧ ∀ x ∈ R, IdIn x) (hL16 : L.length ≤ 16) (hR16 : R.length ≤ 16) (hN1 : 1 ≤ N) (hN2 : N ≤ 1 + 2 * (na + nb)) (hlL : V = true → L = lackP l m) (hlR : V = true → R = lackP m l) (hne : l ≠ m) :
    Calls Tryd.prog 4 #[.slice a na ac, .slice b nb bc] w fun e w' =>
      e = .returned (.bool true) ∧ Below w.heap.size w w' := by
  have hla := hn.symm
  have hlb := hm.symm
  have hck := fun W (hI : IdsIn W a ac l) => rcheck_any l a na ac W hI hn (by unfold maxLen; omega)
  have hck2 := fun W (hI : IdsIn W b bc m) => rcheck_any m b nb bc W hI hm (by unfold maxLen; omega)
  rw [chk_of_inc hi (by omega)] at hck
  rw [chk_of_inc hj (by omega)] at hck2
  have hdf := fun W (h1 : IdsIn W a ac l) (h2 : IdsIn W b bc m) (hT : TabK W) ha hb => differ_ok l m ⟨L, R, N⟩ a b na ac nb bc W hi hj hn hm (by omega) (by omega) h1 h2 hT ha hb hd hid
  have hdb := fun W (h1 : IdsIn W a ac l) (h2 : IdsIn W b bc m) (hT : TabK W) ha hb => differ_ok m l ⟨R, L, N⟩ b a nb bc na ac W hj hi hm hn (by omega) (by omega) h2 h1 hT hb ha hd2 ⟨hid.2, hid.1⟩
  have hra := fun W (hI : IdsIn W a ac l) hT => Root_any l a na ac W hI hn (by unfold maxLen; omega) hT
  have hrb := fun W (hI : IdsIn W b bc m) hT => Root_any m b nb bc W hI hm (by unfold maxLen; omega) hT
  rw [rootZ_of hi (by omega)] at hra
  rw [rootZ_of hj (by omega)] at hrb
  have hsm := fun W (h1 : IdsIn W a ac l) (h2 : IdsIn W b bc m) => sameIds_any l m a b na nb ac bc W h1 h2 hn hm (by unfold maxLen; omega) (by unfold maxLen; omega)
  have hap' := fun W (h1 : IdsIn W a ac l) (h2 : IdsIn W b bc m) => hap a b ac bc W h1 h2
  rw [← hn, ← hm] at hap'
  have h16I : (na : Int) ≤ 16 := by omega
  have k16I : (nb : Int) ≤ 16 := by omega
  have hN1I : (1 : Int) ≤ N := by omega
  have hN2I : (N : Int) ≤ 1 + 2 * ((na : Int) + nb) := by omega
  have hwo := fun W (h1 : IdsIn W a ac l) (h2 : IdsIn W b bc m) => rwithout_any l m a b na ac nb bc W h1 h2 hn hm (by omega) (by omega)
  have hwb := fun W (h1 : IdsIn W a ac l) (h2 : IdsIn W b bc m) => rwithout_any m l b a nb bc na ac W h2 h1 hm hn (by omega) (by omega)
  have hsL := fun W p c q d (h1 : IdsIn W p c L) (h2 : IdsIn W q d L) => sameIds_any L L p q L.length L.length c d W h1 h2 rfl rfl (by unfold maxLen; omega) (by unfold maxLen; omega)
  have hsR := fun W p c q d (h1 : IdsIn W p c R) (h2 : IdsIn W q d R) => sameIds_any R R p q R.length R.length c d W h1 h2 rfl rfl (by unfold maxLen; omega) (by unfold maxLen; omega)
  simp only [decide_true] at hsL hsR
  rw [show decide (l = m) = false by simpa using hne] at hsm
  obtain ⟨xa, hxa⟩ : ∃ v, v = idC (rootP l) := ⟨_, rfl⟩
  have hxal := idC_len (rootP_id l)
  have hxai := idC_info (rootP_id l)
  have hxao := idC_one (rootP l)
  rw [← hxa] at hxal hxai hxao
  have hxar : xa.length = (List.replicate 32 (Value.int .u8 0)).length := by rw [hxal]; rfl
  obtain ⟨xb, hxb⟩ : ∃ v, v = idC (rootP m) := ⟨_, rfl⟩
  have hxbl := idC_len (rootP_id m)
  have hxbi := idC_info (rootP_id m)
  have hxbo := idC_one (rootP m)
  rw [← hxb] at hxbl hxbi hxbo
  have hxbr : xb.length = (List.replicate 32 (Value.int .u8 0)).length := by rw [hxbl]; rfl
  simp only [← hxa] at hra
  simp only [← hxb] at hrb
  have H_hla := Box.mk hla
  have H_hlb := Box.mk hlb
  have H_hck := Box.mk hck
  have H_hck2 := Box.mk hck2
  have H_hdf := Box.mk hdf
  have H_hdb := Box.mk hdb
  have H_hra := Box.mk hra
  have H_hrb := Box.mk hrb
  have H_hsm := Box.mk hsm
  have H_hap' := Box.mk hap'
  have H_hwo := Box.mk hwo
  have H_hwb := Box.mk hwb
  have H_hsL := Box.mk hsL
  have H_hsR := Box.mk hsR
  have H_h := Box.mk h
  have H_k := Box.mk k
  have H_hn := Box.mk hn
  have H_hm := Box.mk hm
  have H_hi := Box.mk hi
  have H_hj := Box.mk hj
  have H_ha := Box.mk ha
  have H_hb := Box.mk hb
  have H_hd := Box.mk hd
  have H_hd2 := Box.mk hd2
  have H_hap := Box.mk hap
  have H_hid := Box.mk hid
  have H_hL16 := Box.mk hL16
  have H_hR16 := Box.mk hR16
  have H_hne := Box.mk hne
  have H_hxa := Box.mk hxa
  have H_hxal := Box.mk hxal
  have H_hxai := Box.mk hxai
  have H_hxao := Box.mk hxao
  have H_hxar := Box.mk hxar
  have H_hxb := Box.mk hxb
  have H_hxbl := Box.mk hxbl
  have H_hxbi := Box.mk hxbi
  have H_hxbo := Box.mk hxbo
  have H_hxbr := Box.mk hxbr
  have H_hN2 := Box.mk hN2
  clear hla hlb hck hck2 hdf hdb hra hrb hsm hap' hwo hwb hsL hsR h k hn hm hi hj ha hb hd hd2 hap hid hL16 hR16 hne hxa hxal hxai hxao hxar hxb hxbl hxbi hxbo hxbr hN2
  have hal := fun W (h : TabK W) => alive_any W h
  have H_hal := Box.mk hal
  have H_hT := Box.mk hT
  clear hal hT
  go_enter Tryd.func4, Tryd.ntmps4
  have hb0 := Below.refl w.heap.size w
  go_wp2_with fail
  with_reducible refine (H_hal.out _ H_hT.out).mono ?_
  rintro e w1 ⟨rfl, hc1⟩
  have hb1 : Below w.heap.size w w1 := bchain (by repeat' (first | with_reducible exact hb0 | with_reducible refine Below.drew ?_ | with_reducible refine below_drewN ?_ _ | with_reducible refine Below.alloc ?_ (by have := hb0.size; first | (simp; done) | (simp; omega) | omega) _ | with_reducible refine Below.setCell ?_ (by first | (simp; done) | (simp; omega) | omega) _)) hc1
  clear hc1 hb0
  go_wp2_with fail
  with_reducible refine (H_hck.out _ (H_h.out.later hb1)).mono ?_
  rintro e w2 ⟨rfl, hc2⟩
  have hb2 : Below w.heap.size w w2 := bchain (by repeat' (first | with_reducible exact hb1 | with_reducible refine Below.drew ?_ | with_reducible refine below_drewN ?_ _ | with_reducible refine Below.alloc ?_ (by have := hb1.size; first | (simp; done) | (simp; omega) | omega) _ | with_reducible refine Below.setCell ?_ (by first | (simp; done) | (simp; omega) | omega) _)) hc2
  clear hc2 hb1
  go_wp2_with fail
  with_reducible refine (H_hck2.out _ (H_k.out.later hb2)).mono ?_
  rintro e w3 ⟨rfl, hc3⟩
  have hb3 : Below w.heap.size w w3 := bchain (by repeat' (first | with_reducible exact hb2 | with_reducible refine Below.drew ?_ | with_reducible refine below_drewN ?_ _ | with_reducible refine Below.alloc ?_ (by have := hb2.size; first | (simp; done) | (simp; omega) | omega) _ | with_reducible refine Below.setCell ?_ (by first | (simp; done) | (simp; omega) | omega) _)) hc3
  clear hc3 hb2
  go_wp2_with fail
  with_reducible refine (H_hdf.out _ (H_h.out.later hb3) (H_k.out.later hb3) (H_hT.out.later hb3) (fun x e => Nat.lt_of_lt_of_le (H_ha.out x e) hb3.size) (fun x e => Nat.lt_of_lt_of_le (H_hb.out x e) hb3.size)).mono ?_
  rintro e w4 ⟨⟨la, lc, ra, rc, rfl, hL, hR⟩, hc4⟩
  have hb4 : Below w.heap.size w w4 := bchain (by repeat' (first | with_reducible exact hb3 | with_reducible refine Below.drew ?_ | with_reducible refine below_drewN ?_ _ | with_reducible refine Below.alloc ?_ (by have := hb3.size; first | (simp; done) | (simp; omega) | omega) _ | with_reducible refine Below.setCell ?_ (by first | (simp; done) | (simp; omega) | omega) _)) hc4
  clear hc4
  go_wp2_with fail
  with_reducible refine (H_hra.out _ (H_h.out.later hb4) (H_hT.out.later hb4)).mono ?_
  rintro e w5 ⟨rfl, hc5⟩
  have hb5 : Below w.heap.size w w5 := bchain (by repeat' (first | with_reducible exact hb4 | with_reducible refine Below.drew ?_ | with_reducible refine below_drewN ?_ _ | with_reducible refine Below.alloc ?_ (by have := hb4.size; first | (simp; done) | (simp; omega) | omega) _ | with_reducible refine Below.setCell ?_ (by first | (simp; done) | (simp; omega) | omega) _)) hc5
  have hst5 : Below w4.heap.size w4 w5 := bchain (by repeat' (first | with_reducible exact Below.refl _ _ | with_reducible refine Below.drew ?_ | with_reducible refine below_drewN ?_ _ | with_reducible refine Below.alloc ?_ (by first | (simp; done) | (simp; omega) | omega) _ | with_reducible refine Below.setCell ?_ (by first | (simp; done) | (simp; omega) | omega) _)) hc5
  replace hL := hL.later hst5
  replace hR := hR.later hst5
  clear hst5
  clear hc5
  have hN5 := Blk.newA w5 w5.heap.size _ 24 (List.replicate 32 (Value.int .u8 0)) rfl rfl
  go_upto_region 6 with (refine wpList_store_blk rfl 24 _ _ rfl w5.heap.size (by rfl) 24 _ xa (by rfl) hN5 H_hxar.out H_hxai.out H_hxao.out ?_; intro w6 hA he6; have H6 := Box.mk he6; clear he6)
  have hc6 : Below w5.heap.size w5 w6 := H6.out ▸ below_setCells (Nat.le_refl _) _ _ _ ((Below.refl _ _).alloc (Nat.le_refl _) _)
  have hb6 : Below w.heap.size w w6 := bchain (by repeat' (first | with_reducible exact hb5 | with_reducible refine Below.drew ?_ | with_reducible refine below_drewN ?_ _ | with_reducible refine Below.alloc ?_ (by have := hb5.size; first | (simp; done) | (simp; omega) | omega) _ | with_reducible refine Below.setCell ?_ (by first | (simp; done) | (simp; omega) | omega) _)) hc6
  have hst6 : Below w5.heap.size w5 w6 := bchain (by repeat' (first | with_reducible exact Below.refl _ _ | with_reducible refine Below.drew ?_ | with_reducible refine below_drewN ?_ _ | with_reducible refine Below.alloc ?_ (by first | (simp; done) | (simp; omega) | omega) _ | with_reducible refine Below.setCell ?_ (by first | (simp; done) | (simp; omega) | omega) _)) hc6
  replace hL := hL.later hst6
  replace hR := hR.later hst6
  clear hst6
  clear hc6 hN5 H6
  go_wp2_with fail
  with_reducible refine (H_hrb.out _ (H_k.out.later hb6) (H_hT.out.later hb6)).mono ?_
  rintro e w7 ⟨rfl, hc7⟩
  have hb7 : Below w.heap.size w w7 := bchain (by repeat' (first | with_reducible exact hb6 | with_reducible refine Below.drew ?_ | with_reducible refine below_drewN ?_ _ | with_reducible refine Below.alloc ?_ (by have := hb6.size; first | (simp; done) | (simp; omega) | omega) _ | with_reducible refine Below.setCell ?_ (by first | (simp; done) | (simp; omega) | omega) _)) hc7
  have hst7 : Below w6.heap.size w6 w7 := bchain (by repeat' (first | with_reducible exact Below.refl _ _ | with_reducible refine Below.drew ?_ | with_reducible refine below_drewN ?_ _ | with_reducible refine Below.alloc ?_ (by first | (simp; done) | (simp; omega) | omega) _ | with_reducible refine Below.setCell ?_ (by first | (simp; done) | (simp; omega) | omega) _)) hc7
  replace hL := hL.later hst7
  replace hR := hR.later hst7
  replace hA := hA.later hst7
  clear hst7
  clear hc7
  have hN7 := Blk.newA w7 w7.heap.size _ 24 (List.replicate 32 (Value.int .u8 0)) rfl rfl
  go_upto_region 7 with (refine wpList_store_blk rfl 24 _ _ rfl w7.heap.size (by rfl) 24 _ xb (by rfl) hN7 H_hxbr.out H_hxbi.out H_hxbo.out ?_; intro w8 hB he8; have H8 := Box.mk he8; clear he8)
  have hc8 : Below w7.heap.size w7 w8 := H8.out ▸ below_setCells (Nat.le_refl _) _ _ _ ((Below.refl _ _).alloc (Nat.le_refl _) _)
  have hb8 : Below w.heap.size w w8 := bchain (by repeat' (first | with_reducible exact hb7 | with_reducible refine Below.drew ?_ | with_reducible refine below_drewN ?_ _ | with_reducible refine Below.alloc ?_ (by have := hb7.size; first | (simp; done) | (simp; omega) | omega) _ | with_reducible refine Below.setCell ?_ (by first | (simp; done) | (simp; omega) | omega) _)) hc8
  have hst8 : Below w7.heap.size w7 w8 := bchain (by repeat' (first | with_reducible exact Below.refl _ _ | with_reducible refine Below.drew ?_ | with_reducible refine below_drewN ?_ _ | with_reducible refine Below.alloc ?_ (by first | (simp; done) | (simp; omega) | omega) _ | with_reducible refine Below.setCell ?_ (by first | (simp; done) | (simp; omega) | omega) _)) hc8
  replace hL := hL.later hst8
  replace hR := hR.later hst8
  replace hA := hA.later hst8
  clear hst8
  clear hc8 hN7 H8
  go_wp2_with fail
  with_reducible refine (H_hsm.out _ (H_h.out.later hb8) (H_k.out.later hb8)).mono ?_
  rintro e w9 ⟨rfl, hc9⟩
  have hb9 : Below w.heap.size w w9 := bchain (by repeat' (first | with_reducible exact hb8 | with_reducible refine Below.drew ?_ | with_reducible refine below_drewN ?_ _ | with_reducible refine Below.alloc ?_ (by have := hb8.size; first | (simp; done) | (simp; omega) | omega) _ | with_reducible refine Below.setCell ?_ (by first | (simp; done) | (simp; omega) | omega) _)) hc9
  have hst9 : Below w8.heap.size w8 w9 := bchain (by repeat' (first | with_reducible exact Below.refl _ _ | with_reducible refine Below.drew ?_ | with_reducible refine below_drewN ?_ _ | with_reducible refine Below.alloc ?_ (by first | (simp; done) | (simp; omega) | omega) _ | with_reducible refine Below.setCell ?_ (by first | (simp; done) | (simp; omega) | omega) _)) hc9
  replace hL := hL.later hst9
  replace hR := hR.later hst9
  replace hA := hA.later hst9
  replace hB := hB.later hst9
  clear hst9
  clear hc9
  go_wp2_with fail
  with_reducible refine (H_hap'.out _ (H_h.out.later hb9) (H_k.out.later hb9)).mono ?_
  rintro e w10 ⟨rfl, hc10⟩
  have hb10 : Below w.heap.size w w10 := bchain (by repeat' (first | with_reducible exact hb9 | with_reducible refine Below.drew ?_ | with_reducible refine below_drewN ?_ _ | with_reducible refine Below.alloc ?_ (by have := hb9.size; first | (simp; done) | (simp; omega) | omega) _ | with_reducible refine Below.setCell ?_ (by first | (simp; done) | (simp; omega) | omega) _)) hc10
  have hst10 : Below w9.heap.size w9 w10 := bchain (by repeat' (first | with_reducible exact Below.refl _ _ | with_reducible refine Below.drew ?_ | with_reducible refine below_drewN ?_ _ | with_reducible refine Below.alloc ?_ (by first | (simp; done) | (simp; omega) | omega) _ | with_reducible refine Below.setCell ?_ (by first | (simp; done) | (simp; omega) | omega) _)) hc10
  replace hL := hL.later hst10
  replace hR := hR.later hst10
  replace hA := hA.later hst10
  replace hB := hB.later hst10
  clear hst10
  clear hc10
  clear hA hB
  cases V with
  | false =>
    go_wp2_with fail
    go_ret
    exact ⟨rfl, by repeat' (first | with_reducible exact hb10 | with_reducible refine Below.drew ?_ | with_reducible refine below_drewN ?_ _ | with_reducible refine Below.alloc ?_ (by have := hb10.size; first | (simp; done) | (simp; omega) | omega) _ | with_reducible refine Below.setCell ?_ (by first | (simp; done) | (simp; omega) | omega) _)⟩
  | true =>
    replace hlL := hlL rfl
    replace hlR := hlR rfl
    have H_hlL := Box.mk hlL
    have H_hlR := Box.mk hlR
    clear hlL hlR
    go_wp2_with fail
    with_reducible refine (H_hdb.out _ (H_h.out.later hb10) (H_k.out.later hb10) (H_hT.out.later hb10) (fun x e => Nat.lt_of_lt_of_le (H_ha.out x e) hb10.size) (fun x e => Nat.lt_of_lt_of_le (H_hb.out x e) hb10.size)).mono ?_
    rintro e w11 ⟨⟨ta, tc, ua, uc, rfl, hR2, hL2⟩, hc11⟩
    have hb11 : Below w.heap.size w w11 := bchain (by repeat' (first | with_reducible exact hb10 | with_reducible refine Below.drew ?_ | with_reducible refine below_drewN ?_ _ | with_reducible refine Below.alloc ?_ (by have := hb10.size; first | (simp; done) | (simp; omega) | omega) _ | with_reducible refine Below.setCell ?_ (by first | (simp; done) | (simp; omega) | omega) _)) hc11
    have hst11 : Below w10.heap.size w10 w11 := bchain (by repeat' (first | with_reducible exact Below.refl _ _ | with_reducible refine Below.drew ?_ | with_reducible refine below_drewN ?_ _ | with_reducible refine Below.alloc ?_ (by first | (simp; done) | (simp; omega) | omega) _ | with_reducible refine Below.setCell ?_ (by first | (simp; done) | (simp; omega) | omega) _)) hc11
    replace hL := hL.later hst11
    replace hR := hR.later hst11
    clear hst11
    clear hc11
    go_wp2_with fail
    with_reducible refine (H_hwo.out _ (H_h.out.later hb11) (H_k.out.later hb11)).mono ?_
    rintro e w12 ⟨⟨va, vc, rfl, hV1⟩, hc12⟩
    rw [← H_hlL.out] at hV1 ⊢
    have hI1 := hV1.idsIn rfl H_hid.out.1
    have hb12 : Below w.heap.size w w12 := bchain (by repeat' (first | with_reducible exact hb11 | with_reducible refine Below.drew ?_ | with_reducible refine below_drewN ?_ _ | with_reducible refine Below.alloc ?_ (by have := hb11.size; first | (simp; done) | (simp; omega) | omega) _ | with_reducible refine Below.setCell ?_ (by first | (simp; done) | (simp; omega) | omega) _)) hc12
    have hst12 : Below w11.heap.size w11 w12 := bchain (by repeat' (first | with_reducible exact Below.refl _ _ | with_reducible refine Below.drew ?_ | with_reducible refine below_drewN ?_ _ | with_reducible refine Below.alloc ?_ (by first | (simp; done) | (simp; omega) | omega) _ | with_reducible refine Below.setCell ?_ (by first | (simp; done) | (simp; omega) | omega) _)) hc12
    replace hL := hL.later hst12
    replace hR := hR.later hst12
    replace hR2 := hR2.later hst12
    replace hL2 := hL2.later hst12
    clear hst12
    clear hc12 hV1
    go_wp2_with fail
    with_reducible refine (H_hsL.out _ _ _ _ _ hL hI1).mono ?_
    rintro e w13 ⟨rfl, hc13⟩
    have hb13 : Below w.heap.size w w13 := bchain (by repeat' (first | with_reducible exact hb12 | with_reducible refine Below.drew ?_ | with_reducible refine below_drewN ?_ _ | with_reducible refine Below.alloc ?_ (by have := hb12.size; first | (simp; done) | (simp; omega) | omega) _ | with_reducible refine Below.setCell ?_ (by first | (simp; done) | (simp; omega) | omega) _)) hc13
    have hst13 : Below w12.heap.size w12 w13 := bchain (by repeat' (first | with_reducible exact Below.refl _ _ | with_reducible refine Below.drew ?_ | with_reducible refine below_drewN ?_ _ | with_reducible refine Below.alloc ?_ (by first | (simp; done) | (simp; omega) | omega) _ | with_reducible refine Below.setCell ?_ (by first | (simp; done) | (simp; omega) | omega) _)) hc13
    replace hL := hL.later hst13
    replace hR := hR.later hst13
    replace hR2 := hR2.later hst13
    replace hL2 := hL2.later hst13
    clear hst13
    clear hc13
    clear hI1
    go_wp2_with fail
    with_reducible refine (H_hwb.out _ (H_h.out.later hb13) (H_k.out.later hb13)).mono ?_
    rintro e w14 ⟨⟨va2, vc2, rfl, hV2⟩, hc14⟩
    rw [← H_hlR.out] at hV2 ⊢
    have hI2 := hV2.idsIn rfl H_hid.out.2
    have hb14 : Below w.heap.size w w14 := bchain (by repeat' (first | with_reducible exact hb13 | with_reducible refine Below.drew ?_ | with_reducible refine below_drewN ?_ _ | with_reducible refine Below.alloc ?_ (by have := hb13.size; first | (simp; done) | (simp; omega) | omega) _ | with_reducible refine Below.setCell ?_ (by first | (simp; done) | (simp; omega) | omega) _)) hc14
    have hst14 : Below w13.heap.size w13 w14 := bchain (by repeat' (first | with_reducible exact Below.refl _ _ | with_reducible refine Below.drew ?_ | with_reducible refine below_drewN ?_ _ | with_reducible refine Below.alloc ?_ (by first | (simp; done) | (simp; omega) | omega) _ | with_reducible refine Below.setCell ?_ (by first | (simp; done) | (simp; omega) | omega) _)) hc14
    replace hL := hL.later hst14
    replace hR := hR.later hst14
    replace hR2 := hR2.later hst14
    replace hL2 := hL2.later hst14
    clear hst14
    clear hc14 hV2
    go_wp2_with fail
    with_reducible refine (H_hsR.out _ _ _ _ _ hR hI2).mono ?_
    rintro e w15 ⟨rfl, hc15⟩
    have hb15 : Below w.heap.size w w15 := bchain (by repeat' (first | with_reducible exact hb14 | with_reducible refine Below.drew ?_ | with_reducible refine below_drewN ?_ _ | with_reducible refine Below.alloc ?_ (by have := hb14.size; first | (simp; done) | (simp; omega) | omega) _ | with_reducible refine Below.setCell ?_ (by first | (simp; done) | (simp; omega) | omega) _)) hc15
    have hst15 : Below w14.heap.size w14 w15 := bchain (by repeat' (first | with_reducible exact Below.refl _ _ | with_reducible refine Below.drew ?_ | with_reducible refine below_drewN ?_ _ | with_reducible refine Below.alloc ?_ (by first | (simp; done) | (simp; omega) | omega) _ | with_reducible refine Below.setCell ?_ (by first | (simp; done) | (simp; omega) | omega) _)) hc15
    replace hL := hL.later hst15
    replace hR := hR.later hst15
    replace hR2 := hR2.later hst15
    replace hL2 := hL2.later hst15
    clear hst15
    clear hc15
    clear hI2
    go_wp2_with fail
    with_reducible refine (H_hsR.out _ _ _ _ _ hR2 hR).mono ?_
    rintro e w16 ⟨rfl, hc16⟩
    have hb16 : Below w.heap.size w w16 := bchain (by repeat' (first | with_reducible exact hb15 | with_reducible refine Below.drew ?_ | with_reducible refine below_drewN ?_ _ | with_reducible refine Below.alloc ?_ (by have := hb15.size; first | (simp; done) | (simp; omega) | omega) _ | with_reducible refine Below.setCell ?_ (by first | (simp; done) | (simp; omega) | omega) _)) hc16
    have hst16 : Below w15.heap.size w15 w16 := bchain (by repeat' (first | with_reducible exact Below.refl _ _ | with_reducible refine Below.drew ?_ | with_reducible refine below_drewN ?_ _ | with_reducible refine Below.alloc ?_ (by first | (simp; done) | (simp; omega) | omega) _ | with_reducible refine Below.setCell ?_ (by first | (simp; done) | (simp; omega) | omega) _)) hc16
    replace hL := hL.later hst16
    replace hR := hR.later hst16
    replace hR2 := hR2.later hst16
    replace hL2 := hL2.later hst16
    clear hst16
    clear hc16
    go_wp2_with fail
    with_reducible refine (H_hsL.out _ _ _ _ _ hL2 hL).mono ?_
    rintro e w17 ⟨rfl, hc17⟩
    have hb17 : Below w.heap.size w w17 := bchain (by repeat' (first | with_reducible exact hb16 | with_reducible refine Below.drew ?_ | with_reducible refine below_drewN ?_ _ | with_reducible refine Below.alloc ?_ (by have := hb16.size; first | (simp; done) | (simp; omega) | omega) _ | with_reducible refine Below.setCell ?_ (by first | (simp; done) | (simp; omega) | omega) _)) hc17
    have hst17 : Below w16.heap.size w16 w17 := bchain (by repeat' (first | with_reducible exact Below.refl _ _ | with_reducible refine Below.drew ?_ | with_reducible refine below_drewN ?_ _ | with_reducible refine Below.alloc ?_ (by first | (simp; done) | (simp; omega) | omega) _ | with_reducible refine Below.setCell ?_ (by first | (simp; done) | (simp; omega) | omega) _)) hc17
    replace hL := hL.later hst17
    replace hR := hR.later hst17
    replace hR2 := hR2.later hst17
    replace hL2 := hL2.later hst17
    clear hst17
    clear hc17
    go_wp2_with fail
    go_ret
    exact ⟨rfl, hb17⟩
set_option maxHeartbeats 8000000 in
theorem found_eq (l m L R : List (List Int)) (N : Nat) (V : Bool) (a b : Option Addr) (na ac nb bc : Nat) (w : World) (h : IdsIn w a ac l) (k : IdsIn w b bc m) (hn : na = l.length) (hm : nb = m.length) (h16 : na ≤ 16) (k16 : nb ≤ 16) (hi : IncL l) (hj : IncL m) (hT : TabK w)
    (ha : ∀ x, a = some x → x.block < w.heap.size) (hb : ∀ x, b = some x → x.block < w.heap.size) (hd : DownOk l m ⟨L, R, N⟩) (hd2 : DownOk m l ⟨R, L, N⟩) (hap : RApartOk l m V) (hid : (∀ x ∈ L, IdIn x) ∧ ∀ x ∈ R, IdIn x) (hL16 : L.length ≤ 16) (hR16 : R.length ≤ 16) (hN1 : 1 ≤ N) (hN2 : N ≤ 1 + 2 * (na + nb)) (hlL : L = lackP l m) (hlR : R = lackP m l) (hV : V = true) (heqL : l = m) (hL0 : L = []) (hR0 : R = []) (hN0 : N = 1) :
    Calls Tryd.prog 4 #[.slice a na ac, .slice b nb bc] w fun e w' =>
      e = .returned (.bool true) ∧ Below w.heap.size w w' := by
  have hla := hn.symm
  have hlb := hm.symm
  have hck := fun W (hI : IdsIn W a ac l) => rcheck_any l a na ac W hI hn (by unfold maxLen; omega)
  have hck2 := fun W (hI : IdsIn W b bc m) => rcheck_any m b nb bc W hI hm (by unfold maxLen; omega)
  rw [chk_of_inc hi (by omega)] at hck
  rw [chk_of_inc hj (by omega)] at hck2
  have hdf := fun W (h1 : IdsIn W a ac l) (h2 : IdsIn W b bc m) (hT : TabK W) ha hb => differ_ok l m ⟨L, R, N⟩ a b na ac nb bc W hi hj hn hm (by omega) (by omega) h1 h2 hT ha hb hd hid
  have hdb := fun W (h1 : IdsIn W a ac l) (h2 : IdsIn W b bc m) (hT : TabK W) ha hb => differ_ok m l ⟨R, L, N⟩ b a nb bc na ac W hj hi hm hn (by omega) (by omega) h2 h1 hT hb ha hd2 ⟨hid.2, hid.1⟩
  have hra := fun W (hI : IdsIn W a ac l) hT => Root_any l a na ac W hI hn (by unfold maxLen; omega) hT
  have hrb := fun W (hI : IdsIn W b bc m) hT => Root_any m b nb bc W hI hm (by unfold maxLen; omega) hT
  rw [rootZ_of hi (by omega)] at hra
  rw [rootZ_of hj (by omega)] at hrb
  have hsm := fun W (h1 : IdsIn W a ac l) (h2 : IdsIn W b bc m) => sameIds_any l m a b na nb ac bc W h1 h2 hn hm (by unfold maxLen; omega) (by unfold maxLen; omega)
  have hap' := fun W (h1 : IdsIn W a ac l) (h2 : IdsIn W b bc m) => hap a b ac bc W h1 h2
  rw [← hn, ← hm] at hap'
  have h16I : (na : Int) ≤ 16 := by omega
  have k16I : (nb : Int) ≤ 16 := by omega
  have hN1I : (1 : Int) ≤ N := by omega
  have hN2I : (N : Int) ≤ 1 + 2 * ((na : Int) + nb) := by omega
  have hwo := fun W (h1 : IdsIn W a ac l) (h2 : IdsIn W b bc m) => rwithout_any l m a b na ac nb bc W h1 h2 hn hm (by omega) (by omega)
  have hwb := fun W (h1 : IdsIn W a ac l) (h2 : IdsIn W b bc m) => rwithout_any m l b a nb bc na ac W h2 h1 hm hn (by omega) (by omega)
  have hsL := fun W p c q d (h1 : IdsIn W p c L) (h2 : IdsIn W q d L) => sameIds_any L L p q L.length L.length c d W h1 h2 rfl rfl (by unfold maxLen; omega) (by unfold maxLen; omega)
  have hsR := fun W p c q d (h1 : IdsIn W p c R) (h2 : IdsIn W q d R) => sameIds_any R R p q R.length R.length c d W h1 h2 rfl rfl (by unfold maxLen; omega) (by unfold maxLen; omega)
  simp only [decide_true] at hsL hsR
  subst hV hL0 hR0 hN0
  simp only [List.length_nil] at hsL hsR
  rw [show decide (l = m) = true by simpa using heqL] at hsm
  obtain ⟨xa, hxa⟩ : ∃ v, v = idC (rootP l) := ⟨_, rfl⟩
  have hxal := idC_len (rootP_id l)
  have hxai := idC_info (rootP_id l)
  have hxao := idC_one (rootP l)
  rw [← hxa] at hxal hxai hxao
  have hxar : xa.length = (List.replicate 32 (Value.int .u8 0)).length := by rw [hxal]; rfl
  have hrm : rootP m = rootP l := by rw [heqL]
  rw [hrm] at hrb
  simp only [← hxa] at hra hrb
  have heq : ∀ w, (Op.equalIn 10000 24 (.agg xa.toArray) (.agg xa.toArray)).run Tryd.prog w = .ok true w := fun w => by
    rw [hxa]; have := eq_ids _ _ (rootP_id l).len (rootP_id l).len w; rw [beq_self_eq_true] at this; exact this
  have H_hla := Box.mk hla
  have H_hlb := Box.mk hlb
  have H_hck := Box.mk hck
  have H_hck2 := Box.mk hck2
  have H_hdf := Box.mk hdf
  have H_hdb := Box.mk hdb
  have H_hra := Box.mk hra
  have H_hrb := Box.mk hrb
  have H_hsm := Box.mk hsm
  have H_hap' := Box.mk hap'
  have H_hwo := Box.mk hwo
  have H_hwb := Box.mk hwb
  have H_hsL := Box.mk hsL
  have H_hsR := Box.mk hsR
  have H_h := Box.mk h
  have H_k := Box.mk k
  have H_hn := Box.mk hn
  have H_hm := Box.mk hm
  have H_hi := Box.mk hi
  have H_hj := Box.mk hj
  have H_ha := Box.mk ha
  have H_hb := Box.mk hb
  have H_hd := Box.mk hd
  have H_hd2 := Box.mk hd2
  have H_hap := Box.mk hap
  have H_hid := Box.mk hid
  have H_hL16 := Box.mk hL16
  have H_hR16 := Box.mk hR16
  have H_heqL := Box.mk heqL
  have H_hxa := Box.mk hxa
  have H_hxal := Box.mk hxal
  have H_hxai := Box.mk hxai
  have H_hxao := Box.mk hxao
  have H_hxar := Box.mk hxar
  have H_hN2 := Box.mk hN2
  have H_hrm := Box.mk hrm
  have H_heq := Box.mk heq
  have H_hlL := Box.mk hlL
  have H_hlR := Box.mk hlR
  clear hla hlb hck hck2 hdf hdb hra hrb hsm hap' hwo hwb hsL hsR h k hn hm hi hj ha hb hd hd2 hap hid hL16 hR16 heqL hxa hxal hxai hxao hxar hN2 hrm heq hlL hlR
  have hal := fun W (h : TabK W) => alive_any W h
  have H_hal := Box.mk hal
  have H_hT := Box.mk hT
  clear hal hT
  go_enter Tryd.func4, Tryd.ntmps4
  have hb0 := Below.refl w.heap.size w
  go_wp2_with fail
  with_reducible refine (H_hal.out _ H_hT.out).mono ?_
  rintro e w1 ⟨rfl, hc1⟩
  have hb1 : Below w.heap.size w w1 := bchain (by repeat' (first | with_reducible exact hb0 | with_reducible refine Below.drew ?_ | with_reducible refine below_drewN ?_ _ | with_reducible refine Below.alloc ?_ (by have := hb0.size; first | (simp; done) | (simp; omega) | omega) _ | with_reducible refine Below.setCell ?_ (by first | (simp; done) | (simp; omega) | omega) _)) hc1
  clear hc1 hb0
  go_wp2_with fail
  with_reducible refine (H_hck.out _ (H_h.out.later hb1)).mono ?_
  rintro e w2 ⟨rfl, hc2⟩
  have hb2 : Below w.heap.size w w2 := bchain (by repeat' (first | with_reducible exact hb1 | with_reducible refine Below.drew ?_ | with_reducible refine below_drewN ?_ _ | with_reducible refine Below.alloc ?_ (by have := hb1.size; first | (simp; done) | (simp; omega) | omega) _ | with_reducible refine Below.setCell ?_ (by first | (simp; done) | (simp; omega) | omega) _)) hc2
  clear hc2 hb1
  go_wp2_with fail
  with_reducible refine (H_hck2.out _ (H_k.out.later hb2)).mono ?_
  rintro e w3 ⟨rfl, hc3⟩
  have hb3 : Below w.heap.size w w3 := bchain (by repeat' (first | with_reducible exact hb2 | with_reducible refine Below.drew ?_ | with_reducible refine below_drewN ?_ _ | with_reducible refine Below.alloc ?_ (by have := hb2.size; first | (simp; done) | (simp; omega) | omega) _ | with_reducible refine Below.setCell ?_ (by first | (simp; done) | (simp; omega) | omega) _)) hc3
  clear hc3 hb2
  go_wp2_with fail
  with_reducible refine (H_hdf.out _ (H_h.out.later hb3) (H_k.out.later hb3) (H_hT.out.later hb3) (fun x e => Nat.lt_of_lt_of_le (H_ha.out x e) hb3.size) (fun x e => Nat.lt_of_lt_of_le (H_hb.out x e) hb3.size)).mono ?_
  rintro e w4 ⟨⟨la, lc, ra, rc, rfl, hL, hR⟩, hc4⟩
  have hb4 : Below w.heap.size w w4 := bchain (by repeat' (first | with_reducible exact hb3 | with_reducible refine Below.drew ?_ | with_reducible refine below_drewN ?_ _ | with_reducible refine Below.alloc ?_ (by have := hb3.size; first | (simp; done) | (simp; omega) | omega) _ | with_reducible refine Below.setCell ?_ (by first | (simp; done) | (simp; omega) | omega) _)) hc4
  clear hc4
  go_wp2_with fail
  with_reducible refine (H_hra.out _ (H_h.out.later hb4) (H_hT.out.later hb4)).mono ?_
  rintro e w5 ⟨rfl, hc5⟩
  have hb5 : Below w.heap.size w w5 := bchain (by repeat' (first | with_reducible exact hb4 | with_reducible refine Below.drew ?_ | with_reducible refine below_drewN ?_ _ | with_reducible refine Below.alloc ?_ (by have := hb4.size; first | (simp; done) | (simp; omega) | omega) _ | with_reducible refine Below.setCell ?_ (by first | (simp; done) | (simp; omega) | omega) _)) hc5
  have hst5 : Below w4.heap.size w4 w5 := bchain (by repeat' (first | with_reducible exact Below.refl _ _ | with_reducible refine Below.drew ?_ | with_reducible refine below_drewN ?_ _ | with_reducible refine Below.alloc ?_ (by first | (simp; done) | (simp; omega) | omega) _ | with_reducible refine Below.setCell ?_ (by first | (simp; done) | (simp; omega) | omega) _)) hc5
  replace hL := hL.later hst5
  replace hR := hR.later hst5
  clear hst5
  clear hc5
  have hN5 := Blk.newA w5 w5.heap.size _ 24 (List.replicate 32 (Value.int .u8 0)) rfl rfl
  go_upto_region 6 with (refine wpList_store_blk rfl 24 _ _ rfl w5.heap.size (by rfl) 24 _ xa (by rfl) hN5 H_hxar.out H_hxai.out H_hxao.out ?_; intro w6 hA he6; have H6 := Box.mk he6; clear he6)
  have hc6 : Below w5.heap.size w5 w6 := H6.out ▸ below_setCells (Nat.le_refl _) _ _ _ ((Below.refl _ _).alloc (Nat.le_refl _) _)
  have hb6 : Below w.heap.size w w6 := bchain (by repeat' (first | with_reducible exact hb5 | with_reducible refine Below.drew ?_ | with_reducible refine below_drewN ?_ _ | with_reducible refine Below.alloc ?_ (by have := hb5.size; first | (simp; done) | (simp; omega) | omega) _ | with_reducible refine Below.setCell ?_ (by first | (simp; done) | (simp; omega) | omega) _)) hc6
  have hst6 : Below w5.heap.size w5 w6 := bchain (by repeat' (first | with_reducible exact Below.refl _ _ | with_reducible refine Below.drew ?_ | with_reducible refine below_drewN ?_ _ | with_reducible refine Below.alloc ?_ (by first | (simp; done) | (simp; omega) | omega) _ | with_reducible refine Below.setCell ?_ (by first | (simp; done) | (simp; omega) | omega) _)) hc6
  replace hL := hL.later hst6
  replace hR := hR.later hst6
  clear hst6
  clear hc6 hN5 H6
  go_wp2_with fail
  with_reducible refine (H_hrb.out _ (H_k.out.later hb6) (H_hT.out.later hb6)).mono ?_
  rintro e w7 ⟨rfl, hc7⟩
  have hb7 : Below w.heap.size w w7 := bchain (by repeat' (first | with_reducible exact hb6 | with_reducible refine Below.drew ?_ | with_reducible refine below_drewN ?_ _ | with_reducible refine Below.alloc ?_ (by have := hb6.size; first | (simp; done) | (simp; omega) | omega) _ | with_reducible refine Below.setCell ?_ (by first | (simp; done) | (simp; omega) | omega) _)) hc7
  have hst7 : Below w6.heap.size w6 w7 := bchain (by repeat' (first | with_reducible exact Below.refl _ _ | with_reducible refine Below.drew ?_ | with_reducible refine below_drewN ?_ _ | with_reducible refine Below.alloc ?_ (by first | (simp; done) | (simp; omega) | omega) _ | with_reducible refine Below.setCell ?_ (by first | (simp; done) | (simp; omega) | omega) _)) hc7
  replace hL := hL.later hst7
  replace hR := hR.later hst7
  replace hA := hA.later hst7
  clear hst7
  clear hc7
  have hN7 := Blk.newA w7 w7.heap.size _ 24 (List.replicate 32 (Value.int .u8 0)) rfl rfl
  go_upto_region 7 with (refine wpList_store_blk rfl 24 _ _ rfl w7.heap.size (by rfl) 24 _ xa (by rfl) hN7 H_hxar.out H_hxai.out H_hxao.out ?_; intro w8 hB he8; have H8 := Box.mk he8; clear he8)
  have hc8 : Below w7.heap.size w7 w8 := H8.out ▸ below_setCells (Nat.le_refl _) _ _ _ ((Below.refl _ _).alloc (Nat.le_refl _) _)
  have hb8 : Below w.heap.size w w8 := bchain (by repeat' (first | with_reducible exact hb7 | with_reducible refine Below.drew ?_ | with_reducible refine below_drewN ?_ _ | with_reducible refine Below.alloc ?_ (by have := hb7.size; first | (simp; done) | (simp; omega) | omega) _ | with_reducible refine Below.setCell ?_ (by first | (simp; done) | (simp; omega) | omega) _)) hc8
  have hst8 : Below w7.heap.size w7 w8 := bchain (by repeat' (first | with_reducible exact Below.refl _ _ | with_reducible refine Below.drew ?_ | with_reducible refine below_drewN ?_ _ | with_reducible refine Below.alloc ?_ (by first | (simp; done) | (simp; omega) | omega) _ | with_reducible refine Below.setCell ?_ (by first | (simp; done) | (simp; omega) | omega) _)) hc8
  replace hL := hL.later hst8
  replace hR := hR.later hst8
  replace hA := hA.later hst8
  clear hst8
  clear hc8 hN7 H8
  go_wp2_with fail
  with_reducible refine (H_hsm.out _ (H_h.out.later hb8) (H_k.out.later hb8)).mono ?_
  rintro e w9 ⟨rfl, hc9⟩
  have hb9 : Below w.heap.size w w9 := bchain (by repeat' (first | with_reducible exact hb8 | with_reducible refine Below.drew ?_ | with_reducible refine below_drewN ?_ _ | with_reducible refine Below.alloc ?_ (by have := hb8.size; first | (simp; done) | (simp; omega) | omega) _ | with_reducible refine Below.setCell ?_ (by first | (simp; done) | (simp; omega) | omega) _)) hc9
  have hst9 : Below w8.heap.size w8 w9 := bchain (by repeat' (first | with_reducible exact Below.refl _ _ | with_reducible refine Below.drew ?_ | with_reducible refine below_drewN ?_ _ | with_reducible refine Below.alloc ?_ (by first | (simp; done) | (simp; omega) | omega) _ | with_reducible refine Below.setCell ?_ (by first | (simp; done) | (simp; omega) | omega) _)) hc9
  replace hL := hL.later hst9
  replace hR := hR.later hst9
  replace hA := hA.later hst9
  replace hB := hB.later hst9
  clear hst9
  clear hc9
  have heq' := H_heq.out
  go_wp2_with (first | (refine wpList_load_blkG (by first | rfl | (simp [Region.wanted]; done)) 24 _ rfl w5.heap.size (by rfl) 24 xa _ hA Tryd.underlying24 rfl H_hxai.out ?_) | (refine wpList_load_blkG (by first | rfl | (simp [Region.wanted]; done)) 24 _ rfl w7.heap.size (by rfl) 24 xa _ hB Tryd.underlying24 rfl H_hxai.out ?_))
  clear heq'
  with_reducible refine (H_hap'.out _ (H_h.out.later hb9) (H_k.out.later hb9)).mono ?_
  rintro e w10 ⟨rfl, hc10⟩
  have hb10 : Below w.heap.size w w10 := bchain (by repeat' (first | with_reducible exact hb9 | with_reducible refine Below.drew ?_ | with_reducible refine below_drewN ?_ _ | with_reducible refine Below.alloc ?_ (by have := hb9.size; first | (simp; done) | (simp; omega) | omega) _ | with_reducible refine Below.setCell ?_ (by first | (simp; done) | (simp; omega) | omega) _)) hc10
  have hst10 : Below w9.heap.size w9 w10 := bchain (by repeat' (first | with_reducible exact Below.refl _ _ | with_reducible refine Below.drew ?_ | with_reducible refine below_drewN ?_ _ | with_reducible refine Below.alloc ?_ (by first | (simp; done) | (simp; omega) | omega) _ | with_reducible refine Below.setCell ?_ (by first | (simp; done) | (simp; omega) | omega) _)) hc10
  replace hL := hL.later hst10
  replace hR := hR.later hst10
  replace hA := hA.later hst10
  replace hB := hB.later hst10
  clear hst10
  clear hc10
  clear hA hB
  go_wp2_with fail
  with_reducible refine (H_hdb.out _ (H_h.out.later hb10) (H_k.out.later hb10) (H_hT.out.later hb10) (fun x e => Nat.lt_of_lt_of_le (H_ha.out x e) hb10.size) (fun x e => Nat.lt_of_lt_of_le (H_hb.out x e) hb10.size)).mono ?_
  rintro e w11 ⟨⟨ta, tc, ua, uc, rfl, hR2, hL2⟩, hc11⟩
  have hb11 : Below w.heap.size w w11 := bchain (by repeat' (first | with_reducible exact hb10 | with_reducible refine Below.drew ?_ | with_reducible refine below_drewN ?_ _ | with_reducible refine Below.alloc ?_ (by have := hb10.size; first | (simp; done) | (simp; omega) | omega) _ | with_reducible refine Below.setCell ?_ (by first | (simp; done) | (simp; omega) | omega) _)) hc11
  have hst11 : Below w10.heap.size w10 w11 := bchain (by repeat' (first | with_reducible exact Below.refl _ _ | with_reducible refine Below.drew ?_ | with_reducible refine below_drewN ?_ _ | with_reducible refine Below.alloc ?_ (by first | (simp; done) | (simp; omega) | omega) _ | with_reducible refine Below.setCell ?_ (by first | (simp; done) | (simp; omega) | omega) _)) hc11
  replace hL := hL.later hst11
  replace hR := hR.later hst11
  clear hst11
  clear hc11
  go_wp2_with fail
  with_reducible refine (H_hwo.out _ (H_h.out.later hb11) (H_k.out.later hb11)).mono ?_
  rintro e w12 ⟨⟨va, vc, rfl, hV1⟩, hc12⟩
  rw [← H_hlL.out] at hV1 ⊢
  have hI1 := hV1.idsIn rfl H_hid.out.1
  have hb12 : Below w.heap.size w w12 := bchain (by repeat' (first | with_reducible exact hb11 | with_reducible refine Below.drew ?_ | with_reducible refine below_drewN ?_ _ | with_reducible refine Below.alloc ?_ (by have := hb11.size; first | (simp; done) | (simp; omega) | omega) _ | with_reducible refine Below.setCell ?_ (by first | (simp; done) | (simp; omega) | omega) _)) hc12
  have hst12 : Below w11.heap.size w11 w12 := bchain (by repeat' (first | with_reducible exact Below.refl _ _ | with_reducible refine Below.drew ?_ | with_reducible refine below_drewN ?_ _ | with_reducible refine Below.alloc ?_ (by first | (simp; done) | (simp; omega) | omega) _ | with_reducible refine Below.setCell ?_ (by first | (simp; done) | (simp; omega) | omega) _)) hc12
  replace hL := hL.later hst12
  replace hR := hR.later hst12
  replace hR2 := hR2.later hst12
  replace hL2 := hL2.later hst12
  clear hst12
  clear hc12 hV1
  go_wp2_with fail
  with_reducible refine (H_hsL.out _ _ _ _ _ hL hI1).mono ?_
  rintro e w13 ⟨rfl, hc13⟩
  have hb13 : Below w.heap.size w w13 := bchain (by repeat' (first | with_reducible exact hb12 | with_reducible refine Below.drew ?_ | with_reducible refine below_drewN ?_ _ | with_reducible refine Below.alloc ?_ (by have := hb12.size; first | (simp; done) | (simp; omega) | omega) _ | with_reducible refine Below.setCell ?_ (by first | (simp; done) | (simp; omega) | omega) _)) hc13
  have hst13 : Below w12.heap.size w12 w13 := bchain (by repeat' (first | with_reducible exact Below.refl _ _ | with_reducible refine Below.drew ?_ | with_reducible refine below_drewN ?_ _ | with_reducible refine Below.alloc ?_ (by first | (simp; done) | (simp; omega) | omega) _ | with_reducible refine Below.setCell ?_ (by first | (simp; done) | (simp; omega) | omega) _)) hc13
  replace hL := hL.later hst13
  replace hR := hR.later hst13
  replace hR2 := hR2.later hst13
  replace hL2 := hL2.later hst13
  clear hst13
  clear hc13
  clear hI1
  go_wp2_with fail
  with_reducible refine (H_hwb.out _ (H_h.out.later hb13) (H_k.out.later hb13)).mono ?_
  rintro e w14 ⟨⟨va2, vc2, rfl, hV2⟩, hc14⟩
  rw [← H_hlR.out] at hV2 ⊢
  have hI2 := hV2.idsIn rfl H_hid.out.2
  have hb14 : Below w.heap.size w w14 := bchain (by repeat' (first | with_reducible exact hb13 | with_reducible refine Below.drew ?_ | with_reducible refine below_drewN ?_ _ | with_reducible refine Below.alloc ?_ (by have := hb13.size; first | (simp; done) | (simp; omega) | omega) _ | with_reducible refine Below.setCell ?_ (by first | (simp; done) | (simp; omega) | omega) _)) hc14
  have hst14 : Below w13.heap.size w13 w14 := bchain (by repeat' (first | with_reducible exact Below.refl _ _ | with_reducible refine Below.drew ?_ | with_reducible refine below_drewN ?_ _ | with_reducible refine Below.alloc ?_ (by first | (simp; done) | (simp; omega) | omega) _ | with_reducible refine Below.setCell ?_ (by first | (simp; done) | (simp; omega) | omega) _)) hc14
  replace hL := hL.later hst14
  replace hR := hR.later hst14
  replace hR2 := hR2.later hst14
  replace hL2 := hL2.later hst14
  clear hst14
  clear hc14 hV2
  go_wp2_with fail
  with_reducible refine (H_hsR.out _ _ _ _ _ hR hI2).mono ?_
  rintro e w15 ⟨rfl, hc15⟩
  have hb15 : Below w.heap.size w w15 := bchain (by repeat' (first | with_reducible exact hb14 | with_reducible refine Below.drew ?_ | with_reducible refine below_drewN ?_ _ | with_reducible refine Below.alloc ?_ (by have := hb14.size; first | (simp; done) | (simp; omega) | omega) _ | with_reducible refine Below.setCell ?_ (by first | (simp; done) | (simp; omega) | omega) _)) hc15
  have hst15 : Below w14.heap.size w14 w15 := bchain (by repeat' (first | with_reducible exact Below.refl _ _ | with_reducible refine Below.drew ?_ | with_reducible refine below_drewN ?_ _ | with_reducible refine Below.alloc ?_ (by first | (simp; done) | (simp; omega) | omega) _ | with_reducible refine Below.setCell ?_ (by first | (simp; done) | (simp; omega) | omega) _)) hc15
  replace hL := hL.later hst15
  replace hR := hR.later hst15
  replace hR2 := hR2.later hst15
  replace hL2 := hL2.later hst15
  clear hst15
  clear hc15
  clear hI2
  go_wp2_with fail
  with_reducible refine (H_hsR.out _ _ _ _ _ hR2 hR).mono ?_
  rintro e w16 ⟨rfl, hc16⟩
  have hb16 : Below w.heap.size w w16 := bchain (by repeat' (first | with_reducible exact hb15 | with_reducible refine Below.drew ?_ | with_reducible refine below_drewN ?_ _ | with_reducible refine Below.alloc ?_ (by have := hb15.size; first | (simp; done) | (simp; omega) | omega) _ | with_reducible refine Below.setCell ?_ (by first | (simp; done) | (simp; omega) | omega) _)) hc16
  have hst16 : Below w15.heap.size w15 w16 := bchain (by repeat' (first | with_reducible exact Below.refl _ _ | with_reducible refine Below.drew ?_ | with_reducible refine below_drewN ?_ _ | with_reducible refine Below.alloc ?_ (by first | (simp; done) | (simp; omega) | omega) _ | with_reducible refine Below.setCell ?_ (by first | (simp; done) | (simp; omega) | omega) _)) hc16
  replace hL := hL.later hst16
  replace hR := hR.later hst16
  replace hR2 := hR2.later hst16
  replace hL2 := hL2.later hst16
  clear hst16
  clear hc16
  go_wp2_with fail
  with_reducible refine (H_hsL.out _ _ _ _ _ hL2 hL).mono ?_
  rintro e w17 ⟨rfl, hc17⟩
  have hb17 : Below w.heap.size w w17 := bchain (by repeat' (first | with_reducible exact hb16 | with_reducible refine Below.drew ?_ | with_reducible refine below_drewN ?_ _ | with_reducible refine Below.alloc ?_ (by have := hb16.size; first | (simp; done) | (simp; omega) | omega) _ | with_reducible refine Below.setCell ?_ (by first | (simp; done) | (simp; omega) | omega) _)) hc17
  have hst17 : Below w16.heap.size w16 w17 := bchain (by repeat' (first | with_reducible exact Below.refl _ _ | with_reducible refine Below.drew ?_ | with_reducible refine below_drewN ?_ _ | with_reducible refine Below.alloc ?_ (by first | (simp; done) | (simp; omega) | omega) _ | with_reducible refine Below.setCell ?_ (by first | (simp; done) | (simp; omega) | omega) _)) hc17
  replace hL := hL.later hst17
  replace hR := hR.later hst17
  replace hR2 := hR2.later hst17
  replace hL2 := hL2.later hst17
  clear hst17
  clear hc17
  go_wp2_with fail
  go_ret
  exact ⟨rfl, hb17⟩
theorem apart_self (m : Nat) (a : List (List Int)) : apartF m a a = true := by
  cases m with
  | zero => rfl
  | succ m => unfold apartF; rw [if_pos rfl]
theorem desc_ids {m : Nat} {a b : List (List Int)} (ha : IncL a) (hb : IncL b) : (∀ x ∈ (descF m a b).l, IdIn x) ∧ ∀ x ∈ (descF m a b).r, IdIn x := by
  have key : ∀ (m : Nat) (a b : List (List Int)), (∀ x ∈ (descF m a b).l, x ∈ a) ∧ ∀ x ∈ (descF m a b).r, x ∈ b := by
    intro m
    induction m with
    | zero => intro a b; exact ⟨fun x hx => (by cases hx), fun x hx => (by cases hx)⟩
    | succ m ih =>
      intro a b
      by_cases hr : rootP a = rootP b
      · rw [descF_eq hr]; exact ⟨fun x hx => (by cases hx), fun x hx => (by cases hx)⟩
      · by_cases h2 : a.length < 2 ∨ b.length < 2
        · rw [descF_few hr h2]; exact ⟨fun x hx => (List.mem_filter.1 hx).1, fun x hx => (List.mem_filter.1 hx).1⟩
        · rw [descF_more hr h2 rfl]
          obtain ⟨p1, p2⟩ := ih (zerosL a (splitN (a ++ b))) (zerosL b (splitN (a ++ b)))
          obtain ⟨q1, q2⟩ := ih (onesL a (splitN (a ++ b))) (onesL b (splitN (a ++ b)))
          exact ⟨fun x hx => (List.mem_append.1 hx).elim (fun h => (List.mem_filter.1 (p1 x h)).1) fun h => (List.mem_filter.1 (q1 x h)).1, fun x hx => (List.mem_append.1 hx).elim (fun h => (List.mem_filter.1 (p2 x h)).1) fun h => (List.mem_filter.1 (q2 x h)).1⟩
  exact ⟨fun x hx => ha.ids x ((key m a b).1 x hx), fun x hx => hb.ids x ((key m a b).2 x hx)⟩
theorem found_full (l : List (List Int)) (a : Option Addr) (ac : Nat) (m : List (List Int)) (b : Option Addr) (bc : Nat) (w : World) (h : IdsIn w a ac l ∧ l.length ≤ maxLen ∧ ∀ x, a = some x → x.block < w.heap.size) (k : IdsIn w b bc m ∧ m.length ≤ maxLen ∧ ∀ x, b = some x → x.block < w.heap.size) (hK : CellsAt w (some ⟨1, 0, none⟩) (kcs.map (Value.int .u32)) ∧ 1 < w.heap.size) :
    Calls Tryd.prog 4 #[.slice a l.length ac, .slice b m.length bc] w fun e w' =>
      e = .returned (.bool true) ∧ Below w.heap.size w w' := by
  have hT : TabK w := ⟨hK.1, hK.2⟩
  by_cases h16 : l.length ≤ 16
  · by_cases k16 : m.length ≤ 16
    · by_cases hz : chkZ l = 0
      · by_cases hz2 : chkZ m = 0
        · obtain ⟨hi, _⟩ := inc_of_chk h.1.ids hz
          obtain ⟨hj, _⟩ := inc_of_chk k.1.ids hz2
          have hd := down_ok (l.length + m.length) l m hi hj (by omega) (by omega) (Nat.le_refl _)
          have hd2 := down_ok (l.length + m.length) m l hj hi (by omega) (by omega) (by omega)
          have hap := rapart_ok (l.length + m.length) l m hi hj (by omega) (by omega) (Nat.le_refl _)
          obtain ⟨f1, f2, f3, f4⟩ := descF_facts (l.length + m.length) l m hi hj (Nat.le_refl _)
          have hfo := apart_found (l.length + m.length) l m hi hj (Nat.le_refl _)
          rw [descF_mirror (l.length + m.length) l m hi hj (Nat.le_refl _)] at hd2
          have hid := desc_ids (m := l.length + m.length) hi hj
          by_cases hne : l = m
          · subst hne
            have e := descF_eq (m := l.length + l.length) (a := l) (b := l) rfl
            exact found_eq l l _ _ _ _ a b _ ac _ bc w h.1 k.1 rfl rfl h16 k16 hi hj hT h.2.2 k.2.2 hd hd2 hap hid (by omega) (by omega) f3 (by omega) (hfo (apart_self _ _)).1 (hfo (apart_self _ _)).2 (apart_self _ _) rfl (by rw [e]) (by rw [e]) (by rw [e])
          · exact found_ne l m _ _ _ _ a b _ ac _ bc w h.1 k.1 rfl rfl h16 k16 hi hj hT h.2.2 k.2.2 hd hd2 hap hid (by omega) (by omega) f3 (by omega) (fun e => (hfo e).1) (fun e => (hfo e).2) hne
        · exact found_bad2 l m a b _ ac _ bc w h.1 k.1 rfl rfl h16 k16 hz hz2 hT
      · exact found_bad1 l a b _ ac _ bc w h.1 rfl h16 k16 hz hT
    · exact found_big2 a b _ ac _ bc w (by omega) (by omega) hT
  · exact found_big1 a b _ ac _ bc w (by omega) hT

end Go.Proofs.YtfabcdpmnbeflaaDoor
