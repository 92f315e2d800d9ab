/- Cmp, of the program and of the reference: ids compared from the first byte on. -/
import Derived.Test.YtfabcdpmnbeflaaDoorDigMills
import Derived.Lib.BytesEntry
namespace Go.Proofs.YtfabcdpmnbeflaaDoor
set_option maxRecDepth 100000
set_option linter.unusedSimpArgs false
set_option linter.unusedVariables false
set_option linter.unnecessarySimpa false
open Go.RowKit

/-- Bytes compared from the first on. -/
def cmpZ : List Int → List Int → Int
  | [], [] => 0
  | [], _ :: _ => -1
  | _ :: _, [] => 1
  | a :: xs, b :: ys => if a < b then -1 else if b < a then 1 else cmpZ xs ys
theorem u8_lt {a b : Int} (ha : 0 ≤ a ∧ a < 256) (hb : 0 ≤ b ∧ b < 256) : (a.toNat.toUInt8 < b.toNat.toUInt8) ↔ a < b := by
  rw [UInt8.lt_iff_toNat_lt]
  simp only [Nat.toUInt8, UInt8.toNat_ofNat']
  rw [Nat.mod_eq_of_lt (by omega), Nat.mod_eq_of_lt (by omega)]
  omega
theorem cmpZ_eq : ∀ {xs ys : List Int}, Bytes8 xs → Bytes8 ys → Lib.compareBytes (Lib.bytesOf xs) (Lib.bytesOf ys) = cmpZ xs ys
  | [], [], _, _ => rfl
  | [], _ :: _, _, _ => rfl
  | _ :: _, [], _, _ => rfl
  | a :: xs, b :: ys, hx, hy => by
    have ha := hx a (List.mem_cons_self ..)
    have hb := hy b (List.mem_cons_self ..)
    have ih := cmpZ_eq (xs := xs) (ys := ys) (fun x h => hx x (List.mem_cons_of_mem _ h)) (fun x h => hy x (List.mem_cons_of_mem _ h))
    show (if a.toNat.toUInt8 < b.toNat.toUInt8 then -1 else if b.toNat.toUInt8 < a.toNat.toUInt8 then 1 else Lib.compareBytes (Lib.bytesOf xs) (Lib.bytesOf ys)) = if a < b then -1 else if b < a then 1 else cmpZ xs ys
    simp only [u8_lt ha hb, u8_lt hb ha, ih]
section
variable {P : Program} (w : World)
theorem run_bytesOf_row (b off n c : Nat) (xs : List Int) (hx : xs.length = n) (hc : ∀ i, i < n → w.cell? ⟨b, off + i, none⟩ = some (.int .u8 (xs[i]?.getD 0))) :
    (Extern.Bytes.bytesOf (.slice (some ⟨b, off, none⟩) n c)).run P w = .ok ⟨(Lib.bytesOf xs).toArray⟩ w := by
  have hl := Lib.run_loadBytesX (P := P) w xs ⟨b, off, none⟩ .empty (fun j x hj => by
    have hjl : j < xs.length := (List.getElem?_eq_some_iff.1 hj).1
    have e : (⟨b, off, none⟩ : Addr).add j = ⟨b, off + j, none⟩ := by unfold Addr.add; split <;> simp_all
    rw [e, hc j (by omega), hj]
    rfl)
  rw [hx] at hl
  unfold Extern.Bytes.bytesOf
  rw [hl]
  congr 1
  simp
theorem run_compare_rows (b off n c b' off' n' c' : Nat) (xs ys : List Int) (hx : xs.length = n) (hy : ys.length = n') (h8 : Bytes8 xs) (k8 : Bytes8 ys)
    (hc : ∀ i, i < n → w.cell? ⟨b, off + i, none⟩ = some (.int .u8 (xs[i]?.getD 0))) (kc : ∀ i, i < n' → w.cell? ⟨b', off' + i, none⟩ = some (.int .u8 (ys[i]?.getD 0))) :
    (Extern.BytealgCompare.compare #[.slice (some ⟨b, off, none⟩) n c, .slice (some ⟨b', off', none⟩) n' c']).run P w = .ok (.int .i64 (cmpZ xs ys)) w := by
  change Sem.run P (do pure (goInt (Extern.BytealgCompare.cmp (← Extern.Bytes.bytesOf (.slice (some ⟨b, off, none⟩) n c)) (← Extern.Bytes.bytesOf (.slice (some ⟨b', off', none⟩) n' c'))))) w = _
  simp only [Sem.run_bind, run_bytesOf_row w b off n c xs hx hc, run_bytesOf_row w b' off' n' c' ys hy kc, Result.andThen]
  rw [Lib.cmp_eq, ← cmpZ_eq h8 k8]
  rfl
end

set_option maxHeartbeats 1000000 in
theorem compare_any (b off n c b' off' n' c' : Nat) (xs ys : List Int) (w : World) (hx : xs.length = n) (hy : ys.length = n') (h8 : Bytes8 xs) (k8 : Bytes8 ys)
    (hc : ∀ i, i < n → w.cell? ⟨b, off + i, none⟩ = some (.int .u8 (xs[i]?.getD 0))) (kc : ∀ i, i < n' → w.cell? ⟨b', off' + i, none⟩ = some (.int .u8 (ys[i]?.getD 0))) :
    Calls Tryd.prog 52 #[.slice (some ⟨b, off, none⟩) n c, .slice (some ⟨b', off', none⟩) n' c'] w fun e w' =>
      e = .returned (.int .i64 (cmpZ xs ys)) ∧ w = w' := by
  have hr : (callFunc 59 #[.slice (some ⟨b, off, none⟩) n c, .slice (some ⟨b', off', none⟩) n' c']).run Tryd.prog w = .ok (.value (.int .i64 (cmpZ xs ys))) w := by
    rw [run_callFunc_extern Tryd.func59 (by kernel_rfl) (by kernel_rfl) (by kernel_rfl) (e := Extern.BytealgCompare.compare) (by kernel_rfl), run_compare_rows w b off n c b' off' n' c' xs ys hx hy h8 k8 hc kc]
    rfl
  have H_hx := hid hx
  have H_hy := hid hy
  clear hx hy
  clear hc kc
  go_enter Tryd.func52, Tryd.ntmps52
  have hb0 := Below.refl w.heap.size w
  go_wp2_with fail
  go_ret
  exact ⟨rfl, rfl⟩

set_option maxRecDepth 100000 in
set_option maxHeartbeats 2000000 in
theorem cmp_any (xs ys : List Int) (w : World) (hx : xs.length = 32) (hy : ys.length = 32) (h8 : Bytes8 xs) (k8 : Bytes8 ys) :
    Calls Tryd.prog 39 #[.agg (xs.map (Value.int .u8)).toArray, .agg (ys.map (Value.int .u8)).toArray] w fun e w' =>
      e = .returned (.int .i64 (cmpZ xs ys)) ∧ Below w.heap.size w w' := by
  obtain ⟨us, hus⟩ : ∃ us, us = xs.map (Value.int .u8) := ⟨_, rfl⟩
  obtain ⟨vs, hvs⟩ : ∃ vs, vs = ys.map (Value.int .u8) := ⟨_, rfl⟩
  rw [← hus, ← hvs]
  have H_hx := hid hx
  have H_hy := hid hy
  have H_hus := hid hus
  have H_hvs := hid hvs
  clear hx hy hus hvs
  go_enter Tryd.func39, Tryd.ntmps39
  have hb0 := Below.refl w.heap.size w
  go_wp2_with fail
  refine wp_gen fun w1 hc1 => ?_
  have hb1 : Below w.heap.size w w1 := bchain (by repeat' (first | with_reducible exact hb0 | with_reducible refine Below.drew ?_ | with_reducible refine below_drewN ?_ _ | with_reducible refine Below.alloc ?_ (by have := hb0.size; first | (simp; done) | (simp; omega) | omega) _ | with_reducible refine Below.setCell ?_ (by first | (simp; done) | (simp; omega) | omega) _)) hc1
  have hX : Blk w1 w.heap.size 24 us := Blk.later (Blk.alloc (Blk.newA w _ _ _ us rfl rfl) _) hc1
  have hY : Blk w1 (w.heap.size + 1) 24 vs := Blk.later (Blk.newA _ _ _ _ vs (by simp) rfl) hc1
  have cX : ∀ p i, i < 32 → (wOn w1 p).cell? ⟨w.heap.size, 0 + i, none⟩ = some (.int .u8 (xs[i]?.getD 0)) := fun p i hi => by
    rw [Nat.zero_add]
    refine cell_on ((H_hus.out ▸ hX).cellI (j := i) (by have := H_hx.out; omega)) p
  have cY : ∀ p i, i < 32 → (wOn w1 p).cell? ⟨w.heap.size + 1, 0 + i, none⟩ = some (.int .u8 (ys[i]?.getD 0)) := fun p i hi => by
    rw [Nat.zero_add]
    refine cell_on ((H_hvs.out ▸ hY).cellI (j := i) (by have := H_hy.out; omega)) p
  have hcall := fun p => (compare_any w.heap.size 0 32 32 (w.heap.size + 1) 0 32 32 xs ys (wOn w1 p) H_hx.out H_hy.out h8 k8 (cX p) (cY p)).mono fun e w' (h : e = .returned (.int .i64 (cmpZ xs ys)) ∧ wOn w1 p = w') => (⟨h.1, h.2 ▸ Below.refl _ _⟩ : e = .returned (.int .i64 (cmpZ xs ys)) ∧ Below (wOn w1 p).heap.size (wOn w1 p) w')
  clear hc1
  have H_cX := hid cX
  have H_cY := hid cY
  clear cX cY
  refine wp_region_on (by kernel_rfl) (by kernel_rfl) ?_
  repeat (go_big_quiet_step ((first | (go_at_call 52; with_reducible exact calls_on (hcall _)))))
  refine wpQuiet_nil ?_
  intro w2 hc2
  have hb2 : Below w.heap.size w w2 := bchain (by repeat' (first | with_reducible exact hb1 | with_reducible refine Below.drew ?_ | with_reducible refine below_drewN ?_ _ | with_reducible refine Below.alloc ?_ (by have := hb1.size; first | (simp; done) | (simp; omega) | omega) _ | with_reducible refine Below.setCell ?_ (by first | (simp; done) | (simp; omega) | omega) _)) hc2
  go_wp2_with fail
  go_ret
  exact ⟨rfl, (by repeat' (first | with_reducible exact hb2 | with_reducible refine Below.drew ?_ | with_reducible refine below_drewN ?_ _ | with_reducible refine Below.alloc ?_ (by have := hb2.size; first | (simp; done) | (simp; omega) | omega) _ | with_reducible refine Below.setCell ?_ (by first | (simp; done) | (simp; omega) | omega) _))⟩

theorem cmpZ_drop {xs ys : List Int} {i : Nat} (hx : i < xs.length) (hy : i < ys.length) : cmpZ (xs.drop i) (ys.drop i) = if xs[i]?.getD 0 < ys[i]?.getD 0 then -1 else if ys[i]?.getD 0 < xs[i]?.getD 0 then 1 else cmpZ (xs.drop (i + 1)) (ys.drop (i + 1)) := by
  rw [List.drop_eq_getElem_cons hx, List.drop_eq_getElem_cons hy, List.getElem?_eq_getElem hx, List.getElem?_eq_getElem hy]
  rfl
end Go.Proofs.YtfabcdpmnbeflaaDoor
