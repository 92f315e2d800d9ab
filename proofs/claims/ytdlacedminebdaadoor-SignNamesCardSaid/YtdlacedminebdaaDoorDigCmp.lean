/- Cmp, of the program and of the reference: ids compared from the first byte on. -/
import Derived.Test.YtdlacedminebdaaDoorDigMills
import Derived.Lib.BytesEntry
namespace Go.Proofs.YtdlacedminebdaaDoor
set_option linter.unusedSimpArgs false
set_option linter.unusedVariables false
set_option linter.unnecessarySimpa false
open Go.RowKit

/-- Bytes compared from the first on. -/
def cmpZ : List Int → List Int → Int
  | [], [] => 0
  | [], _ :: _ => -1
  | _ :: _, [] => 1
  | a :: xs, b :: ys => if a < b then -1 else if b < a then 1 else cmpZ xs ys
theorem u8_lt {a b : Int} (ha : 0 ≤ a ∧ a < 256) (hb : 0 ≤ b ∧ b < 256) : (a.toNat.toUInt8 < b.toNat.toUInt8) ↔ a < b := by
  rw [UInt8.lt_iff_toNat_lt]
  simp only [Nat.toUInt8, UInt8.toNat_ofNat']
  rw [Nat.mod_eq_of_lt (by omega), Nat.mod_eq_of_lt (by omega)]
  omega
theorem cmpZ_eq : ∀ {xs ys : List Int}, Bytes8 xs → Bytes8 ys → Lib.compareBytes (Lib.bytesOf xs) (Lib.bytesOf ys) = cmpZ xs ys
  | [], [], _, _ => rfl
  | [], _ :: _, _, _ => rfl
  | _ :: _, [], _, _ => rfl
  | a :: xs, b :: ys, hx, hy => by
    have ha := hx a (List.mem_cons_self ..)
    have hb := hy b (List.mem_cons_self ..)
    have ih := cmpZ_eq (xs := xs) (ys := ys) (fun x h => hx x (List.mem_cons_of_mem _ h)) (fun x h => hy x (List.mem_cons_of_mem _ h))
    show (if a.toNat.toUInt8 < b.toNat.toUInt8 then -1 else if b.toNat.toUInt8 < a.toNat.toUInt8 then 1 else Lib.compareBytes (Lib.bytesOf xs) (Lib.bytesOf ys)) = if a < b then -1 else if b < a then 1 else cmpZ xs ys
    simp only [u8_lt ha hb, u8_lt hb ha, ih]
section
variable {P : Program} (w : World)
theorem run_bytesOf_row (b off n c : Nat) (xs : List Int) (hx : xs.length = n) (hc : ∀ i, i < n → w.cell? ⟨b, off + i, none⟩ = some (.int .u8 (xs[i]?.getD 0))) :
    (Extern.Bytes.bytesOf (.slice (some ⟨b, off, none⟩) n c)).run P w = .ok ⟨(Lib.bytesOf xs).toArray⟩ w := by
  have hl := Lib.run_loadBytesX (P := P) w xs ⟨b, off, none⟩ .empty (fun j x hj => by
    have hjl : j < xs.length := (List.getElem?_eq_some_iff.1 hj).1
    have e : (⟨b, off, none⟩ : Addr).add j = ⟨b, off + j, none⟩ := by unfold Addr.add; split <;> simp_all
    rw [e, hc j (by omega), hj]
    rfl)
  rw [hx] at hl
  unfold Extern.Bytes.bytesOf
  rw [hl]
  congr 1
  simp
theorem run_compare_rows (b off n c b' off' n' c' : Nat) (xs ys : List Int) (hx : xs.length = n) (hy : ys.length = n') (h8 : Bytes8 xs) (k8 : Bytes8 ys)
    (hc : ∀ i, i < n → w.cell? ⟨b, off + i, none⟩ = some (.int .u8 (xs[i]?.getD 0))) (kc : ∀ i, i < n' → w.cell? ⟨b', off' + i, none⟩ = some (.int .u8 (ys[i]?.getD 0))) :
    (Extern.BytealgCompare.compare #[.slice (some ⟨b, off, none⟩) n c, .slice (some ⟨b', off', none⟩) n' c']).run P w = .ok (.int .i64 (cmpZ xs ys)) w := by
  change Sem.run P (do pure (goInt (Extern.BytealgCompare.cmp (← Extern.Bytes.bytesOf (.slice (some ⟨b, off, none⟩) n c)) (← Extern.Bytes.bytesOf (.slice (some ⟨b', off', none⟩) n' c'))))) w = _
  simp only [Sem.run_bind, run_bytesOf_row w b off n c xs hx hc, run_bytesOf_row w b' off' n' c' ys hy kc, Result.andThen]
  rw [Lib.cmp_eq, ← cmpZ_eq h8 k8]
  rfl
end

theorem cmpZ_drop {xs ys : List Int} {i : Nat} (hx : i < xs.length) (hy : i < ys.length) : cmpZ (xs.drop i) (ys.drop i) = if xs[i]?.getD 0 < ys[i]?.getD 0 then -1 else if ys[i]?.getD 0 < xs[i]?.getD 0 then 1 else cmpZ (xs.drop (i + 1)) (ys.drop (i + 1)) := by
  rw [List.drop_eq_getElem_cons hx, List.drop_eq_getElem_cons hy, List.getElem?_eq_getElem hx, List.getElem?_eq_getElem hy]
  rfl
end Go.Proofs.YtdlacedminebdaaDoor
