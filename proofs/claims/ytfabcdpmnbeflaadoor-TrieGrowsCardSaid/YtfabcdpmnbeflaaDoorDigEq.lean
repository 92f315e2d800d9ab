/- The program's words of a block are the reference's. -/
import Derived.Test.YtfabcdpmnbeflaaDoorDigConsts
namespace Go.Proofs.YtfabcdpmnbeflaaDoor
set_option maxRecDepth 100000
open Go.RowKit
set_option linter.unusedSimpArgs false

theorem bits_or_u32_nat (a b : Nat) (ha : a < 4294967296) (hb : b < 4294967296) : bits .or .u32 (a : Int) (b : Int) = ((a ||| b : Nat) : Int) := by
  have hx : a ||| b < 2 ^ 32 := Nat.or_lt_two_pow (by omega) (by omega)
  have h1 : (BitVec.ofInt 32 (a : Int)).toNat = a := by
    rw [BitVec.ofInt_natCast, BitVec.toNat_ofNat]; exact Nat.mod_eq_of_lt (by omega)
  have h2 : (BitVec.ofInt 32 (b : Int)).toNat = b := by
    rw [BitVec.ofInt_natCast, BitVec.toNat_ofNat]; exact Nat.mod_eq_of_lt (by omega)
  show IntKind.u32.wrap ((BitVec.ofInt 32 (a : Int) ||| BitVec.ofInt 32 (b : Int)).toNat : Int) = _
  rw [BitVec.toNat_or, h1, h2, IntKind.wrap_u32]
  omega
theorem or_byte (x b : Int) (hx0 : 0 ≤ x) (hx1 : x < 16777216) (hb0 : 0 ≤ b) (hb1 : b < 256) : bits .or .u32 (x * 256 % 4294967296) b = x * 256 + b := by
  obtain ⟨m, rfl⟩ : ∃ m : Nat, x = m := ⟨x.toNat, by omega⟩
  obtain ⟨n, rfl⟩ : ∃ n : Nat, b = n := ⟨b.toNat, by omega⟩
  have h1 : (m : Int) * 256 % 4294967296 = ((m * 256 : Nat) : Int) := by omega
  rw [h1, bits_or_u32_nat _ _ (by omega) (by omega)]
  have h2 := Nat.shiftLeft_add_eq_or_of_lt (show n < 2 ^ 8 by omega) m
  rw [Nat.shiftLeft_eq] at h2
  have h3 : m * 256 ||| n = m * 256 + n := h2.symm
  rw [h3]; omega
def pw (bs : List Int) (j : Nat) : Nat → Int
  | 0 => 0
  | r + 1 => pw bs j r * 256 + bs[4 * j + r]?.getD 0
theorem pw_bd {bs : List Int} (h : Bytes8 bs) (j : Nat) : (0 ≤ pw bs j 1 ∧ pw bs j 1 < 256) ∧ (0 ≤ pw bs j 2 ∧ pw bs j 2 < 65536) ∧ (0 ≤ pw bs j 3 ∧ pw bs j 3 < 16777216) := by
  have h0 := h.at (4 * j + 0)
  have h1 := h.at (4 * j + 1)
  have h2 := h.at (4 * j + 2)
  simp only [pw]
  omega
theorem pw4 (bs : List Int) (j : Nat) : pw bs j 4 = wdAt bs j := by
  simp only [pw, wdAt, Nat.add_zero]; omega
theorem arr_at {bs : List Int} (h : Bytes8 bs) : ∀ i, i ≤ 64 → ∀ j, j < 64 → (arr bs i)[j]?.getD 0 = if i ≤ 4 * j then 0 else pw bs j (min (i - 4 * j) 4)
  | 0, _, j, hj => by
    rw [if_pos (by omega), arr, List.getElem?_replicate, if_pos hj]; rfl
  | i + 1, hi, j, hj => by
    have ih := arr_at h i (by omega)
    have hlen := arr_len bs i
    rw [arr, List.getElem?_set]
    by_cases e : i / 4 = j
    · subst e
      rw [if_pos rfl, if_pos (by omega), if_neg (by omega)]
      obtain ⟨j, hj'⟩ : ∃ j, j = i / 4 := ⟨_, rfl⟩
      obtain ⟨r, hr⟩ : ∃ r, i = 4 * j + r ∧ r < 4 := ⟨i - 4 * j, by omega, by omega⟩
      rw [← hj']
      have e1 : (arr bs i)[j]?.getD 0 = pw bs j r := by
        rw [ih j (by omega)]
        by_cases h0 : r = 0
        · rw [if_pos (by omega), h0]; rfl
        · rw [if_neg (by omega)]; congr 1; omega
      have e2 : min (i + 1 - 4 * j) 4 = r + 1 := by omega
      have e3 : bs[i]?.getD 0 = bs[4 * j + r]?.getD 0 := by rw [hr.1]
      show bits BinOp.or IntKind.u32 ((arr bs i)[j]?.getD 0 * 256 % 4294967296) (bs[i]?.getD 0) = _
      rw [e1, e2, e3]
      have hb := h.at (4 * j + r)
      have hp := pw_bd h j
      have hx : 0 ≤ pw bs j r ∧ pw bs j r < 16777216 := by
        have : pw bs j 0 = 0 := rfl
        rcases (by omega : r = 0 ∨ r = 1 ∨ r = 2 ∨ r = 3) with h | h | h | h <;> subst h <;> omega
      rw [or_byte _ _ hx.1 hx.2 hb.1 hb.2]; rfl
    · rw [if_neg e, ih j hj]
      by_cases c : i ≤ 4 * j
      · rw [if_pos c, if_pos (by omega)]
      · rw [if_neg c, if_neg (by omega)]; congr 1; omega
theorem ext_getD {a b : List Int} (hl : a.length = b.length) (h : ∀ j, j < a.length → a[j]?.getD 0 = b[j]?.getD 0) : a = b := by
  apply List.ext_getElem hl
  intro j h1 h2
  have := h j h1
  rwa [List.getElem?_eq_getElem h1, List.getElem?_eq_getElem h2] at this
theorem arr64 {bs : List Int} (h : Bytes8 bs) : arr bs 64 = wds bs 16 ++ List.replicate 48 0 := by
  refine ext_getD (by rw [arr_len, List.length_append, wds_len, List.length_replicate]) fun j hj => ?_
  rw [arr_len] at hj
  rw [arr_at h 64 (by omega) j hj]
  by_cases c : j < 16
  · rw [if_neg (by omega), List.getElem?_append_left (by rw [wds_len]; exact c), show min (64 - 4 * j) 4 = 4 by omega, pw4]
    unfold wds
    rw [List.getElem?_map, List.getElem?_range c]; rfl
  · rw [if_pos (by omega), List.getElem?_append_right (by rw [wds_len]; omega), wds_len, List.getElem?_replicate, if_pos (by omega)]; rfl
theorem arwNext_append (l z : List Int) (T : Nat) (h16 : 16 ≤ T) (hT : T ≤ l.length) : arwNext (l ++ z) T = arwNext l T := by
  unfold arwNext
  rw [List.getElem?_append_left (by omega), List.getElem?_append_left (by omega), List.getElem?_append_left (by omega), List.getElem?_append_left (by omega)]
theorem arw_wdx {bs : List Int} (h : Bytes8 bs) : ∀ k, k ≤ 48 → arw bs k = wdx bs k ++ List.replicate (48 - k) 0
  | 0, _ => by rw [arw, arr64 h]; rfl
  | k + 1, hk => by
    have hl := wdx_len bs k
    rw [arw, arw_wdx h k (by omega), arwNext_append _ _ _ (by omega) (by omega), List.set_append_right _ _ (by omega), hl, Nat.sub_self, show 48 - k = (48 - (k + 1)) + 1 by omega, List.replicate_succ, List.set_cons_zero, wdx, List.append_assoc]
    rfl
theorem arw48 {bs : List Int} (h : Bytes8 bs) : arw bs 48 = wdx bs 48 := by
  rw [arw_wdx h 48 (Nat.le_refl _)]; simp
theorem arr_take (bs : List Int) : ∀ i, i ≤ 64 → arr (bs.take 64) i = arr bs i
  | 0, _ => rfl
  | i + 1, hi => by
    rw [arr, arr, arr_take bs i (by omega), List.getElem?_take, if_pos (by omega)]
theorem arw_take (bs : List Int) : ∀ k, arw (bs.take 64) k = arw bs k
  | 0 => arr_take bs 64 (Nat.le_refl _)
  | k + 1 => by rw [arw, arw, arw_take bs k]
theorem ground_take (hs bs : List Int) : ground hs (bs.take 64) = ground hs bs := by unfold ground; rw [arw_take]

end Go.Proofs.YtfabcdpmnbeflaaDoor
