/- CfgTxtP: CfgCutP, CfgRowsP, CfgParseP. -/
import Derived.Test.YthdldmkeoglflaaDoorCfgTxtE
import Derived.Lib.SplitLaws
import Derived.Lib.ParseIntB
import Derived.Test.YthdldmkeoglflaaDoorBlk
import Derived.Test.YthdldmkeoglflaaDoorCfgWith
/- Strings cut at a byte, and numbers read: plain laws. -/
namespace Go.Proofs.YthdldmkeoglflaaDoor
open Go.RowKit

/-- Bytes as a string. -/
def bsB (l : List UInt8) : ByteArray := ⟨l.toArray⟩
theorem bsB_list (l : List UInt8) : (bsB l).data.toList = l := by simp [bsB]
theorem bsB_of (b : ByteArray) : bsB b.data.toList = b := by cases b; simp [bsB]
theorem bsB_size (l : List UInt8) : (bsB l).size = l.length := by simp [bsB, ByteArray.size]
theorem bsB_inj {a b : List UInt8} (h : bsB a = bsB b) : a = b := by rw [← bsB_list a, h, bsB_list]

/-- A string's pieces between a byte. -/
def cutA (c : UInt8) : List UInt8 → List UInt8 → List (List UInt8)
  | acc, [] => [acc]
  | acc, x :: r => if x = c then acc :: cutA c [] r else cutA c (acc ++ [x]) r
def cutL (c : UInt8) (l : List UInt8) : List (List UInt8) := cutA c [] l
theorem cutA_ne (c : UInt8) : ∀ (acc l : List UInt8), cutA c acc l ≠ []
  | acc, [] => by simp [cutA]
  | acc, x :: r => by
    unfold cutA
    split
    · simp
    · exact cutA_ne c _ r
theorem cutA_no {c : UInt8} : ∀ {l : List UInt8} (acc : List UInt8), c ∉ l → cutA c acc l = [acc ++ l]
  | [], acc, _ => by simp [cutA]
  | x :: r, acc, h => by
    have hx : x ≠ c := fun e => h (e ▸ List.mem_cons_self)
    unfold cutA
    rw [if_neg hx, cutA_no _ (fun h2 => h (List.mem_cons_of_mem _ h2)), List.append_assoc]; rfl
theorem cutA_at {c : UInt8} : ∀ {a : List UInt8} (acc r : List UInt8), c ∉ a → cutA c acc (a ++ c :: r) = (acc ++ a) :: cutA c [] r
  | [], acc, r, _ => by simp [cutA]
  | x :: a, acc, r, h => by
    have hx : x ≠ c := fun e => h (e ▸ List.mem_cons_self)
    rw [List.cons_append, cutA, if_neg hx, cutA_at _ r (fun h2 => h (List.mem_cons_of_mem _ h2)), List.append_assoc]; rfl
theorem cutL_flat (c : UInt8) : ∀ (ls : List (List UInt8)), (∀ a ∈ ls, c ∉ a) → cutL c (ls.flatMap (fun a => a ++ [c])) = ls ++ [[]]
  | [], _ => rfl
  | a :: ls, h => by
    unfold cutL
    rw [List.flatMap_cons, List.append_assoc, List.singleton_append, cutA_at _ _ (h a List.mem_cons_self), List.nil_append]
    have := cutL_flat c ls (fun b hb => h b (List.mem_cons_of_mem _ hb))
    unfold cutL at this
    rw [this]; rfl
theorem split_at {c : UInt8} : ∀ {l : List UInt8}, c ∈ l → ∃ a r, l = a ++ c :: r ∧ c ∉ a
  | x :: l, h => by
    by_cases hx : x = c
    · exact ⟨[], l, by rw [hx]; rfl, by simp⟩
    · have : c ∈ l := by
        rcases List.mem_cons.1 h with h | h
        · exact absurd h.symm hx
        · exact h
      obtain ⟨a, r, e, hn⟩ := split_at this
      exact ⟨x :: a, r, by rw [e]; rfl, by
        intro h2
        rcases List.mem_cons.1 h2 with h2 | h2
        · exact hx h2.symm
        · exact hn h2⟩
theorem index_one {c : UInt8} : ∀ {a : List UInt8} (r : List UInt8), c ∉ a → Lib.index (a ++ c :: r) [c] = a.length
  | [], r, _ => by simp [Lib.index, List.isPrefixOf]
  | x :: a, r, h => by
    have hx : c ≠ x := fun e => h (e ▸ List.mem_cons_self)
    have ih := index_one (a := a) r (fun h2 => h (List.mem_cons_of_mem _ h2))
    rw [List.cons_append, Lib.index, ih]
    have h1 : ([c].isPrefixOf (x :: (a ++ c :: r))) = false := by simp [List.isPrefixOf, hx]
    have h2 : ((a.length : Int) == -1) = false := beq_eq_false_iff_ne.2 (by omega)
    rw [h1, h2]
    simp
theorem splitK_cut (c : UInt8) : ∀ (n : Nat) (l : List UInt8), l.length ≤ n → Lib.splitK [c] 0 (l.count c) l = cutL c l
  | n, l, hn => by
    by_cases h : c ∈ l
    · obtain ⟨a, r, rfl, ha⟩ := split_at h
      have hc : (a ++ c :: r).count c = r.count c + 1 := by
        rw [List.count_append, List.count_eq_zero_of_not_mem ha, List.count_cons_self]; omega
      have hlen : (a ++ c :: r).length = a.length + 1 + r.length := by simp; omega
      rw [hc, Lib.splitK, index_one r ha]
      have h2 : ((a.length : Int) == -1) = false := beq_eq_false_iff_ne.2 (by omega)
      rw [h2]
      obtain ⟨m, rfl⟩ : ∃ m, n = m + 1 := ⟨n - 1, by omega⟩
      have ih := splitK_cut c m r (by omega)
      simp only [Bool.false_eq_true, if_false, Int.toNat_natCast, Nat.add_zero, List.length_cons, List.length_nil, Nat.zero_add]
      rw [List.take_left, show (a ++ c :: r).drop (a.length + 1) = r by rw [List.drop_append]; simp, ih]
      unfold cutL
      rw [cutA_at _ _ ha]; rfl
    · rw [List.count_eq_zero_of_not_mem h]
      unfold cutL
      rw [cutA_no _ h]; rfl
/-- What strings.Split gives, of one byte. -/
def splitS (c : UInt8) (b : ByteArray) : List ByteArray := (cutL c b.data.toList).map bsB
theorem splitB_cut (c : UInt8) (b : ByteArray) : Lib.splitB ⟨#[c]⟩ 0 (Lib.countB b ⟨#[c]⟩) b = splitS c b := by
  have h1 := Lib.splitB_data ⟨#[c]⟩ 0 (Lib.countB b ⟨#[c]⟩) b
  have h2 : Lib.countB b ⟨#[c]⟩ = b.data.toList.count c := Lib.count_one c b.data.toList
  rw [h2] at h1 ⊢
  have h3 := splitK_cut c _ b.data.toList (Nat.le_refl _)
  rw [show (⟨#[c]⟩ : ByteArray).data.toList = [c] from rfl, h3] at h1
  unfold splitS
  rw [← h1, List.map_map]
  conv => lhs; rw [← List.map_id (Lib.splitB ⟨#[c]⟩ 0 (b.data.toList.count c) b)]
  exact List.map_congr_left fun x _ => (bsB_of x).symm
theorem splitS_ne (c : UInt8) (b : ByteArray) : splitS c b ≠ [] := fun h => cutA_ne c [] b.data.toList (List.map_eq_nil_iff.1 h)

theorem dec_small {n : Nat} (h : n < 10) : Lib.decDigits n = [UInt8.ofNat (48 + n)] := by rw [Lib.decDigits, dif_pos h]
theorem dec_big {n : Nat} (h : ¬ n < 10) : Lib.decDigits n = Lib.decDigits (n / 10) ++ [UInt8.ofNat (48 + n % 10)] := by rw [Lib.decDigits, dif_neg h]
theorem dig_nat {d : Nat} (h : d < 10) : (UInt8.ofNat (48 + d)).toNat = 48 + d := by
  rw [UInt8.toNat_ofNat']; omega
/-- Digits alone. -/
theorem dec_all : ∀ (n : Nat), ∀ c ∈ Lib.decDigits n, 48 ≤ c.toNat ∧ c.toNat ≤ 57 := by
  intro n
  induction n using Nat.strongRecOn with
  | ind n ih =>
    intro c hc
    by_cases h : n < 10
    · rw [dec_small h] at hc
      obtain rfl := List.mem_singleton.1 hc
      rw [dig_nat h]; omega
    · rw [dec_big h] at hc
      rcases List.mem_append.1 hc with hc | hc
      · exact ih (n / 10) (by omega) c hc
      · obtain rfl := List.mem_singleton.1 hc
        rw [dig_nat (Nat.mod_lt _ (by omega))]; omega
theorem dec_ne (n : Nat) : Lib.decDigits n ≠ [] := by
  by_cases h : n < 10
  · rw [dec_small h]; simp
  · rw [dec_big h]; simp
theorem dec_no {n : Nat} {c : UInt8} (h : c.toNat < 48 ∨ 57 < c.toNat) : c ∉ Lib.decDigits n := fun hc => by
  have := dec_all n c hc; omega
/-- No zero in front. -/
theorem dec_head : ∀ (n : Nat), 1 ≤ n → ∃ c r, Lib.decDigits n = c :: r ∧ c.toNat ≠ 48 := by
  intro n
  induction n using Nat.strongRecOn with
  | ind n ih =>
    intro h1
    by_cases h : n < 10
    · exact ⟨_, _, dec_small h, by rw [dig_nat h]; omega⟩
    · obtain ⟨c, r, e, hc⟩ := ih (n / 10) (by omega) (by omega)
      exact ⟨c, r ++ [UInt8.ofNat (48 + n % 10)], by rw [dec_big h, e]; rfl, hc⟩
theorem dec_len10 : ∀ (k n : Nat), n < 10 ^ (k + 1) → (Lib.decDigits n).length ≤ k + 1
  | 0, n, h => by rw [dec_small (by omega)]; simp
  | k + 1, n, h => by
    by_cases h2 : n < 10
    · rw [dec_small h2]; simp
    · have := dec_len10 k (n / 10) (by rw [Nat.pow_succ] at h; omega)
      rw [dec_big h2]; simp; omega
theorem parseM_dec (M : Nat) (hM : M < 4294967296) : ∀ (n : Nat), n ≤ M → ∀ r, Lib.parseUintM M 0 (Lib.decDigits n ++ r) = Lib.parseUintM M n r := by
  intro n
  induction n using Nat.strongRecOn with
  | ind n ih =>
    intro hn r
    have step : ∀ (a d : Nat), d < 10 → a * 10 + d ≤ M → Lib.parseUintM M a (UInt8.ofNat (48 + d) :: r) = Lib.parseUintM M (a * 10 + d) r := fun a d hd ha => by
      rw [Lib.parseUintM, dig_nat hd, if_pos (by omega), if_neg (by omega), if_neg (by omega)]
      congr 1; omega
    by_cases h : n < 10
    · rw [dec_small h, List.singleton_append, step 0 n h (by omega)]
      congr 1; omega
    · rw [dec_big h, List.append_assoc, ih (n / 10) (by omega) (by omega), List.singleton_append, step (n / 10) (n % 10) (by omega) (by omega)]
      congr 1; omega
/-- The number that the program reads; what is none is 0. -/
def numW (l : List UInt8) : Nat := match Lib.parseUintB 32 l with
  | .ok u => u
  | _ => 0
theorem numW_dec {n : Nat} (h : n < 4294967296) : numW (Lib.decDigits n) = n := by
  have := parseM_dec 4294967295 (by omega) n (by omega) []
  rw [List.append_nil] at this
  unfold numW Lib.parseUintB
  rw [if_neg (dec_ne n), show (2 : Nat) ^ 32 - 1 = 4294967295 by decide, this]
  rfl
theorem parseM_le (M : Nat) : ∀ (l : List UInt8) (acc u : Nat), acc ≤ M → Lib.parseUintM M acc l = .ok u → u ≤ M
  | [], acc, u, h, e => by
    rw [Lib.parseUintM] at e; cases e; exact h
  | c :: r, acc, u, h, e => by
    rw [Lib.parseUintM] at e
    split at e
    · split at e
      · cases e
      · split at e
        · cases e
        · exact parseM_le M r _ u (by omega) e
    · cases e
theorem numW_lt (l : List UInt8) : numW l < 4294967296 := by
  unfold numW Lib.parseUintB
  rw [show (2 : Nat) ^ 32 - 1 = 4294967295 by decide]
  split
  · rename_i u h
    split at h
    · cases h
    · have := parseM_le _ _ _ _ (by omega) h; omega
  · omega

/-- The reference's digits. -/
def valD : Nat → List UInt8 → Option Nat
  | acc, [] => some acc
  | acc, c :: r => if c.toNat < 48 ∨ 57 < c.toNat then none else valD (10 * acc + (c.toNat - 48)) r
theorem valD_dec : ∀ (n : Nat) (r : List UInt8), valD 0 (Lib.decDigits n ++ r) = valD n r := by
  intro n
  induction n using Nat.strongRecOn with
  | ind n ih =>
    intro r
    have step : ∀ (a d : Nat), d < 10 → valD a (UInt8.ofNat (48 + d) :: r) = valD (10 * a + d) r := fun a d hd => by
      rw [valD, dig_nat hd, if_neg (by omega)]
      congr 1; omega
    by_cases h : n < 10
    · rw [dec_small h, List.singleton_append, step 0 n h]
      congr 1; omega
    · rw [dec_big h, List.append_assoc, ih (n / 10) (by omega), List.singleton_append, step _ _ (by omega)]
      congr 1; omega
/-- The reference's number. -/
def numR (l : List UInt8) (m : Nat) : Option Nat :=
  if l.length < 1 ∨ 19 < l.length ∨ (1 < l.length ∧ l.head? = some 48) then none else (valD 0 l).bind fun n => if n ≤ m then some n else none
theorem numR_dec {n m : Nat} (h1 : 1 ≤ n) (h : n ≤ m) (h4 : n < 4294967296) : numR (Lib.decDigits n) m = some n := by
  have h2 := valD_dec n []
  rw [List.append_nil] at h2
  obtain ⟨c, r, e, hc⟩ := dec_head n h1
  have hl := dec_len10 9 n (by omega)
  unfold numR
  rw [if_neg, h2, valD, Option.bind_some, if_pos h]
  rintro (h3 | h3 | ⟨_, h3⟩)
  · rw [e] at h3; simp at h3
  · omega
  · rw [e, List.head?_cons, Option.some.injEq] at h3
    rw [h3] at hc
    exact hc (by decide)
theorem numR_le {l : List UInt8} {m n : Nat} (h : numR l m = some n) : n ≤ m := by
  unfold numR at h
  split at h
  · cases h
  · cases hv : valD 0 l with
    | none => rw [hv] at h; cases h
    | some v =>
      rw [hv, Option.bind_some] at h
      split at h
      · cases h; assumption
      · cases h

end Go.Proofs.YthdldmkeoglflaaDoor

/- Rows of words: plain laws, and how they lie in memory. -/
namespace Go.Proofs.YthdldmkeoglflaaDoor
open Go.RowKit

/-- The words of the lines of a text. -/
def rowsL (l : List UInt8) : List (List ByteArray) := ((cutL 10 l).dropLast).map fun x => splitS 32 (bsB x)
/-- The rows that are still to be read, in the line that begins at f, at k. -/
def remL (l : List UInt8) (f k : Nat) : List (List ByteArray) := ((cutA 10 ((l.drop f).take (k - f)) (l.drop k)).dropLast).map fun x => splitS 32 (bsB x)
theorem remL_start (l : List UInt8) : remL l 0 0 = rowsL l := by unfold remL rowsL cutL; simp
theorem remL_end {l : List UInt8} {f k : Nat} (h : k = l.length) : remL l f k = [] := by
  unfold remL; rw [h, List.drop_length]; simp [cutA]
theorem take_one {l : List UInt8} {f k : Nat} (hf : f ≤ k) (hk : k < l.length) : (l.drop f).take (k + 1 - f) = (l.drop f).take (k - f) ++ [l[k]] := by
  have h1 : k - f < (l.drop f).length := by rw [List.length_drop]; omega
  rw [show k + 1 - f = (k - f) + 1 by omega, List.take_succ_eq_append_getElem h1, List.getElem_drop]
  congr 2
  simp only [show f + (k - f) = k by omega]
theorem remL_on {l : List UInt8} {f k : Nat} (hf : f ≤ k) (hk : k < l.length) (h : l[k] ≠ 10) : remL l f k = remL l f (k + 1) := by
  unfold remL
  rw [List.drop_eq_getElem_cons hk, cutA, if_neg h, take_one hf hk]
theorem remL_cut {l : List UInt8} {f k : Nat} (hk : k < l.length) (h : l[k] = 10) : remL l f k = splitS 32 (bsB ((l.drop f).take (k - f))) :: remL l (k + 1) (k + 1) := by
  unfold remL
  rw [List.drop_eq_getElem_cons hk, cutA, if_pos h]
  have hne := cutA_ne 10 [] (l.drop (k + 1))
  rw [List.dropLast_cons_of_ne_nil hne, List.map_cons, Nat.sub_self, List.take_zero]
theorem cutA_len (c : UInt8) : ∀ (acc l : List UInt8), (cutA c acc l).length ≤ l.length + 1
  | acc, [] => by simp [cutA]
  | acc, x :: r => by
    unfold cutA
    split
    · have := cutA_len c [] r; simp; omega
    · have := cutA_len c (acc ++ [x]) r; simp; omega
theorem rowsL_len (l : List UInt8) : (rowsL l).length ≤ l.length := by
  unfold rowsL cutL; rw [List.length_map, List.length_dropLast]
  have := cutA_len 10 [] l; omega
theorem splitS_len (c : UInt8) (b : ByteArray) : 1 ≤ (splitS c b).length ∧ (splitS c b).length ≤ b.size + 1 := by
  constructor
  · have := splitS_ne c b
    cases h : splitS c b with
    | nil => exact absurd h this
    | cons x r => simp
  · unfold splitS cutL; rw [List.length_map]
    have := cutA_len c [] b.data.toList
    have h2 : b.data.toList.length = b.size := Array.length_toList
    omega
/-- A piece is no longer than the string. -/
theorem cutA_mem (c : UInt8) : ∀ (acc l : List UInt8), ∀ x ∈ cutA c acc l, x.length ≤ acc.length + l.length
  | acc, [], x, h => by
    simp [cutA] at h; rw [h]; simp
  | acc, y :: r, x, h => by
    unfold cutA at h
    split at h
    · rcases List.mem_cons.1 h with rfl | h
      · simp
      · have := cutA_mem c [] r x h; simp at this ⊢; omega
    · have := cutA_mem c (acc ++ [y]) r x h; simp at this ⊢; omega

/-- Rows of strings: each row lies in a block of its own, from a block on. -/
structure RowsB (w : World) (base : Nat) (vs : List Value) (rows : List (List ByteArray)) : Prop where
  len : vs.length = rows.length
  at' : ∀ (i : Nat) (r : List ByteArray), rows[i]? = some r → ∃ b : Nat, vs[i]? = some (Value.slice (some ⟨b, 0, none⟩) r.length r.length) ∧ Blk w b 9 (r.map Value.string) ∧ base ≤ b
theorem RowsB.nil (w : World) (base : Nat) : RowsB w base [] [] := ⟨rfl, fun i r h => by simp at h⟩
theorem RowsB.later {w w' : World} {base : Nat} {vs : List Value} {rows : List (List ByteArray)} (h : RowsB w base vs rows) (hb : Below w.heap.size w w') : RowsB w' base vs rows :=
  ⟨h.len, fun i r hi => by obtain ⟨b, h1, h2, h3⟩ := h.at' i r hi; exact ⟨b, h1, h2.later hb, h3⟩⟩
theorem RowsB.drew {w : World} {base : Nat} {vs : List Value} {rows : List (List ByteArray)} (h : RowsB w base vs rows) : RowsB w.drew base vs rows := h.later ((Below.refl _ _).drew)
theorem RowsB.alloc {w : World} {base : Nat} {vs : List Value} {rows : List (List ByteArray)} (h : RowsB w base vs rows) (o : Obj) : RowsB (w.alloc o) base vs rows := h.later ((Below.refl _ _).alloc (Nat.le_refl _) _)
theorem RowsB.set {w : World} {base : Nat} {vs : List Value} {rows : List (List ByteArray)} (h : RowsB w base vs rows) {p : Addr} (hp : p.block < base) (u : Value) : RowsB (w.setCell p u) base vs rows :=
  ⟨h.len, fun i r hi => by obtain ⟨b, h1, h2, h3⟩ := h.at' i r hi; exact ⟨b, h1, h2.setFar (by omega) u, h3⟩⟩
theorem RowsB.mono {w : World} {base base' : Nat} {vs : List Value} {rows : List (List ByteArray)} (h : RowsB w base vs rows) (hb : base' ≤ base) : RowsB w base' vs rows :=
  ⟨h.len, fun i r hi => by obtain ⟨b, h1, h2, h3⟩ := h.at' i r hi; exact ⟨b, h1, h2, by omega⟩⟩
theorem RowsB.push {w : World} {base : Nat} {vs : List Value} {rows : List (List ByteArray)} (h : RowsB w base vs rows) {b : Nat} {r : List ByteArray} (hb : Blk w b 9 (r.map Value.string)) (hB : base ≤ b) : RowsB w base (vs ++ [Value.slice (some ⟨b, 0, none⟩) r.length r.length]) (rows ++ [r]) := by
  refine ⟨by simp [h.len], fun i x hi => ?_⟩
  by_cases hlt : i < rows.length
  · rw [List.getElem?_append_left hlt] at hi
    obtain ⟨b', h1, h2, h3⟩ := h.at' i x hi
    exact ⟨b', by rw [List.getElem?_append_left (by rw [h.len]; exact hlt)]; exact h1, h2, h3⟩
  · have hi2 := (List.getElem?_eq_some_iff.1 hi).1
    simp at hi2
    obtain rfl : i = rows.length := by omega
    rw [List.getElem?_append_right (Nat.le_refl _), Nat.sub_self] at hi
    simp at hi
    subst hi
    exact ⟨b, by rw [← h.len, List.getElem?_append_right (Nat.le_refl _), Nat.sub_self]; rfl, hb, hB⟩
/-- An append on a row of another element type leaves the block. -/
theorem Blk.keptT {w w' : World} {B t e base size n : Nat} {cs xs : List Value} {v : Value} (h : Blk w B t cs) (ho : OwnX w base e size v n xs) (hg : w.grownBy w' v.ownBlock) (hne : t ≠ e) : Blk w' B t cs := by
  refine (hg.block B h.lt ?_).trans h
  intro hx
  rcases ho.2 with ⟨h0, _⟩ | ⟨g, cap, cur, h0, _, h4, _⟩
  · rw [h0] at hx; cases hx
  · rw [h0] at hx
    simp [Value.ownBlock] at hx
    subst hx
    have h5 : w.heap[B]? = some (Obj.cells cs.toArray t (0, 0)) := h
    rw [h5] at h4
    simp at h4
    exact hne h4.2
theorem RowsB.kept {w w' : World} {base0 : Nat} {vs : List Value} {rows : List (List ByteArray)} (h : RowsB w base0 vs rows) {base e size n : Nat} {xs : List Value} {v : Value} (ho : OwnX w base e size v n xs) (hg : w.grownBy w' v.ownBlock) (hne : 9 ≠ e) : RowsB w' base0 vs rows :=
  ⟨h.len, fun i r hi => by obtain ⟨b, h1, h2, h3⟩ := h.at' i r hi; exact ⟨b, h1, h2.keptT ho hg hne, h3⟩⟩
/-- .. and a row of another element type. -/
theorem OwnX.keptT {w w' : World} {base0 e0 size0 n0 : Nat} {xs0 : List Value} {v0 : Value} (h : OwnX w base0 e0 size0 v0 n0 xs0) {base e size n : Nat} {xs : List Value} {v : Value} (ho : OwnX w base e size v n xs) (hg : w.grownBy w' v.ownBlock) (hne : e0 ≠ e) : OwnX w' base0 e0 size0 v0 n0 xs0 := by
  refine h.kept hg ?_
  rcases ho.2 with ⟨h0, _⟩ | ⟨g, cap, cur, h0, _, h4, _⟩
  · rcases h.2 with ⟨k0, _⟩ | ⟨g', _, _, k0, _⟩
    · exact .inl (by rw [k0]; rfl)
    · exact .inr (by rw [k0, h0]; simp [Value.ownBlock])
  · rcases h.2 with ⟨k0, _⟩ | ⟨g', _, _, k0, _, k4, _⟩
    · exact .inl (by rw [k0]; rfl)
    · refine .inr ?_
      rw [k0, h0]
      intro hx
      simp [Value.ownBlock] at hx
      subst hx
      rw [h4] at k4
      simp at k4
      exact hne k4.2.symm
/-- Rows are not empty, and no words are longer than the text. -/
theorem rowsL_mem {l : List UInt8} {i : Nat} {r : List ByteArray} (h : (rowsL l)[i]? = some r) : 1 ≤ r.length ∧ r.length ≤ l.length + 1 ∧ ∀ x ∈ r, x.size ≤ l.length := by
  have hm : r ∈ rowsL l := List.mem_of_getElem? h
  unfold rowsL at hm
  obtain ⟨y, hy, rfl⟩ := List.mem_map.1 hm
  have h1 := splitS_len 32 (bsB y)
  have h2 := cutA_mem 10 [] l y (List.dropLast_subset _ hy)
  rw [bsB_size] at h1
  simp only [List.length_nil, Nat.zero_add] at h2
  refine ⟨h1.1, by omega, fun x hx => ?_⟩
  unfold splitS at hx
  obtain ⟨z, hz, rfl⟩ := List.mem_map.1 hx
  have h3 := cutA_mem 32 [] _ z hz
  rw [bsB_size]
  rw [bsB_list] at h3
  simp only [List.length_nil, Nat.zero_add] at h3
  omega

end Go.Proofs.YthdldmkeoglflaaDoor

/- What is read of a text: plain laws. -/
namespace Go.Proofs.YthdldmkeoglflaaDoor
open Go.RowKit

def lastB (r : List ByteArray) : ByteArray := r[r.length - 1]?.getD ⟨#[]⟩
def numB (x : ByteArray) : Int := numW x.data.toList
theorem numB_rng (x : ByteArray) : 0 ≤ numB x ∧ numB x < 4294967296 := by
  have := numW_lt x.data.toList
  unfold numB; omega
def limN (rows : List (List ByteArray)) (i : Nat) : Int := numB (lastB (rows[i]?.getD []))
theorem limN_out {rows : List (List ByteArray)} {i : Nat} (h : rows.length ≤ i) : limN rows i = 0 := by
  unfold limN; rw [List.getElem?_eq_none h]; rfl
theorem limN_at {rows : List (List ByteArray)} {i : Nat} {r : List ByteArray} (h : rows[i]? = some r) : limN rows i = numB (lastB r) := by
  unfold limN; rw [h]; rfl
/-- The state behind k rows: the limits, the secret, the peers. -/
def limsK (rows : List (List ByteArray)) (k : Nat) : List Int := (List.range 9).map fun i => if i < k then limN rows i else 0
def secK (rows : List (List ByteArray)) (k : Nat) : Int := if 9 < k then limN rows 9 else 0
def peerO (r : List ByteArray) : Option (ByteArray × Int) := if r.length = 3 then some (r[1]?.getD ⟨#[]⟩, numB (lastB r)) else none
def peersK (rows : List (List ByteArray)) (k : Nat) : Peers := ((rows.take k).drop 10).filterMap peerO
theorem limsK_0 (rows : List (List ByteArray)) : limsK rows 0 = [0, 0, 0, 0, 0, 0, 0, 0, 0] := rfl
theorem limsK_len (rows : List (List ByteArray)) (k : Nat) : (limsK rows k).length = 9 := by unfold limsK; simp
theorem limsK_at {rows : List (List ByteArray)} {k i : Nat} (h : i < 9) : (limsK rows k)[i]? = some (if i < k then limN rows i else 0) := by
  unfold limsK; rw [List.getElem?_map, List.getElem?_range h]; rfl
theorem limsK_set {rows : List (List ByteArray)} {k : Nat} (h : k < 9) : limsK rows (k + 1) = (limsK rows k).set k (limN rows k) := by
  apply List.ext_getElem?
  intro i
  by_cases hi : i < 9
  · rw [limsK_at hi, List.getElem?_set]
    by_cases he : k = i
    · subst he
      rw [if_pos rfl, if_pos (by omega), if_pos (by rw [limsK_len]; exact h)]
    · rw [if_neg he, limsK_at hi]
      by_cases h2 : i < k
      · rw [if_pos h2, if_pos (by omega)]
      · rw [if_neg h2, if_neg (by omega)]
  · rw [List.getElem?_eq_none (by rw [limsK_len]; omega), List.getElem?_eq_none (by rw [List.length_set, limsK_len]; omega)]
theorem limsK_keep {rows : List (List ByteArray)} {k : Nat} (h : 9 ≤ k) : limsK rows (k + 1) = limsK rows k := by
  unfold limsK
  refine List.map_congr_left fun i hi => ?_
  have := List.mem_range.1 hi
  rw [if_pos (by omega), if_pos (by omega)]
theorem secK_keep {rows : List (List ByteArray)} {k : Nat} (h : k ≠ 9) : secK rows (k + 1) = secK rows k := by
  unfold secK
  by_cases h2 : 9 < k
  · rw [if_pos h2, if_pos (by omega)]
  · rw [if_neg h2, if_neg (by omega)]
theorem secK_set (rows : List (List ByteArray)) : secK rows (9 + 1) = limN rows 9 := by unfold secK; rw [if_pos (by omega)]
theorem secK_0 (rows : List (List ByteArray)) : secK rows 0 = 0 := rfl
theorem peersK_0 (rows : List (List ByteArray)) : peersK rows 0 = [] := by simp [peersK]
theorem peersK_low {rows : List (List ByteArray)} {k : Nat} (h : k < 10) : peersK rows (k + 1) = peersK rows k := by
  unfold peersK
  rw [List.drop_eq_nil_of_le (by rw [List.length_take]; omega), List.drop_eq_nil_of_le (by rw [List.length_take]; omega)]
theorem peersK_on {rows : List (List ByteArray)} {k : Nat} {r : List ByteArray} (h : 10 ≤ k) (hr : rows[k]? = some r) : peersK rows (k + 1) = peersK rows k ++ (peerO r).toList := by
  have hk : k < rows.length := (List.getElem?_eq_some_iff.1 hr).1
  unfold peersK
  have e : rows[k] = r := (List.getElem?_eq_some_iff.1 hr).2
  rw [List.take_succ_eq_append_getElem hk, e, List.drop_append_of_le_length (by rw [List.length_take]; omega), List.filterMap_append]
  cases h2 : peerO r <;> simp [h2]
theorem peersK_len (rows : List (List ByteArray)) (k : Nat) : (peersK rows k).length ≤ rows.length := by
  unfold peersK
  have := List.length_filterMap_le peerO ((rows.take k).drop 10)
  rw [List.length_drop, List.length_take] at this
  omega
def readL (rows : List (List ByteArray)) : Lim := ⟨limN rows 0, limN rows 1, limN rows 2, limN rows 3, limN rows 4, limN rows 5, limN rows 6, limN rows 7, limN rows 8⟩
theorem lim_or {rows : List (List ByteArray)} (i : Nat) : (if i < rows.length then limN rows i else 0) = limN rows i := by
  split
  · rfl
  · exact (limN_out (by omega)).symm
theorem limsK_end (rows : List (List ByteArray)) : limsK rows rows.length = (readL rows).l := by
  have : limsK rows rows.length = (List.range 9).map (limN rows) := List.map_congr_left fun i _ => lim_or i
  rw [this]; rfl
theorem secK_end (rows : List (List ByteArray)) : secK rows rows.length = limN rows 9 := lim_or 9
def peersN (rows : List (List ByteArray)) : Peers := (rows.drop 10).filterMap peerO
theorem peersK_end (rows : List (List ByteArray)) : peersK rows rows.length = peersN rows := by unfold peersK peersN; rw [List.take_length]
theorem peersN_keys (rows : List (List ByteArray)) : Keys (peersN rows) := fun i hi => by
  have h1 := ps_mem hi
  unfold peersN at h1
  obtain ⟨r, _, hr⟩ := List.mem_filterMap.1 h1
  unfold peerO at hr
  split at hr
  · have h2 := Option.some.inj hr
    have h3 : numB (lastB r) = pu (peersN rows) i := congrArg Prod.snd h2
    rw [← h3]; exact numB_rng _
  · cases hr
/-- What Parse returns. -/
def pzR (b : ByteArray) : SOut :=
  if 1000 < b.size then zOut 4 else
  if chkS (readL (rowsL b.data.toList)) (limN (rowsL b.data.toList) 9) (peersN (rowsL b.data.toList)) = 0 ∧ textL (readL (rowsL b.data.toList)) (limN (rowsL b.data.toList) 9) (peersN (rowsL b.data.toList)) = b.data.toList
  then ⟨readL (rowsL b.data.toList), limN (rowsL b.data.toList) 9, peersN (rowsL b.data.toList), 0⟩ else zOut 12

/-! Reading what was written. -/
def decB (x : Int) : ByteArray := bsB (Lib.decDigits x.toNat)
theorem numB_dec {x : Int} (h0 : 0 ≤ x) (h : x < 4294967296) : numB (decB x) = x := by
  unfold numB decB; rw [bsB_list, numW_dec (by omega)]; omega
def wordK (k : Nat) : List UInt8 := (wordsB[k]?.getD ⟨#[]⟩).data.toList
theorem word_no : ∀ k, k < 9 → (10 : UInt8) ∉ wordK k ∧ (32 : UInt8) ∉ wordK k := by decide
def lineT (L : Lim) (s : Int) (ps : Peers) : List (List UInt8) :=
  ((List.range 9).map fun k => wordK k ++ 32 :: Lib.decDigits (L.l[k]?.getD 0).toNat) ++ ([115, 101, 99, 114, 101, 116] ++ 32 :: Lib.decDigits s.toNat) :: ps.map fun p => [112, 101, 101, 114] ++ 32 :: (p.1.data.toList ++ 32 :: Lib.decDigits p.2.toNat)
theorem flatMap_congr' {α β : Type} {f g : α → List β} : ∀ {l : List α}, (∀ x ∈ l, f x = g x) → l.flatMap f = l.flatMap g
  | [], _ => rfl
  | x :: l, h => by
    rw [List.flatMap_cons, List.flatMap_cons, h x List.mem_cons_self, flatMap_congr' fun y hy => h y (List.mem_cons_of_mem _ hy)]
theorem text_lines (L : Lim) (s : Int) (ps : Peers) : textL L s ps = (lineT L s ps).flatMap fun a => a ++ [10] := by
  unfold textL linesL lineT
  rw [List.flatMap_append, List.flatMap_cons, List.flatMap_map, List.flatMap_map, List.append_assoc]
  have e1 : (List.range 9).flatMap (lineW L) = (List.range 9).flatMap fun k => (wordK k ++ 32 :: Lib.decDigits (L.l[k]?.getD 0).toNat) ++ [10] := flatMap_congr' fun k _ => by unfold lineW wordK; simp
  have e2 : ps.flatMap peerL = ps.flatMap fun p => ([112, 101, 101, 114] ++ 32 :: (p.1.data.toList ++ 32 :: Lib.decDigits p.2.toNat)) ++ [10] := flatMap_congr' fun p _ => by unfold peerL; simp
  have e3 : secL s = ([115, 101, 99, 114, 101, 116] ++ 32 :: Lib.decDigits s.toNat) ++ [10] := by unfold secL; simp
  rw [e1, e2, e3]
theorem okN_no {n : ByteArray} (h : okN n = true) : (10 : UInt8) ∉ n.data.toList ∧ (32 : UInt8) ∉ n.data.toList := by
  unfold okN at h
  simp only [Bool.and_eq_true, decide_eq_true_eq] at h
  have h3 := List.all_eq_true.1 h.2.2
  exact ⟨fun hx => absurd (h3 _ hx) (by decide), fun hx => absurd (h3 _ hx) (by decide)⟩
theorem CV.okAt {L : Lim} {s : Int} {ps : Peers} (h : CV L s ps) : ∀ p ∈ ps, okN p.1 = true ∧ isB p.2 = true := fun p hp => by
  have h2 : vP p = true := by
    cases h3 : vP p
    · have : (ps.any fun p => !vP p) = true := List.any_eq_true.2 ⟨p, hp, by rw [h3]; rfl⟩
      rw [h.ok] at this; cases this
    · rfl
  unfold vP at h2
  rwa [Bool.and_eq_true] at h2
theorem dec_no10 (n : Nat) : (10 : UInt8) ∉ Lib.decDigits n := dec_no (by decide)
theorem dec_no32 (n : Nat) : (32 : UInt8) ∉ Lib.decDigits n := dec_no (by decide)
theorem lineT_no {L : Lim} {s : Int} {ps : Peers} (h : CV L s ps) : ∀ a ∈ lineT L s ps, (10 : UInt8) ∉ a := fun a ha => by
  unfold lineT at ha
  rcases List.mem_append.1 ha with ha | ha
  · obtain ⟨k, hk, rfl⟩ := List.mem_map.1 ha
    have := (word_no k (List.mem_range.1 hk)).1
    simp only [List.mem_append, List.mem_cons, not_or]
    exact ⟨this, by decide, dec_no10 _⟩
  · rcases List.mem_cons.1 ha with rfl | ha
    · simp only [List.mem_append, List.mem_cons, not_or, List.not_mem_nil]
      exact ⟨⟨by decide, by decide, by decide, by decide, by decide, by decide, not_false⟩, by decide, dec_no10 _⟩
    · obtain ⟨p, hp, rfl⟩ := List.mem_map.1 ha
      have := (okN_no (h.okAt p hp).1).1
      simp only [List.mem_append, List.mem_cons, not_or, List.not_mem_nil]
      exact ⟨⟨by decide, by decide, by decide, by decide, not_false⟩, by decide, this, by decide, dec_no10 _⟩
theorem cut_text {L : Lim} {s : Int} {ps : Peers} (h : CV L s ps) : cutL 10 (textL L s ps) = lineT L s ps ++ [[]] := by
  rw [text_lines, cutL_flat 10 _ (lineT_no h)]
theorem cut_two {c : UInt8} {a b : List UInt8} (ha : c ∉ a) (hb : c ∉ b) : cutL c (a ++ c :: b) = [a, b] := by
  unfold cutL; rw [cutA_at _ _ ha, cutA_no _ hb]; rfl
theorem cut_three {c : UInt8} {a b d : List UInt8} (ha : c ∉ a) (hb : c ∉ b) (hd : c ∉ d) : cutL c (a ++ c :: (b ++ c :: d)) = [a, b, d] := by
  unfold cutL; rw [cutA_at _ _ ha, cutA_at _ _ hb, cutA_no _ hd]; rfl
theorem rows_text {L : Lim} {s : Int} {ps : Peers} (h : CV L s ps) : rowsL (textL L s ps) =
    ((List.range 9).map fun k => [bsB (wordK k), decB (L.l[k]?.getD 0)]) ++ [bsB [115, 101, 99, 114, 101, 116], decB s] :: ps.map fun p => [bsB [112, 101, 101, 114], p.1, decB p.2] := by
  unfold rowsL
  rw [cut_text h, List.dropLast_concat]
  unfold lineT
  rw [List.map_append, List.map_cons, List.map_map, List.map_map]
  congr 1
  · refine List.map_congr_left fun k hk => ?_
    simp only [Function.comp]
    unfold splitS
    rw [bsB_list, cut_two (word_no k (List.mem_range.1 hk)).2 (dec_no32 _)]; rfl
  · congr 1
    · unfold splitS
      rw [bsB_list, cut_two (by decide) (dec_no32 _)]; rfl
    · refine List.map_congr_left fun p hp => ?_
      simp only [Function.comp]
      unfold splitS
      rw [bsB_list, cut_three (by decide) (okN_no (h.okAt p hp).1).2 (dec_no32 _)]
      simp only [List.map_cons, List.map_nil, bsB_of]; rfl
theorem limN_text {L : Lim} {s : Int} {ps : Peers} (h : CV L s ps) {k : Nat} (hk : k < 9) : limN (rowsL (textL L s ps)) k = L.l[k]?.getD 0 := by
  have h1 := fit_rng h.fit hk
  rw [rows_text h]
  rw [limN_at (r := [bsB (wordK k), decB (L.l[k]?.getD 0)])]
  · exact numB_dec (by omega) (by omega)
  · rw [List.getElem?_append_left (by simpa using hk), List.getElem?_map, List.getElem?_range hk]; rfl
theorem sec_text {L : Lim} {s : Int} {ps : Peers} (h : CV L s ps) : limN (rowsL (textL L s ps)) 9 = s := by
  have h1 := h.s1
  have h5 := h.s5
  rw [rows_text h, limN_at (r := [bsB [115, 101, 99, 114, 101, 116], decB s])]
  · exact numB_dec (by omega) (by omega)
  · rw [List.getElem?_append_right (by simp)]; simp
theorem peers_text {L : Lim} {s : Int} {ps : Peers} (h : CV L s ps) (hk : Keys ps) : peersN (rowsL (textL L s ps)) = ps := by
  unfold peersN
  rw [rows_text h, List.drop_append, List.drop_eq_nil_of_le (by simp), List.nil_append]
  have e : 10 - ((List.range 9).map fun k => [bsB (wordK k), decB (L.l[k]?.getD 0)]).length = 1 := by simp
  rw [e, List.drop_succ_cons, List.drop_zero, List.filterMap_map]
  have key : ∀ (qs : Peers), (∀ p ∈ qs, 0 ≤ p.2 ∧ p.2 < 4294967296) → qs.filterMap (peerO ∘ fun p => [bsB [112, 101, 101, 114], p.1, decB p.2]) = qs := by
    intro qs
    induction qs with
    | nil => intro _; rfl
    | cons p qs ih =>
      intro hq
      obtain ⟨h0, h4⟩ := hq p List.mem_cons_self
      rw [List.filterMap_cons, ih fun x hx => hq x (List.mem_cons_of_mem _ hx)]
      have : (peerO ∘ fun p : ByteArray × Int => [bsB [112, 101, 101, 114], p.1, decB p.2]) p = some p := by
        show some (p.1, numB (decB p.2)) = some p
        rw [numB_dec h0 h4]
      rw [this]
  refine key ps fun p hp => ?_
  obtain ⟨j, hj, rfl⟩ := List.getElem_of_mem hp
  rw [ps_at hj]; exact hk j hj
theorem read_text {L : Lim} {s : Int} {ps : Peers} (h : CV L s ps) : readL (rowsL (textL L s ps)) = L := by
  unfold readL
  rw [limN_text h (by omega : 0 < 9), limN_text h (by omega : 1 < 9), limN_text h (by omega : 2 < 9), limN_text h (by omega : 3 < 9), limN_text h (by omega : 4 < 9), limN_text h (by omega : 5 < 9), limN_text h (by omega : 6 < 9), limN_text h (by omega : 7 < 9), limN_text h (by omega : 8 < 9)]
  rfl
theorem flatT_len (f : Nat → List UInt8) (m : Nat) : ∀ (l : List Nat), (∀ x ∈ l, (f x).length ≤ m) → (l.flatMap f).length ≤ m * l.length
  | [], _ => by simp
  | x :: l, h => by
    have := flatT_len f m l fun y hy => h y (List.mem_cons_of_mem _ hy)
    have h1 := h x List.mem_cons_self
    rw [List.flatMap_cons, List.length_append, List.length_cons, Nat.mul_add]; omega
theorem dec_len10' {x : Int} (h0 : 0 ≤ x) (h : x < 4294967296) : (Lib.decDigits x.toNat).length ≤ 10 := dec_len10 9 _ (by omega)
/-- No text has more than 1000 bytes. -/
theorem text_short {L : Lim} {s : Int} {ps : Peers} (h : CV L s ps) (hk : Keys ps) : (textL L s ps).length ≤ 1000 := by
  unfold textL linesL
  have h1 : ((List.range 9).flatMap (lineW L)).length ≤ 20 * 9 := by
    have := flatT_len (lineW L) 20 (List.range 9) fun k hk => by
      have hk := List.mem_range.1 hk
      have h1 := fit_rng h.fit hk
      have h2 := dec_len10' (x := L.l[k]?.getD 0) (by omega) (by omega)
      have h3 := words_len k
      have h4 : (wordsB[k]?.getD ⟨#[]⟩).data.toList.length = (wordsB[k]?.getD ⟨#[]⟩).size := Array.length_toList
      unfold lineW
      simp only [List.length_append, List.length_cons, List.length_nil]
      omega
    simpa using this
  have h2 : (secL s).length ≤ 20 := by
    have := dec_len10' (x := s) (by have := h.s1; omega) (by have := h.s5; omega)
    unfold secL
    simp only [List.length_append, List.length_cons, List.length_nil]
    omega
  have h3 : (ps.flatMap peerL).length ≤ 40 * ps.length := by
    have key : ∀ qs : Peers, (∀ p ∈ qs, (peerL p).length ≤ 40) → (qs.flatMap peerL).length ≤ 40 * qs.length := by
      intro qs
      induction qs with
      | nil => intro _; simp
      | cons p qs ih =>
        intro hq
        have h1 := hq p List.mem_cons_self
        have h2 := ih fun x hx => hq x (List.mem_cons_of_mem _ hx)
        rw [List.flatMap_cons, List.length_append, List.length_cons, Nat.mul_add]; omega
    refine key ps fun p hp => ?_
    have h1 := okN_le (h.okAt p hp).1
    obtain ⟨j, hj, rfl⟩ := List.getElem_of_mem hp
    rw [ps_at hj] at h1 ⊢
    obtain ⟨k0, k4⟩ := hk j hj
    have h2 := dec_len10' k0 k4
    rw [peerL_len]
    simp only at h1
    omega
  have h4 := h.len
  rw [List.length_append, List.length_append]
  omega
/-- Parse of a text is the setup. -/
theorem pz_text {L : Lim} {s : Int} {ps : Peers} (h : CV L s ps) (hk : Keys ps) : pzR (bsB (textL L s ps)) = ⟨L, s, ps, 0⟩ := by
  unfold pzR
  rw [bsB_list, read_text h, sec_text h, peers_text h hk, if_neg (by rw [bsB_size]; have := text_short h hk; omega), if_pos ⟨h.err, rfl⟩]
/-- What Parse returns without an error has the string as its text. -/
theorem pz_ok {b : ByteArray} (h : (pzR b).err = 0) : CV (pzR b).lim (pzR b).sec (pzR b).ps ∧ textL (pzR b).lim (pzR b).sec (pzR b).ps = b.data.toList ∧ Keys (pzR b).ps := by
  unfold pzR at h ⊢
  split at h
  · cases h
  · rename_i h1
    rw [if_neg h1]
    split at h
    · rename_i h2
      rw [if_pos h2]
      exact ⟨CV.of h2.1, h2.2, peersN_keys _⟩
    · cases h
theorem pz_err (b : ByteArray) : (pzR b).err = 0 ∨ (pzR b = zOut 12 ∧ b.size ≤ 1000) ∨ (pzR b = zOut 4 ∧ 1000 < b.size) := by
  unfold pzR
  split
  · exact .inr (.inr ⟨rfl, by assumption⟩)
  · split
    · exact .inl rfl
    · exact .inr (.inl ⟨rfl, by omega⟩)
/-- A string that is a setup's text is read as that setup. -/
theorem pz_of {b : ByteArray} {L : Lim} {s : Int} {ps : Peers} (h : CV L s ps) (hk : Keys ps) (ht : textL L s ps = b.data.toList) : pzR b = ⟨L, s, ps, 0⟩ := by
  have := pz_text h hk
  rwa [ht, bsB_of] at this

end Go.Proofs.YthdldmkeoglflaaDoor
