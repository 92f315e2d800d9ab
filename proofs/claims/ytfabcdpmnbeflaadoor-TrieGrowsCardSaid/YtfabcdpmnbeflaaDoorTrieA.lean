/- TrieA: TriePlain, TrieMem, TrieBit, TrieApart, TrieCut, TrieBuild, TrieRCut. -/
import Derived.Test.YtfabcdpmnbeflaaDoorDigPieces
import Derived.Test.YtfabcdpmnbeflaaDoorRegMore
import Derived.Lib.Tables
import Derived.Lib.BitFns
/- Ids as bits; increasing ids; where they part; the digest tree over them: plain laws. -/
namespace Go.Proofs.YtfabcdpmnbeflaaDoor
open Go.RowKit
set_option linter.unusedVariables false
set_option linter.unusedSimpArgs false

/-- A bit of an id. -/
def bitB (x : List Int) (i : Nat) : Bool := ((x[i / 8]?.getD 0).toNat).testBit (7 - i % 8)
/-- Two ids part at bit n, the first below the second. -/
def DiffAt (a b : List Int) (n : Nat) : Prop := n < 256 ∧ (∀ j, j < n → bitB a j = bitB b j) ∧ bitB a n = false ∧ bitB b n = true
def ltB (a b : List Int) : Prop := ∃ n, DiffAt a b n
theorem ltB_irrefl (a : List Int) : ¬ ltB a a := fun ⟨n, _, _, h1, h2⟩ => by rw [h1] at h2; cases h2
theorem ltB_trans {a b c : List Int} (h1 : ltB a b) (h2 : ltB b c) : ltB a c := by
  obtain ⟨n, n1, n2, n3, n4⟩ := h1
  obtain ⟨m, m1, m2, m3, m4⟩ := h2
  rcases Nat.lt_trichotomy n m with h | h | h
  · exact ⟨n, n1, fun j hj => (n2 j hj).trans (m2 j (by omega)), n3, by rw [← m2 n h]; exact n4⟩
  · subst h; rw [n4] at m3; cases m3
  · exact ⟨m, m1, fun j hj => (n2 j (by omega)).trans (m2 j hj), by rw [n2 m h]; exact m3, m4⟩
theorem ltB_asymm {a b : List Int} (h1 : ltB a b) (h2 : ltB b a) : False := ltB_irrefl a (ltB_trans h1 h2)
/-- What lies between two ids has their first bits. -/
theorem sandwich {lo x hi : List Int} {n : Nat} (h : DiffAt lo hi n) (h1 : x = lo ∨ ltB lo x) (h2 : x = hi ∨ ltB x hi) : ∀ j, j < n → bitB x j = bitB lo j := by
  intro j hj
  obtain ⟨n1, n2, n3, n4⟩ := h
  rcases h1 with rfl | ⟨k, k1, k2, k3, k4⟩
  · rfl
  · by_cases hk : n ≤ k
    · exact (k2 j (by omega)).symm
    · exfalso
      rcases h2 with rfl | ⟨m, m1, m2, m3, m4⟩
      · have := n2 k (by omega); rw [k3, k4] at this; cases this
      · rcases Nat.lt_trichotomy m k with h | h | h
        · have e1 := k2 m h; have e2 := n2 m (by omega); rw [m3] at e1; rw [m4, e1] at e2; cases e2
        · subst h; rw [k4] at m3; cases m3
        · have e1 := m2 k h; have e2 := n2 k (by omega); rw [k4] at e1; rw [k3, ← e1] at e2; cases e2

/-- The greatest bit in which two numbers differ. -/
theorem top_bit {c d : Nat} : ∀ (m : Nat), (∀ j, m ≤ j → c.testBit j = d.testBit j) → c ≠ d → ∃ k, k < m ∧ c.testBit k ≠ d.testBit k ∧ ∀ j, k < j → c.testBit j = d.testBit j
  | 0, h, hne => absurd (Nat.eq_of_testBit_eq fun j => h j (Nat.zero_le _)) hne
  | m + 1, h, hne => by
    by_cases hm : c.testBit m = d.testBit m
    · obtain ⟨k, k1, k2, k3⟩ := top_bit m (fun j hj => by
        rcases Nat.eq_or_lt_of_le hj with e | e
        · subst e; exact hm
        · exact h j e) hne
      exact ⟨k, by omega, k2, k3⟩
    · exact ⟨m, by omega, hm, fun j hj => h j hj⟩
theorem lt_of_bit {x y k : Nat} (h1 : x.testBit k = false) (h2 : y.testBit k = true) (h3 : ∀ j, k < j → x.testBit j = y.testBit j) : x < y := by
  have e : x / 2 ^ (k + 1) = y / 2 ^ (k + 1) := Nat.eq_of_testBit_eq fun j => by
    rw [Nat.testBit_div_two_pow, Nat.testBit_div_two_pow]; exact h3 _ (by omega)
  rw [Nat.pow_succ, ← Nat.div_div_eq_div_mul, ← Nat.div_div_eq_div_mul] at e
  rw [Nat.testBit_eq_decide_div_mod_eq] at h1 h2
  simp at h1 h2
  exact Nat.lt_of_div_lt_div (c := 2 ^ k) (by omega)
theorem byte_lt {c d : Nat} (hd : d < 256) (h : c < d) : ∃ t, t < 8 ∧ (∀ s, s < t → c.testBit (7 - s) = d.testBit (7 - s)) ∧ c.testBit (7 - t) = false ∧ d.testBit (7 - t) = true := by
  have hz : ∀ x, x < 256 → ∀ j, 8 ≤ j → x.testBit j = false := fun x hx j hj =>
    Nat.testBit_lt_two_pow (Nat.lt_of_lt_of_le hx (Nat.pow_le_pow_right (n := 2) (by omega) hj))
  obtain ⟨k, k1, k2, k3⟩ := top_bit (c := c) (d := d) 8 (fun j hj => by rw [hz c (by omega) j hj, hz d hd j hj]) (by omega)
  have hb : c.testBit k = false ∧ d.testBit k = true := by
    cases hc : c.testBit k <;> cases hdk : d.testBit k
    · rw [hc, hdk] at k2; exact absurd rfl k2
    · exact ⟨rfl, rfl⟩
    · have := lt_of_bit hdk hc (fun j hj => (k3 j hj).symm); omega
    · rw [hc, hdk] at k2; exact absurd rfl k2
  refine ⟨7 - k, by omega, fun s hs => k3 _ (by omega), ?_, ?_⟩
  · rw [show 7 - (7 - k) = k from by omega]; exact hb.1
  · rw [show 7 - (7 - k) = k from by omega]; exact hb.2
/-- The first byte in which two rows differ. -/
theorem cmp_first : ∀ {xs ys : List Int}, xs.length = ys.length → cmpZ xs ys < 0 → ∃ j, j < xs.length ∧ (∀ i, i < j → xs[i]?.getD 0 = ys[i]?.getD 0) ∧ xs[j]?.getD 0 < ys[j]?.getD 0
  | [], [], _, h => by simp [cmpZ] at h
  | [], _ :: _, h, _ => by simp at h
  | _ :: _, [], h, _ => by simp at h
  | a :: xs, b :: ys, hl, h => by
    unfold cmpZ at h
    by_cases h1 : a < b
    · exact ⟨0, by simp, fun i hi => by omega, by simpa using h1⟩
    · rw [if_neg h1] at h
      by_cases h2 : b < a
      · rw [if_pos h2] at h; omega
      · rw [if_neg h2] at h
        obtain ⟨j, j1, j2, j3⟩ := cmp_first (by simpa using hl) h
        refine ⟨j + 1, by simpa using j1, fun i hi => ?_, by simpa using j3⟩
        cases i with
        | zero => simp; omega
        | succ i => simpa using j2 i (by omega)
theorem cmpZ_self : ∀ xs : List Int, cmpZ xs xs = 0
  | [] => rfl
  | a :: xs => by unfold cmpZ; rw [if_neg (by omega), if_neg (by omega)]; exact cmpZ_self xs
theorem cmpZ_zero : ∀ {xs ys : List Int}, xs.length = ys.length → cmpZ xs ys = 0 → xs = ys
  | [], [], _, _ => rfl
  | [], _ :: _, h, _ => by simp at h
  | _ :: _, [], h, _ => by simp at h
  | a :: xs, b :: ys, hl, h => by
    unfold cmpZ at h
    by_cases h1 : a < b
    · rw [if_pos h1] at h; omega
    · by_cases h2 : b < a
      · rw [if_neg h1, if_pos h2] at h; omega
      · rw [if_neg h1, if_neg h2] at h
        rw [cmpZ_zero (by simpa using hl) h, show a = b from by omega]
theorem cmpZ_anti : ∀ xs ys : List Int, cmpZ ys xs = - cmpZ xs ys
  | [], [] => rfl
  | [], _ :: _ => rfl
  | _ :: _, [] => rfl
  | a :: xs, b :: ys => by
    unfold cmpZ
    by_cases h1 : a < b
    · have h2 : ¬ b < a := by omega
      simp [h1, h2]
    · by_cases h2 : b < a
      · simp [h1, h2]
      · simp [h1, h2]; exact cmpZ_anti xs ys
theorem ltB_of_cmp {a b : List Int} (ha : IdIn a) (hb : IdIn b) (h : cmpZ a b < 0) : ltB a b := by
  obtain ⟨j, j1, j2, j3⟩ := cmp_first (by rw [ha.len, hb.len]) h
  rw [ha.len] at j1
  have g : ∀ {x : List Int}, IdIn x → 0 ≤ x[j]?.getD 0 ∧ x[j]?.getD 0 < 256 := fun {x} hx => by
    rw [List.getElem?_eq_getElem (by rw [hx.len]; exact j1)]
    exact hx.bytes _ (List.getElem_mem _)
  have ga := g ha
  have gb := g hb
  obtain ⟨t, t1, t2, t3, t4⟩ := byte_lt (c := (a[j]?.getD 0).toNat) (d := (b[j]?.getD 0).toNat) (by omega) (by omega)
  refine ⟨8 * j + t, by omega, fun i hi => ?_, ?_, ?_⟩
  · unfold bitB
    by_cases hij : i / 8 < j
    · rw [j2 _ hij]
    · rw [show i / 8 = j from by omega]
      exact t2 _ (by omega)
  · unfold bitB; rw [show (8 * j + t) / 8 = j from by omega, show (8 * j + t) % 8 = t from by omega]; exact t3
  · unfold bitB; rw [show (8 * j + t) / 8 = j from by omega, show (8 * j + t) % 8 = t from by omega]; exact t4
theorem lt_iff {a b : List Int} (ha : IdIn a) (hb : IdIn b) : cmpZ a b < 0 ↔ ltB a b := by
  refine ⟨ltB_of_cmp ha hb, fun h => ?_⟩
  rcases Int.lt_trichotomy (cmpZ a b) 0 with h1 | h1 | h1
  · exact h1
  · have := cmpZ_zero (by rw [ha.len, hb.len]) h1; subst this; exact absurd h (ltB_irrefl _)
  · exact (ltB_asymm h (ltB_of_cmp hb ha (by rw [cmpZ_anti]; omega))).elim
theorem lt_total {a b : List Int} (ha : IdIn a) (hb : IdIn b) (h : a ≠ b) : ltB a b ∨ ltB b a := by
  rcases Int.lt_trichotomy (cmpZ a b) 0 with h1 | h1 | h1
  · exact .inl (ltB_of_cmp ha hb h1)
  · exact absurd (cmpZ_zero (by rw [ha.len, hb.len]) h1) h
  · exact .inr (ltB_of_cmp hb ha (by rw [cmpZ_anti]; omega))
theorem bits_ne {a b : List Int} (ha : IdIn a) (hb : IdIn b) (h : a ≠ b) : ∃ n, n < 256 ∧ bitB a n ≠ bitB b n := by
  rcases lt_total ha hb h with ⟨n, n1, _, n3, n4⟩ | ⟨n, n1, _, n3, n4⟩
  · exact ⟨n, n1, by rw [n3, n4]; decide⟩
  · exact ⟨n, n1, by rw [n3, n4]; decide⟩

/-- Where ids part: the least bit that is not the same in all. -/
def IsSplit (L : List (List Int)) (n : Nat) : Prop := n < 256 ∧ (∀ j, j < n → ∀ x ∈ L, ∀ y ∈ L, bitB x j = bitB y j) ∧ ∃ x ∈ L, ∃ y ∈ L, bitB x n ≠ bitB y n
def splitN (L : List (List Int)) : Nat := ((List.range 256).find? fun i => L.any fun x => bitB x i != bitB (pc L 0) i).getD 256
theorem IsSplit.uniq {L : List (List Int)} {n m : Nat} (h : IsSplit L n) (k : IsSplit L m) : n = m := by
  obtain ⟨_, h2, x, hx, y, hy, h3⟩ := h
  obtain ⟨_, k2, u, hu, v, hv, k3⟩ := k
  rcases Nat.lt_trichotomy n m with e | e | e
  · exact absurd (k2 n e x hx y hy) h3
  · exact e
  · exact absurd (h2 m e u hu v hv) k3
theorem pc_mem {L : List (List Int)} {i : Nat} (h : i < L.length) : pc L i ∈ L := by
  unfold pc; rw [List.getElem?_eq_getElem h]; exact List.getElem_mem h
theorem IsSplit.pos {L : List (List Int)} {n : Nat} (h : IsSplit L n) : 0 < L.length := by
  obtain ⟨_, _, x, hx, _⟩ := h
  exact List.length_pos_of_mem hx
theorem IsSplit.eq {L : List (List Int)} {n : Nat} (h : IsSplit L n) : splitN L = n := by
  have hp := pc_mem h.pos
  have h' := h
  obtain ⟨h1, h2, x, hx, y, hy, h3⟩ := h
  unfold splitN
  have : (List.range 256).find? (fun i => L.any fun x => bitB x i != bitB (pc L 0) i) = some n := by
    rw [List.find?_range_eq_some]
    refine ⟨?_, by simpa using h1, fun j hj => ?_⟩
    · rw [List.any_eq_true]
      by_cases e : bitB x n = bitB (pc L 0) n
      · exact ⟨y, hy, by simp; intro e2; exact h3 (e.trans e2.symm)⟩
      · exact ⟨x, hx, by simpa using e⟩
    · simp only [Bool.not_eq_true', List.any_eq_false]
      intro z hz
      simp [h2 j hj z hz _ hp]
  rw [this]; rfl
theorem splitN_is {L : List (List Int)} (h : ∃ n, n < 256 ∧ ∃ x ∈ L, ∃ y ∈ L, bitB x n ≠ bitB y n) : IsSplit L (splitN L) := by
  obtain ⟨n, hn, hx⟩ := h
  have : ∀ m, (∃ k, k < m ∧ ∃ x ∈ L, ∃ y ∈ L, bitB x k ≠ bitB y k) → ∃ k, k < m ∧ (∃ x ∈ L, ∃ y ∈ L, bitB x k ≠ bitB y k) ∧ ∀ j, j < k → ∀ x ∈ L, ∀ y ∈ L, bitB x j = bitB y j := by
    intro m
    induction m with
    | zero => rintro ⟨k, hk, _⟩; omega
    | succ m ih =>
      rintro ⟨k, hk, hx⟩
      by_cases h : ∃ k, k < m ∧ ∃ x ∈ L, ∃ y ∈ L, bitB x k ≠ bitB y k
      · obtain ⟨k, k1, k2, k3⟩ := ih h
        exact ⟨k, by omega, k2, k3⟩
      · refine ⟨k, hk, hx, fun j hj x hx y hy => ?_⟩
        refine Classical.byContradiction fun hne => h ⟨j, by omega, x, hx, y, hy, hne⟩
  obtain ⟨k, k1, k2, k3⟩ := this 256 ⟨n, hn, hx⟩
  have hs : IsSplit L k := ⟨k1, k3, k2⟩
  rw [hs.eq]; exact hs
theorem IsSplit.of_diff {L : List (List Int)} {lo hi : List Int} {n : Nat} (h : DiffAt lo hi n) (h1 : lo ∈ L) (h2 : hi ∈ L) (h3 : ∀ x ∈ L, (x = lo ∨ ltB lo x) ∧ (x = hi ∨ ltB x hi)) : IsSplit L n :=
  ⟨h.1, fun j hj x hx y hy => (sandwich h (h3 x hx).1 (h3 x hx).2 j hj).trans (sandwich h (h3 y hy).1 (h3 y hy).2 j hj).symm, lo, h1, hi, h2, by rw [h.2.2.1, h.2.2.2]; decide⟩
theorem DiffAt.pair {lo hi : List Int} {n : Nat} (h : DiffAt lo hi n) : splitN [lo, hi] = n :=
  (IsSplit.of_diff h (by simp) (by simp) (by rintro x hx; simp at hx; rcases hx with rfl | rfl; exact ⟨.inl rfl, .inr ⟨n, h⟩⟩; exact ⟨.inr ⟨n, h⟩, .inl rfl⟩)).eq
/-- Where two ids part (256: they are the same). -/
def apN (a b : List Int) : Nat := splitN [a, b]
theorem apN_self (a : List Int) : apN a a = 256 := by
  unfold apN splitN
  have : (List.range 256).find? (fun i => [a, a].any fun x => bitB x i != bitB (pc [a, a] 0) i) = none := by
    rw [List.find?_eq_none]; intro x _; simp [pc]
  rw [this]; rfl
theorem apN_comm {a b : List Int} (h : IsSplit [a, b] (apN a b)) : apN b a = apN a b := by
  have : IsSplit [b, a] (apN a b) := by
    obtain ⟨h1, h2, x, hx, y, hy, h3⟩ := h
    have sw : ∀ z, z ∈ [b, a] ↔ z ∈ [a, b] := fun z => by simp; exact or_comm
    exact ⟨h1, fun j hj x hx y hy => h2 j hj x ((sw x).1 hx) y ((sw y).1 hy), x, (sw x).2 hx, y, (sw y).2 hy, h3⟩
  exact this.eq

/-- Increasing ids. -/
structure IncL (l : List (List Int)) : Prop where
  ids : ∀ x ∈ l, IdIn x
  inc : l.Pairwise ltB
theorem IncL.nil : IncL [] := ⟨fun x h => by simp at h, .nil⟩
theorem IncL.filter {l : List (List Int)} (h : IncL l) (p : List Int → Bool) : IncL (l.filter p) := ⟨fun x hx => h.ids x ((List.mem_filter.1 hx).1), h.inc.filter p⟩
theorem IncL.at {l : List (List Int)} (h : IncL l) {i : Nat} (hi : i < l.length) : IdIn (pc l i) := h.ids _ (pc_mem hi)
theorem IncL.lt {l : List (List Int)} (h : IncL l) {i j : Nat} (hij : i < j) (hj : j < l.length) : ltB (pc l i) (pc l j) := by
  unfold pc
  rw [List.getElem?_eq_getElem (by omega), List.getElem?_eq_getElem hj]
  exact List.pairwise_iff_getElem.1 h.inc i j (by omega) hj hij
theorem IncL.bounds {l : List (List Int)} (h : IncL l) (x : List Int) (hx : x ∈ l) : (x = pc l 0 ∨ ltB (pc l 0) x) ∧ (x = pc l (l.length - 1) ∨ ltB x (pc l (l.length - 1))) := by
  obtain ⟨i, hi, rfl⟩ := List.getElem_of_mem hx
  have e : l[i] = pc l i := by unfold pc; rw [List.getElem?_eq_getElem hi]; rfl
  rw [e]
  constructor
  · by_cases h0 : i = 0
    · left; rw [h0]
    · right; exact h.lt (by omega) hi
  · by_cases h0 : i = l.length - 1
    · left; rw [← h0]
    · right; exact h.lt (by omega) (by omega)
/-- Where increasing ids part is where the first and the last part. -/
theorem IncL.split {l : List (List Int)} (h : IncL l) (h2 : 2 ≤ l.length) : IsSplit l (splitN l) ∧ apN (pc l 0) (pc l (l.length - 1)) = splitN l ∧ DiffAt (pc l 0) (pc l (l.length - 1)) (splitN l) := by
  obtain ⟨n, hn⟩ := h.lt (show 0 < l.length - 1 by omega) (by omega)
  have hs : IsSplit l n := IsSplit.of_diff hn (pc_mem (by omega)) (pc_mem (by omega)) h.bounds
  rw [hs.eq]
  exact ⟨hs, hn.pair, hn⟩
def zerosL (l : List (List Int)) (i : Nat) : List (List Int) := l.filter fun x => !bitB x i
def onesL (l : List (List Int)) (i : Nat) : List (List Int) := l.filter fun x => bitB x i
/-- The first bits are the same in all. -/
def Same (L : List (List Int)) (n : Nat) : Prop := ∀ j, j < n → ∀ x ∈ L, ∀ y ∈ L, bitB x j = bitB y j
theorem cut_cat : ∀ {l : List (List Int)} {n : Nat}, l.Pairwise ltB → Same l n → zerosL l n ++ onesL l n = l
  | [], _, _, _ => rfl
  | x :: l, n, h, hs => by
    rw [List.pairwise_cons] at h
    have ih := cut_cat (n := n) h.2 (fun j hj u hu v hv => hs j hj u (List.mem_cons_of_mem _ hu) v (List.mem_cons_of_mem _ hv))
    unfold zerosL onesL at *
    cases hb : bitB x n with
    | false => simp [hb, ih]
    | true =>
      have hall : ∀ y ∈ l, bitB y n = true := fun y hy => by
        obtain ⟨m, _, m2, m3, m4⟩ := h.1 y hy
        rcases Nat.lt_trichotomy m n with e | e | e
        · have := hs m e x (List.mem_cons_self ..) y (List.mem_cons_of_mem _ hy); rw [m3, m4] at this; cases this
        · subst e; rw [m3] at hb; cases hb
        · rw [← m2 n e]; exact hb
      rw [List.filter_eq_nil_iff.2 (by
        intro y hy
        rcases List.mem_cons.1 hy with rfl | hy
        · simp [hb]
        · simp [hall y hy]), List.filter_eq_self.2 (by
        intro y hy
        rcases List.mem_cons.1 hy with rfl | hy
        · exact hb
        · exact hall y hy)]
      rfl
theorem IsSplit.zeros_pos {L : List (List Int)} {n : Nat} (h : IsSplit L n) : 0 < (zerosL L n).length ∧ 0 < (onesL L n).length := by
  obtain ⟨_, _, x, hx, y, hy, h3⟩ := h
  have key : ∀ u ∈ L, ∀ v ∈ L, bitB u n = false → bitB v n = true → 0 < (zerosL L n).length ∧ 0 < (onesL L n).length := fun u hu v hv e1 e2 =>
    ⟨List.length_pos_of_mem (List.mem_filter.2 ⟨hu, by simp [e1]⟩), List.length_pos_of_mem (List.mem_filter.2 ⟨hv, e2⟩)⟩
  cases e1 : bitB x n <;> cases e2 : bitB y n
  · rw [e1, e2] at h3; exact absurd rfl h3
  · exact key x hx y hy e1 e2
  · exact key y hy x hx e2 e1
  · rw [e1, e2] at h3; exact absurd rfl h3
theorem cut_lens (L : List (List Int)) (n : Nat) : (zerosL L n).length + (onesL L n).length = L.length := by
  unfold zerosL onesL
  induction L with
  | nil => rfl
  | cons x l ih => cases hb : bitB x n <;> simp [hb] <;> omega
/-- The digest of ids. -/
def rootP (l : List (List Int)) : List Int :=
  if l.length = 0 then List.replicate 32 0 else if l.length = 1 then ofL (0 :: pc l 0)
  else if h : (zerosL l (splitN l)).length < l.length ∧ (onesL l (splitN l)).length < l.length then ofL (1 :: (splitN l : Int) :: (rootP (zerosL l (splitN l)) ++ rootP (onesL l (splitN l)))) else List.replicate 32 0
termination_by l.length
decreasing_by
  · exact h.1
  · exact h.2
theorem rootP_nil : rootP [] = List.replicate 32 0 := by rw [rootP]; rfl
theorem rootP_one (x : List Int) : rootP [x] = ofL (0 :: x) := by rw [rootP]; rfl
theorem rootP_two {l : List (List Int)} (h : IncL l) (h2 : 2 ≤ l.length) : rootP l = ofL (1 :: (splitN l : Int) :: (rootP (zerosL l (splitN l)) ++ rootP (onesL l (splitN l)))) := by
  have hp := (h.split h2).1.zeros_pos
  have hl := cut_lens l (splitN l)
  rw [rootP, if_neg (by omega), if_neg (by omega), dif_pos ⟨by omega, by omega⟩]
theorem rootP_len (l : List (List Int)) : (rootP l).length = 32 := by
  rw [rootP]
  split
  · simp
  · split
    · exact ofL_len _
    · split
      · exact ofL_len _
      · simp
/-- Check's answer. -/
def sortB : List (List Int) → Bool
  | [] => true
  | [_] => true
  | a :: b :: t => decide (cmpZ a b < 0) && sortB (b :: t)
theorem sortB_of : ∀ {l : List (List Int)}, (∀ i, i + 1 < l.length → cmpZ (pc l i) (pc l (i + 1)) < 0) → sortB l = true
  | [], _ => rfl
  | [_], _ => rfl
  | a :: b :: t, h => by
    unfold sortB
    have h0 := h 0 (by simp)
    simp [pc] at h0
    rw [sortB_of (l := b :: t) (fun i hi => by simpa [pc] using h (i + 1) (by simpa using hi))]
    simpa using h0
theorem sortB_no : ∀ {l : List (List Int)} {i : Nat}, i + 1 < l.length → ¬ cmpZ (pc l i) (pc l (i + 1)) < 0 → sortB l = false
  | [], _, h, _ => by simp at h
  | [_], _, h, _ => by simp at h
  | a :: b :: t, 0, _, h => by
    have : ¬ cmpZ a b < 0 := by simpa [pc] using h
    unfold sortB; simp [this]
  | a :: b :: t, i + 1, hi, h => by
    unfold sortB
    rw [sortB_no (l := b :: t) (i := i) (by simpa using hi) (by simpa [pc] using h)]
    simp
theorem inc_of_sortB : ∀ {l : List (List Int)}, (∀ x ∈ l, IdIn x) → sortB l = true → IncL l
  | [], _, _ => .nil
  | [x], h, _ => ⟨h, List.pairwise_singleton _ _⟩
  | a :: b :: t, h, hs => by
    unfold sortB at hs
    simp only [Bool.and_eq_true, decide_eq_true_eq] at hs
    have ih := inc_of_sortB (l := b :: t) (fun x hx => h x (List.mem_cons_of_mem _ hx)) hs.2
    have hab := ltB_of_cmp (h a (by simp)) (h b (by simp)) hs.1
    refine ⟨h, List.pairwise_cons.2 ⟨fun x hx => ?_, ih.inc⟩⟩
    rcases List.mem_cons.1 hx with rfl | hx
    · exact hab
    · exact ltB_trans hab ((List.pairwise_cons.1 ih.inc).1 x hx)
theorem sortB_of_inc {l : List (List Int)} (h : IncL l) : sortB l = true :=
  sortB_of fun i hi => (lt_iff (h.at (by omega)) (h.at hi)).2 (h.lt (by omega) hi)
def chkZ (l : List (List Int)) : Int := if 60 < l.length then 4 else if sortB l = true then 0 else 32

end Go.Proofs.YtfabcdpmnbeflaaDoor

/- Ids in memory: rows of ids, loads of ids out of rows, parts of rows. -/
namespace Go.Proofs.YtfabcdpmnbeflaaDoor
open Go.RowKit Go.Sort
set_option linter.unusedVariables false
set_option linter.unusedSimpArgs false

/-- A fact that the walk's tactics do not open. -/
structure Box (p : Prop) : Prop where out : p
theorem info_id32 : (Tryd.prog.info? 24).map (fun i => (i.zero, i.size, i.bytes)) = some (some (.agg (List.replicate 32 (Value.int .u8 0)).toArray), 32, 32) := by kernel_rfl
def idC (x : List Int) : List Value := x.map (Value.int .u8)
def idsC (l : List (List Int)) : List Value := (l.map idC).flatten
theorem idC_len {x : List Int} (h : IdIn x) : (idC x).length = 32 := by unfold idC; rw [List.length_map, h.len]
theorem idC_info {x : List Int} (h : IdIn x) : (Tryd.prog.info? 24).map (·.size) = some (idC x).length := by rw [idC_len h]; exact info32
theorem idC_one (x : List Int) : ∀ u ∈ idC x, u.oneCell' = true := oneCell_ints _ _
theorem idsC_all {l : List (List Int)} (h : ∀ x ∈ l, IdIn x) : ∀ r ∈ l.map idC, r.length = 32 := by
  intro r hr
  obtain ⟨x, hx, rfl⟩ := List.mem_map.1 hr
  exact idC_len (h x hx)
theorem idsC_len {l : List (List Int)} (h : ∀ x ∈ l, IdIn x) : (idsC l).length = l.length * 32 := by
  unfold idsC
  rw [flat_len _ (idsC_all h), List.length_map]
theorem idsC_append (l k : List (List Int)) : idsC (l ++ k) = idsC l ++ idsC k := by unfold idsC; simp
theorem idsC_one (l : List (List Int)) : ∀ u ∈ idsC l, u.oneCell' = true := by
  intro u hu
  unfold idsC at hu
  obtain ⟨r, hr, hu⟩ := List.mem_flatten.1 hu
  obtain ⟨x, _, rfl⟩ := List.mem_map.1 hr
  exact idC_one x u hu
theorem zeroIdIn : IdIn (List.replicate 32 0) := ⟨by simp, fun x hx => by obtain ⟨_, rfl⟩ := List.mem_replicate.1 hx; omega⟩
theorem idC_zero : idC (List.replicate 32 0) = List.replicate 32 (Value.int .u8 0) := by unfold idC; rw [List.map_replicate]
theorem ofL_id (bs : List Int) : IdIn (ofL bs) := ⟨ofL_len bs, wr32_bytes _ _⟩
/-- Ids in a slice. -/
structure IdsIn (w : World) (a : Option Addr) (c : Nat) (l : List (List Int)) : Prop where
  cells : CellsAt w a (idsC l)
  ids : ∀ x ∈ l, IdIn x
  cap : l.length ≤ c
theorem IdsIn.later {w w' : World} {a : Option Addr} {c : Nat} {l : List (List Int)} (h : IdsIn w a c l) (hb : Below w.heap.size w w') : IdsIn w' a c l := ⟨h.cells.later hb, h.ids, h.cap⟩
theorem IdsIn.nil (w : World) (a : Option Addr) (c : Nat) : IdsIn w a c [] := ⟨.inl rfl, fun x h => by simp at h, Nat.zero_le _⟩
theorem rangeAt_later {w w' : World} {b o : Nat} {cs : List Value} (h : w.rangeAt b o cs) (hb : Below w.heap.size w w') : w'.rangeAt b o cs := fun j v hj => cell_later hb (h j v hj)
theorem rangeAt_drew {w : World} {b o : Nat} {cs : List Value} (h : w.rangeAt b o cs) : w.drew.rangeAt b o cs := h
theorem pc_map {l : List (List Int)} {i : Nat} (hi : i < l.length) : (l.map idC)[i]? = some (idC (pc l i)) := by
  unfold pc; rw [List.getElem?_map, List.getElem?_eq_getElem hi]; rfl
theorem IdsIn.row {w : World} {a : Option Addr} {c : Nat} {l : List (List Int)} (h : IdsIn w a c l) (h0 : 0 < l.length) :
    ∃ b o, a = some ⟨b, o, none⟩ ∧ b < w.heap.size ∧ ∀ i, i < l.length → w.rangeAt b (o + i * 32) (idC (pc l i)) := by
  have hl := idsC_len h.ids
  rcases h.cells with h1 | ⟨b, o, ha, h1⟩
  · rw [h1] at hl; simp at hl; omega
  · have key : ∀ i, i < l.length → w.rangeAt b (o + i * 32) (idC (pc l i)) := fun i hi j v hj => by
      have hj' : j < 32 := by have := (List.getElem?_eq_some_iff.1 hj).1; rwa [idC_len (h.ids _ (pc_mem hi))] at this
      have e := flat_at (by omega) (l.map idC) (idsC_all h.ids) i _ j (pc_map hi) hj'
      rw [Nat.add_assoc]
      exact h1 _ _ (by unfold idsC; rw [e]; exact hj)
    refine ⟨b, o, ha, ?_, key⟩
    have hx := idC_len (h.ids _ (pc_mem h0))
    have := key 0 h0 0 _ (List.getElem?_eq_getElem (by omega))
    exact World.block_lt_of_cell? _ _ this
theorem IdsIn.left {w : World} {a : Option Addr} {c c' : Nat} {l k : List (List Int)} (h : IdsIn w a c (l ++ k)) (hc : l.length ≤ c') : IdsIn w a c' l := by
  refine ⟨?_, fun x hx => h.ids x (List.mem_append_left _ hx), hc⟩
  have := h.cells.takeK (idsC l).length
  rwa [idsC_append, List.take_left'] at this
  rfl
theorem IdsIn.right {w : World} {b o : Nat} {c c' : Nat} {l k : List (List Int)} (h : IdsIn w (some ⟨b, o, none⟩) c (l ++ k)) (hc : k.length ≤ c') : IdsIn w (some ⟨b, o + l.length * 32, none⟩) c' k := by
  refine ⟨?_, fun x hx => h.ids x (List.mem_append_right _ hx), hc⟩
  have := h.cells.dropK (idsC l).length
  rw [idsC_append, List.drop_left' rfl, idsC_len fun x hx => h.ids x (List.mem_append_left _ hx)] at this
  exact this
section
variable {P : Program}
/-- A load out of a row, in a quiet walk. -/
theorem wpQuiet_load_mid {ops : Array Oper} {Q : Act → Prop} {a : Act} {o : Oper} {rest : List Oper} {w0 : World} (hw : Region.wanted o (yielded ops a.tmps) = true) (ty : TypeId) (x : Operand) (ho : o.op = .load ty x)
    (B off : Nat) (hx : a.eval x = .pointer (some ⟨B, off, none⟩)) (cs : List Value) (d : TypeDesc) (h : w0.rangeAt B off cs)
    (hu : P.underlying ty = some d) (hd : d.isRow = true) (hi : (P.info? ty).map (·.size) = some cs.length)
    (hK : wpQuiet P ops (fun w' => ∃ p : Regrown, w' = wOn w0 p) Q rest (a.put o.dst (.agg cs.toArray))) : wpQuiet P ops (fun w' => ∃ p : Regrown, w' = wOn w0 p) Q (o :: rest) a :=
  wpQuiet_step fun K hK' => by
    rw [if_pos hw]
    refine ⟨.agg cs.toArray, fun w ⟨p, hp⟩ => ?_, hK' _ hK⟩
    subst hp
    have hr := run_loadAt_mid (P := P) (wOn w0 p) B off ty cs d (rangeAt_later h (below_later w0 p)) hu hd hi
    unfold Oper.quietAt
    simp [execOp, ho, hx, hr, Oper.quietUpon]
/-- A load out of a row by an operation that has a guard. -/
theorem wpList_load_midG {ops : Array Oper} {rest : List Oper} {o : Oper} {a : Act} {w : World} {Q : Exit → Act → World → Prop} (hw : Region.wanted o (yielded ops a.tmps) = true) (ty : TypeId) (x : Operand) (ho : o.op = .load ty x)
    (b off : Nat) (hx : a.eval x = .pointer (some ⟨b, off, none⟩)) (cs : List Value) (d : TypeDesc) (hc : w.rangeAt b off cs)
    (hu : P.underlying ty = some d) (hd : d.isRow = true) (hi : (P.info? ty).map (·.size) = some cs.length)
    (h : wpList P ops Q rest (a.put o.dst (.agg cs.toArray)) w) : wpList P ops Q (o :: rest) a w :=
  wpList_want hw fun _ hK => wp_load_mid ty x ho b off hx cs d hc hu hd hi (hK _ _ h)
/-- 's[k:]' of a row of elements of any size, behind one name for its address. -/
theorem slice_fromS {t : TypeId} {s : Nat} (ht : P.underlying t = some (.slice (P.elem t))) (hsz : ∀ w, (sizeOf (P.elem t)).run P w = .ok s w) (b o len cap : Nat) (k : Nat) (hk : k ≤ len) (hc : len ≤ cap) :
    ∃ ad : Addr, (∀ w', (Instr.slice t (.slice (some ⟨b, o, none⟩) len cap) (some (.int .i64 k)) none none).run P w' = .ok (.slice (some ad) (len - k) (cap - k)) w') ∧ ad.block = b ∧ (k < len → ad = ⟨b, o + k * s, none⟩) := by
  by_cases h : cap = k
  · refine ⟨⟨b, o, none⟩, fun w' => ?_, rfl, fun h' => by omega⟩
    rw [run_slice_l w' t _ _ _ ht .i64 k (by omega) (by omega), hsz]
    simp [Result.andThen, sliced, h]
  · refine ⟨⟨b, o + k * s, none⟩, fun w' => ?_, rfl, fun _ => rfl⟩
    rw [run_slice_l w' t _ _ _ ht .i64 k (by omega) (by omega), hsz]
    simp [Result.andThen, sliced, h, Addr.add_lit]
/-- 's[:k:k]' of a row of elements of any size. -/
theorem slice_toS {t : TypeId} {s : Nat} (ht : P.underlying t = some (.slice (P.elem t))) (hsz : ∀ w, (sizeOf (P.elem t)).run P w = .ok s w) (b o len cap : Nat) (k : Nat) (hk : k ≤ len) (hc : len ≤ cap) (w' : World) :
    (Instr.slice t (.slice (some ⟨b, o, none⟩) len cap) none (some (.int .i64 k)) (some (.int .i64 k))).run P w' = .ok (.slice (some ⟨b, o, none⟩) k k) w' := by
  rw [run_slice_hm w' t _ _ _ ht .i64 .i64 k k (by omega) (by omega) (by omega), hsz]
  by_cases h : k = 0 <;> simp [Result.andThen, sliced, h, Addr.add]
end

end Go.Proofs.YtfabcdpmnbeflaaDoor

/- Bits of ids; where two ids part; ids compared: of the program and of the reference. -/
namespace Go.Proofs.YtfabcdpmnbeflaaDoor
set_option linter.unusedSimpArgs false
set_option linter.unusedVariables false
set_option linter.unnecessarySimpa false
open Go.RowKit

theorem shl_bit : ∀ (x : Fin 256) (r : Fin 8), (bits BinOp.and IntKind.u8 ((x.val : Int) * 2 ^ r.val % 256) 128 != 0) = x.val.testBit (7 - r.val) := by decide +kernel
theorem shr_bit : ∀ (x : Fin 256) (r : Fin 8), (bits BinOp.and IntKind.u8 (x.val : Int) (128 / 2 ^ r.val) != 0) = x.val.testBit (7 - r.val) := by decide +kernel
theorem top_of : ∀ z : Fin 256, z.val ≠ 0 → Lib.bitLen z.val ≤ 8 ∧ 0 < Lib.bitLen z.val ∧ z.val.testBit (Lib.bitLen z.val - 1) = true ∧ ∀ j : Fin 8, Lib.bitLen z.val ≤ j.val → z.val.testBit j.val = false := by decide +kernel
theorem top_le : ∀ z : Fin 256, Lib.bitLen z.val ≤ 8 := by decide +kernel
theorem xor_u8 {x y : Int} (hx : 0 ≤ x ∧ x < 256) (hy : 0 ≤ y ∧ y < 256) : bits BinOp.xor IntKind.u8 x y = ((x.toNat ^^^ y.toNat : Nat) : Int) := by
  have h : x.toNat ^^^ y.toNat < 2 ^ 8 := Nat.xor_lt_two_pow (by omega) (by omega)
  show IntKind.u8.wrap ((BitVec.ofInt 8 x ^^^ BitVec.ofInt 8 y).toNat : Int) = _
  have e : ∀ {z : Int}, 0 ≤ z ∧ z < 256 → (BitVec.ofInt 8 z).toNat = z.toNat := fun {z} hz => by
    rw [BitVec.toNat_ofInt]
    omega
  rw [BitVec.toNat_xor, e hx, e hy, IntKind.wrap_u8]
  omega
/-- Two bytes that differ: the least bit, from the top, in which they do. -/
theorem byte_top {x y : Int} (hx : 0 ≤ x ∧ x < 256) (hy : 0 ≤ y ∧ y < 256) (hne : x ≠ y) : ∃ t : Nat, t < 8 ∧ 8 - (Lib.bitLen (x.toNat ^^^ y.toNat) : Int) = t ∧ (∀ s, s < t → x.toNat.testBit (7 - s) = y.toNat.testBit (7 - s)) ∧ x.toNat.testBit (7 - t) ≠ y.toNat.testBit (7 - t) := by
  have h : x.toNat ^^^ y.toNat < 2 ^ 8 := Nat.xor_lt_two_pow (by omega) (by omega)
  have h0 : x.toNat ^^^ y.toNat ≠ 0 := by
    intro e
    have := Nat.eq_of_testBit_eq (x := x.toNat) (y := y.toNat) fun j => by
      have := congrArg (fun z => z.testBit j) e
      simpa using this
    omega
  obtain ⟨h1, h2, h3, h4⟩ := top_of ⟨x.toNat ^^^ y.toNat, h⟩ h0
  simp only at h1 h2 h3 h4
  generalize hL : Lib.bitLen (x.toNat ^^^ y.toNat) = L at *
  refine ⟨8 - L, by omega, by omega, fun s hs => ?_, ?_⟩
  · have := h4 ⟨7 - s, by omega⟩ (by simp only; omega)
    simp only [Nat.testBit_xor] at this
    simpa using this
  · rw [show 7 - (8 - L) = L - 1 from by omega]
    rw [Nat.testBit_xor] at h3
    simpa using h3
theorem first_ne : ∀ {xs ys : List Int}, xs.length = ys.length → xs ≠ ys → ∃ d, d < xs.length ∧ (∀ i, i < d → xs[i]?.getD 0 = ys[i]?.getD 0) ∧ xs[d]?.getD 0 ≠ ys[d]?.getD 0
  | [], [], _, h => absurd rfl h
  | [], _ :: _, h, _ => by simp at h
  | _ :: _, [], h, _ => by simp at h
  | a :: xs, b :: ys, hl, h => by
    by_cases hab : a = b
    · subst hab
      obtain ⟨d, d1, d2, d3⟩ := first_ne (xs := xs) (ys := ys) (by simpa using hl) (fun e => h (by rw [e]))
      refine ⟨d + 1, by simpa using d1, fun i hi => ?_, by simpa using d3⟩
      cases i with
      | zero => rfl
      | succ i => simpa using d2 i (by omega)
    · exact ⟨0, by simp, fun i hi => by omega, by simpa using hab⟩
theorem cmp_at : ∀ {xs ys : List Int} {d : Nat}, xs.length = ys.length → d < xs.length → (∀ i, i < d → xs[i]?.getD 0 = ys[i]?.getD 0) → xs[d]?.getD 0 ≠ ys[d]?.getD 0 → (cmpZ xs ys < 0 ↔ xs[d]?.getD 0 < ys[d]?.getD 0)
  | [], _, d, _, h, _, _ => by simp at h
  | _ :: _, [], d, hl, _, _, _ => by simp at hl
  | a :: xs, b :: ys, 0, _, _, _, h => by
    simp at h ⊢
    unfold cmpZ
    by_cases h1 : a < b
    · rw [if_pos h1]; simp [h1]
    · rw [if_neg h1, if_pos (by omega)]; simp [h1]
  | a :: xs, b :: ys, d + 1, hl, hd, h, hne => by
    have h0 := h 0 (by omega)
    simp at h0
    unfold cmpZ
    rw [if_neg (by omega), if_neg (by omega)]
    have := cmp_at (xs := xs) (ys := ys) (d := d) (by simpa using hl) (by simpa using hd) (fun i hi => by simpa using h (i + 1) (by omega)) (by simpa using hne)
    simpa using this
theorem bitB_at (x : List Int) (q r : Nat) (hr : r < 8) : bitB x (8 * q + r) = ((x[q]?.getD 0).toNat).testBit (7 - r) := by
  unfold bitB
  rw [show (8 * q + r) / 8 = q from by omega, show (8 * q + r) % 8 = r from by omega]
/-- Where ids part, out of the first byte that differs. -/
theorem apN_at {a b : List Int} (ha : IdIn a) (hb : IdIn b) {d : Nat} (hd : d < 32) (h1 : ∀ i, i < d → a[i]?.getD 0 = b[i]?.getD 0) (h2 : a[d]?.getD 0 ≠ b[d]?.getD 0) :
    8 * (d : Int) + (8 - (Lib.bitLen ((a[d]?.getD 0).toNat ^^^ (b[d]?.getD 0).toNat) : Int)) = apN a b ∧ apN a b < 256 := by
  obtain ⟨t, t1, t2, t3, t4⟩ := byte_top (ha.bytes.at d) (hb.bytes.at d) h2
  have hs : IsSplit [a, b] (8 * d + t) := by
    refine ⟨by omega, fun j hj => ?_, a, by simp, b, by simp, ?_⟩
    · have hab : bitB a j = bitB b j := by
        unfold bitB
        by_cases hq : j / 8 < d
        · rw [h1 _ hq]
        · rw [show j / 8 = d from by omega]
          exact t3 _ (by omega)
      intro x hx y hy
      simp only [List.mem_cons, List.not_mem_nil, or_false] at hx hy
      rcases hx with rfl | rfl <;> rcases hy with rfl | rfl <;> first | rfl | exact hab | exact hab.symm
    · rw [bitB_at _ _ _ t1, bitB_at _ _ _ t1]; exact t4
  have he : apN a b = 8 * d + t := hs.eq
  rw [he]
  exact ⟨by rw [t2]; omega, by omega⟩

set_option maxRecDepth 100000 in
theorem len8_any (x : Int) (w : World) (h0 : 0 ≤ x) (h1 : x < 256) :
    Calls Tryd.prog 58 #[.int .u8 x] w fun e w' =>
      e = .returned (.int .i64 (Lib.bitLen x.toNat)) ∧ Below w.heap.size w w' := by
  have h1' : x ≤ 255 := by omega
  have e1 := Lib.len8_of x h0 h1'
  have e2 := Lib.bitLen_le8' x h0 h1'
  have H2 := Box.mk e2
  clear e2
  go_enter Tryd.func58, Tryd.ntmps58
  have hb0 := Below.refl w.heap.size w
  go_wp2_with fail
  go_ret
  have e2 := H2.out
  refine ⟨ret_int ?_, hb0⟩
  unfold wrap64; omega
theorem lz_any (x : Int) (w : World) (h0 : 0 ≤ x) (h1 : x < 256) :
    Calls Tryd.prog 49 #[.int .u8 x] w fun e w' =>
      e = .returned (.int .i64 (8 - Lib.bitLen x.toNat)) ∧ Below w.heap.size w w' := by
  have e2 := Lib.bitLen_le8' x h0 (by omega)
  have hL := fun w => len8_any x w h0 h1
  obtain ⟨L, hLe⟩ : ∃ L, Lib.bitLen x.toNat = L := ⟨_, rfl⟩
  rw [hLe] at hL e2
  rw [hLe]
  have H_hLe := Box.mk hLe
  have H_hL := Box.mk hL
  clear hLe hL
  go_enter Tryd.func49, Tryd.ntmps49
  have hb0 := Below.refl w.heap.size w
  go_wp2_with fail
  with_reducible refine (H_hL.out _).mono ?_
  rintro e w1 ⟨rfl, hc1⟩
  have hb1 : Below w.heap.size w w1 := bchain (by repeat' (first | with_reducible exact hb0 | with_reducible refine Below.drew ?_ | with_reducible refine below_drewN ?_ _ | with_reducible refine Below.alloc ?_ (by have := hb0.size; first | (simp; done) | (simp; omega) | omega) _ | with_reducible refine Below.setCell ?_ (by first | (simp; done) | (simp; omega) | omega) _)) hc1
  clear hc1 hb0
  go_wp2_with fail
  go_ret
  exact ⟨rfl, by repeat' (first | with_reducible exact hb1 | with_reducible refine Below.drew ?_ | with_reducible refine below_drewN ?_ _ | with_reducible refine Below.alloc ?_ (by have := hb1.size; first | (simp; done) | (simp; omega) | omega) _ | with_reducible refine Below.setCell ?_ (by first | (simp; done) | (simp; omega) | omega) _)⟩

theorem bit_any (x : List Int) (i : Nat) (w : World) (hx : IdIn x) (hi : i < 256) :
    Calls Tryd.prog 30 #[.agg (idC x).toArray, .int .i64 i] w fun e w' =>
      e = .returned (.bool (bitB x i)) ∧ Below w.heap.size w w' := by
  obtain ⟨q, r, hi, hq, hr⟩ : ∃ q r : Nat, i = 8 * q + r ∧ q < 32 ∧ r < 8 := ⟨i / 8, i % 8, by omega, by omega, by omega⟩
  have hbit : bitB x i = ((x[q]?.getD 0).toNat).testBit (7 - r) := by rw [hi]; exact bitB_at x q r hr
  obtain ⟨y, hy⟩ : ∃ y, x[q]?.getD 0 = y := ⟨_, rfl⟩
  have hy8 := hx.bytes.at q
  rw [hy] at hbit hy8
  obtain ⟨us, hus⟩ : ∃ us, us = idC x := ⟨_, rfl⟩
  rw [← hus]
  have hul : us.length = 32 := by rw [hus, idC_len hx]
  have cA : ∀ W : World, (W.alloc (.cells us.toArray 24)).cell? ⟨W.heap.size, q, none⟩ = some (.int .u8 y) := fun W => by
    have := (Blk.newA W _ _ 24 us rfl rfl).cell (j := q) (v := .int .u8 y) (by rw [hus]; unfold idC; rw [List.getElem?_map]; have hq' := hx.len; rw [List.getElem?_eq_getElem (by omega)] at hy ⊢; simpa using hy)
    exact this
  have c0 := cA w
  obtain ⟨bb, hbb⟩ : ∃ bb, bitB x i = bb := ⟨_, rfl⟩
  rw [hbb]
  have hqI : (q : Int) < 32 := by omega
  have d1 : ((i : Nat) : Int).tdiv 8 = q := by rw [Int.tdiv_eq_ediv_of_nonneg (by omega)]; omega
  have d2 : ((i : Nat) : Int).tmod 8 = r := by rw [Int.tmod_eq_emod_of_nonneg (by omega)]; omega
  have hrI : (r : Int) < 8 := by omega
  obtain ⟨hy0, hy1⟩ := hy8
  have H_hi := Box.mk hi
  have H_hbb := Box.mk hbb
  have H_hy := Box.mk hy
  have H_hbit := Box.mk hbit
  have H_hus := Box.mk hus
  have H_hul := Box.mk hul
  have H_cA := Box.mk cA
  clear hi hbb hy hbit hus hul cA
  have hs := shl_bit ⟨y.toNat, by omega⟩ ⟨r, hr⟩
  simp only [Int.toNat_of_nonneg hy0] at hs
  rw [← H_hbit.out, H_hbb.out] at hs
  have H_hs := Box.mk hs
  clear hs
  go_enter Tryd.func30, Tryd.ntmps30
  have hb0 := Below.refl w.heap.size w
  go_wp2_with fail
  go_ret
  exact ⟨ret_bool H_hs.out, (by repeat' (first | with_reducible exact hb0 | with_reducible refine Below.drew ?_ | with_reducible refine below_drewN ?_ _ | with_reducible refine Below.alloc ?_ (by have := hb0.size; first | (simp; done) | (simp; omega) | omega) _ | with_reducible refine Below.setCell ?_ (by first | (simp; done) | (simp; omega) | omega) _))⟩
theorem rbit_any (x : List Int) (i : Nat) (w : World) (hx : IdIn x) (hi : i < 256) :
    Calls Tryd.prog 31 #[.agg (idC x).toArray, .int .i64 i] w fun e w' =>
      e = .returned (.bool (bitB x i)) ∧ Below w.heap.size w w' := by
  obtain ⟨q, r, hi, hq, hr⟩ : ∃ q r : Nat, i = 8 * q + r ∧ q < 32 ∧ r < 8 := ⟨i / 8, i % 8, by omega, by omega, by omega⟩
  have hbit : bitB x i = ((x[q]?.getD 0).toNat).testBit (7 - r) := by rw [hi]; exact bitB_at x q r hr
  obtain ⟨y, hy⟩ : ∃ y, x[q]?.getD 0 = y := ⟨_, rfl⟩
  have hy8 := hx.bytes.at q
  rw [hy] at hbit hy8
  obtain ⟨us, hus⟩ : ∃ us, us = idC x := ⟨_, rfl⟩
  rw [← hus]
  have hul : us.length = 32 := by rw [hus, idC_len hx]
  have cA : ∀ W : World, (W.alloc (.cells us.toArray 24)).cell? ⟨W.heap.size, q, none⟩ = some (.int .u8 y) := fun W => by
    have := (Blk.newA W _ _ 24 us rfl rfl).cell (j := q) (v := .int .u8 y) (by rw [hus]; unfold idC; rw [List.getElem?_map]; have hq' := hx.len; rw [List.getElem?_eq_getElem (by omega)] at hy ⊢; simpa using hy)
    exact this
  have c0 := cA w
  obtain ⟨bb, hbb⟩ : ∃ bb, bitB x i = bb := ⟨_, rfl⟩
  rw [hbb]
  have hqI : (q : Int) < 32 := by omega
  have d1 : ((i : Nat) : Int).tdiv 8 = q := by rw [Int.tdiv_eq_ediv_of_nonneg (by omega)]; omega
  have d2 : ((i : Nat) : Int).tmod 8 = r := by rw [Int.tmod_eq_emod_of_nonneg (by omega)]; omega
  have hrI : (r : Int) < 8 := by omega
  obtain ⟨hy0, hy1⟩ := hy8
  have H_hi := Box.mk hi
  have H_hbb := Box.mk hbb
  have H_hy := Box.mk hy
  have H_hbit := Box.mk hbit
  have H_hus := Box.mk hus
  have H_hul := Box.mk hul
  have H_cA := Box.mk cA
  clear hi hbb hy hbit hus hul cA
  have hs := shr_bit ⟨y.toNat, by omega⟩ ⟨r, hr⟩
  simp only [Int.toNat_of_nonneg hy0] at hs
  rw [← H_hbit.out, H_hbb.out] at hs
  have H_hs := Box.mk hs
  clear hs
  go_enter Tryd.func31, Tryd.ntmps31
  have hb0 := Below.refl w.heap.size w
  go_wp2_with fail
  go_region
  all_goals go_wp2_with fail
  all_goals go_ret
  all_goals exact ⟨ret_bool H_hs.out, (by repeat' (first | with_reducible exact hb0 | with_reducible refine Below.drew ?_ | with_reducible refine below_drewN ?_ _ | with_reducible refine Below.alloc ?_ (by have := hb0.size; first | (simp; done) | (simp; omega) | omega) _ | with_reducible refine Below.setCell ?_ (by first | (simp; done) | (simp; omega) | omega) _))⟩

end Go.Proofs.YtfabcdpmnbeflaaDoor

/- Where two ids part; an id less than another one. -/
namespace Go.Proofs.YtfabcdpmnbeflaaDoor
set_option linter.unusedSimpArgs false
set_option linter.unusedVariables false
set_option linter.unnecessarySimpa false
open Go.RowKit

set_option maxHeartbeats 1000000 in
theorem apart_any (a b : List Int) (w : World) (ha : IdIn a) (hb : IdIn b) :
    Calls Tryd.prog 34 #[.agg (idC a).toArray, .agg (idC b).toArray] w fun e w' =>
      e = .returned (.int .i64 (apN a b)) ∧ Below w.heap.size w w' := by
  by_cases hab : a = b
  · subst hab
    have heq := fun w => eq_ids a a ha.len ha.len w
    rw [apN_self]
    have hb := ha
    obtain ⟨us, hus⟩ : ∃ us, us = idC a := ⟨_, rfl⟩
    have hiu := idC_info ha
    rw [← hus] at hiu
    rw [← hus]
    have hbA : Blk ((w.alloc (.cells us.toArray 24)).alloc (.cells us.toArray 24)) w.heap.size 24 us := (Blk.newA w _ _ _ us rfl rfl).alloc _
    have hbB : Blk ((w.alloc (.cells us.toArray 24)).alloc (.cells us.toArray 24)) (w.heap.size + 1) 24 us := Blk.newA _ _ _ _ us (by simp) rfl
    have heq' : ∀ w, (Op.equalIn 10000 24 (.agg us.toArray) (.agg us.toArray)).run Tryd.prog w = .ok true w := fun w => by
      have := heq w
      rw [hus]; unfold idC; simpa using this
    have H_hus := Box.mk hus
    have H_ha := Box.mk ha
    have H_hb := Box.mk hb
    have H_hbA := Box.mk hbA
    have H_hbB := Box.mk hbB
    have H_hiu := Box.mk hiu
    clear hus ha hb hbA hbB hiu
    clear heq
    go_enter Tryd.func34, Tryd.ntmps34
    have hb0 := Below.refl w.heap.size w
    go_wp2_with (first | (refine wpList_load_blk rfl 24 _ rfl w.heap.size (by rfl) 24 us _ H_hbA.out Tryd.underlying24 rfl H_hiu.out ?_) | (refine wpList_load_blk rfl 24 _ rfl (w.heap.size + 1) (by rfl) 24 us _ H_hbB.out Tryd.underlying24 rfl H_hiu.out ?_))
    go_ret
    exact ⟨rfl, (by repeat' (first | with_reducible exact hb0 | with_reducible refine Below.drew ?_ | with_reducible refine below_drewN ?_ _ | with_reducible refine Below.alloc ?_ (by have := hb0.size; first | (simp; done) | (simp; omega) | omega) _ | with_reducible refine Below.setCell ?_ (by first | (simp; done) | (simp; omega) | omega) _))⟩
  · have heq := fun w => eq_ids a b ha.len hb.len w
    have hbe : (a == b) = false := by simpa using hab
    obtain ⟨d, d1, d2, d3⟩ := first_ne (by rw [ha.len, hb.len]) hab
    rw [ha.len] at d1
    obtain ⟨hap, hap2⟩ := apN_at ha hb d1 d2 d3
    obtain ⟨N, hN⟩ : ∃ N, apN a b = N := ⟨_, rfl⟩
    rw [hN] at hap hap2
    rw [hN]
    obtain ⟨us, hus⟩ : ∃ us, us = idC a := ⟨_, rfl⟩
    obtain ⟨vs, hvs⟩ : ∃ vs, vs = idC b := ⟨_, rfl⟩
    have hiu := idC_info ha
    have hiv := idC_info hb
    rw [← hus] at hiu
    rw [← hvs] at hiv
    rw [← hus, ← hvs]
    have hbA : Blk ((w.alloc (.cells us.toArray 24)).alloc (.cells vs.toArray 24)) w.heap.size 24 us := (Blk.newA w _ _ _ us rfl rfl).alloc _
    have hbB : Blk ((w.alloc (.cells us.toArray 24)).alloc (.cells vs.toArray 24)) (w.heap.size + 1) 24 vs := Blk.newA _ _ _ _ vs (by simp) rfl
    have hca : ∀ (W : World) (B j : Nat), Blk W B 24 us → j < 32 → W.cell? ⟨B, j, none⟩ = some (.int .u8 (a[j]?.getD 0)) := fun W B j h hj => Blk.cellI (xs := a) (by rw [hus] at h; exact h) (by rw [ha.len]; exact hj)
    have hcb : ∀ (W : World) (B j : Nat), Blk W B 24 vs → j < 32 → W.cell? ⟨B, j, none⟩ = some (.int .u8 (b[j]?.getD 0)) := fun W B j h hj => Blk.cellI (xs := b) (by rw [hvs] at h; exact h) (by rw [hb.len]; exact hj)
    have heq' : ∀ w, (Op.equalIn 10000 24 (.agg us.toArray) (.agg vs.toArray)).run Tryd.prog w = .ok false w := fun w => by
      have := heq w
      rw [hbe] at this
      rw [hus, hvs]; exact this
    have hx8 := ha.bytes.at d
    have hy8 := hb.bytes.at d
    have hlz := fun w => lz_any ((((a[d]?.getD 0).toNat ^^^ (b[d]?.getD 0).toNat : Nat)) : Int) w (by omega) (by have := Nat.xor_lt_two_pow (x := (a[d]?.getD 0).toNat) (y := (b[d]?.getD 0).toNat) (n := 8) (by omega) (by omega); omega)
    have hxz := xor_u8 hx8 hy8
    simp only [Int.toNat_natCast] at hlz
    obtain ⟨z, hz⟩ : ∃ z, (a[d]?.getD 0).toNat ^^^ (b[d]?.getD 0).toNat = z := ⟨_, rfl⟩
    rw [hz] at hlz hxz hap
    obtain ⟨L, hL⟩ : ∃ L, Lib.bitLen z = L := ⟨_, rfl⟩
    rw [hL] at hap
    simp only [hL] at hlz
    have hL8 : L ≤ 8 := by have := Nat.xor_lt_two_pow (x := (a[d]?.getD 0).toNat) (y := (b[d]?.getD 0).toNat) (n := 8) (by omega) (by omega); have h2 := top_le ⟨z, by omega⟩; simp only at h2; omega
    obtain ⟨x, hx⟩ : ∃ x, a[d]?.getD 0 = x := ⟨_, rfl⟩
    obtain ⟨y, hy⟩ : ∃ y, b[d]?.getD 0 = y := ⟨_, rfl⟩
    rw [hx, hy] at hxz d3
    rw [hx] at hx8
    rw [hy] at hy8
    have hxy : (x == y) = false := by simpa using d3
    have H_hus := Box.mk hus
    have H_hvs := Box.mk hvs
    have H_ha := Box.mk ha
    have H_hb := Box.mk hb
    have H_hbA := Box.mk hbA
    have H_hbB := Box.mk hbB
    have H_hiu := Box.mk hiu
    have H_hiv := Box.mk hiv
    have H_hca := Box.mk hca
    have H_hcb := Box.mk hcb
    have H_heq := Box.mk heq
    have H_hbe := Box.mk hbe
    have H_hab := Box.mk hab
    have H_d2 := Box.mk d2
    have H_d3 := Box.mk d3
    have H_hap := Box.mk hap
    have H_hN := Box.mk hN
    have H_hz := Box.mk hz
    have H_hL := Box.mk hL
    have H_hx := Box.mk hx
    have H_hy := Box.mk hy
    have H_hlz := Box.mk hlz
    have H_hx8 := Box.mk hx8
    have H_hy8 := Box.mk hy8
    clear hus hvs ha hb hbA hbB hiu hiv hca hcb heq hbe hab d2 d3 hap hN hz hL hx hy hlz hx8 hy8
    go_enter Tryd.func34, Tryd.ntmps34
    have hb0 := Below.refl w.heap.size w
    go_wp2_with (first | (refine wpList_load_blk rfl 24 _ rfl w.heap.size (by rfl) 24 us _ H_hbA.out Tryd.underlying24 rfl H_hiu.out ?_) | (refine wpList_load_blk rfl 24 _ rfl (w.heap.size + 1) (by rfl) 24 vs _ H_hbB.out Tryd.underlying24 rfl H_hiv.out ?_))
    refine wp_gen fun w1 hc1 => ?_
    have hbA1 := H_hbA.out.later hc1
    have hbB1 := H_hbB.out.later hc1
    have hb1 : Below w.heap.size w w1 := bchain (by repeat' (first | with_reducible exact hb0 | with_reducible refine Below.drew ?_ | with_reducible refine below_drewN ?_ _ | with_reducible refine Below.alloc ?_ (by have := hb0.size; first | (simp; done) | (simp; omega) | omega) _ | with_reducible refine Below.setCell ?_ (by first | (simp; done) | (simp; omega) | omega) _)) hc1
    clear hc1
    go_loopw [5] (fun q wr => ∃ k : Nat, k ≤ d ∧ q = .int .i64 k ∧ Below w1.heap.size w1 wr) (fun q _ => d - (intOf q).toNat)
    case atStart => exact ⟨0, Nat.zero_le _, rfl, Below.refl _ _⟩
    case round =>
      obtain ⟨k, hk, rfl, hbw⟩ := hrel
      have hkI : (k : Int) < 32 := by omega
      have cA := H_hca.out wr _ k (hbA1.later hbw) (by omega)
      have cB := H_hcb.out wr _ k (hbB1.later hbw) (by omega)
      have hbW := bchain hb1 hbw
      by_cases hkd : k = d
      · subst hkd
        rw [H_hx.out] at cA
        rw [H_hy.out] at cB
        go_wp2_with fail
        refine wp_gen fun w11 hc11 => ?_
        have hb11 : Below w.heap.size w w11 := bchain (by repeat' (first | with_reducible exact hbW | with_reducible refine Below.drew ?_ | with_reducible refine below_drewN ?_ _ | with_reducible refine Below.alloc ?_ (by have := hbW.size; first | (simp; done) | (simp; omega) | omega) _ | with_reducible refine Below.setCell ?_ (by first | (simp; done) | (simp; omega) | omega) _)) hc11
        have cA' := cell_on (cell_later hc11 cA)
        have cB' := cell_on (cell_later hc11 cB)
        clear cA cB
        refine wp_region_on (by kernel_rfl) (by kernel_rfl) ?_
        repeat (go_big_quiet_step (fail))
        refine wpQuiet_nil ?_
        intro w12 hc12
        have hb12 : Below w.heap.size w w12 := bchain (by repeat' (first | with_reducible exact hb11 | with_reducible refine Below.drew ?_ | with_reducible refine below_drewN ?_ _ | with_reducible refine Below.alloc ?_ (by have := hb11.size; first | (simp; done) | (simp; omega) | omega) _ | with_reducible refine Below.setCell ?_ (by first | (simp; done) | (simp; omega) | omega) _)) hc12
        clear cA' cB'
        have cA2 := H_hca.out _ _ k (hbA1.later (bchain hbw (bchain hc11 hc12))) (by omega)
        have cB2 := H_hcb.out _ _ k (hbB1.later (bchain hbw (bchain hc11 hc12))) (by omega)
        rw [H_hx.out] at cA2
        rw [H_hy.out] at cB2
        go_wp2_with fail
        refine wp_gen fun w13 hc13 => ?_
        have hb13 : Below w.heap.size w w13 := bchain (by repeat' (first | with_reducible exact hb12 | with_reducible refine Below.drew ?_ | with_reducible refine below_drewN ?_ _ | with_reducible refine Below.alloc ?_ (by have := hb12.size; first | (simp; done) | (simp; omega) | omega) _ | with_reducible refine Below.setCell ?_ (by first | (simp; done) | (simp; omega) | omega) _)) hc13
        have cA3 := cell_on (cell_later hc13 cA2)
        have cB3 := cell_on (cell_later hc13 cB2)
        clear cA2 cB2
        refine wp_region_on (by kernel_rfl) (by kernel_rfl) ?_
        repeat (go_big_quiet_step ((first | (go_at_call 49; with_reducible exact calls_on (H_hlz.out _)))))
        refine wpQuiet_nil ?_
        intro w14 hc14
        have hb14 : Below w.heap.size w w14 := bchain (by repeat' (first | with_reducible exact hb13 | with_reducible refine Below.drew ?_ | with_reducible refine below_drewN ?_ _ | with_reducible refine Below.alloc ?_ (by have := hb13.size; first | (simp; done) | (simp; omega) | omega) _ | with_reducible refine Below.setCell ?_ (by first | (simp; done) | (simp; omega) | omega) _)) hc14
        go_wp2_with fail
        go_ret
        exact ⟨ret_int H_hap.out, (by repeat' (first | with_reducible exact hb14 | with_reducible refine Below.drew ?_ | with_reducible refine below_drewN ?_ _ | with_reducible refine Below.alloc ?_ (by have := hb14.size; first | (simp; done) | (simp; omega) | omega) _ | with_reducible refine Below.setCell ?_ (by first | (simp; done) | (simp; omega) | omega) _))⟩
      · have he := H_d2.out k (by omega)
        rw [he] at cA
        obtain ⟨u, hu⟩ : ∃ u, b[k]?.getD 0 = u := ⟨_, rfl⟩
        rw [hu] at cA cB
        have H_hu := Box.mk hu
        have H_he := Box.mk he
        clear hu he
        go_wp2_with fail
        refine wp_gen fun w11 hc11 => ?_
        have hb11 : Below w.heap.size w w11 := bchain (by repeat' (first | with_reducible exact hbW | with_reducible refine Below.drew ?_ | with_reducible refine below_drewN ?_ _ | with_reducible refine Below.alloc ?_ (by have := hbW.size; first | (simp; done) | (simp; omega) | omega) _ | with_reducible refine Below.setCell ?_ (by first | (simp; done) | (simp; omega) | omega) _)) hc11
        have cA' := cell_on (cell_later hc11 cA)
        have cB' := cell_on (cell_later hc11 cB)
        clear cA cB
        refine wp_region_on (by kernel_rfl) (by kernel_rfl) ?_
        repeat (go_big_quiet_step (fail))
        refine wpQuiet_nil ?_
        intro w12 hc12
        have hb12 : Below w.heap.size w w12 := bchain (by repeat' (first | with_reducible exact hb11 | with_reducible refine Below.drew ?_ | with_reducible refine below_drewN ?_ _ | with_reducible refine Below.alloc ?_ (by have := hb11.size; first | (simp; done) | (simp; omega) | omega) _ | with_reducible refine Below.setCell ?_ (by first | (simp; done) | (simp; omega) | omega) _)) hc12
        clear cA' cB'
        go_wp2_with fail
        go_roundw
        case rel => exact ⟨k + 1, by omega, by go_num, bchain hbw (bchain hc11 hc12)⟩
        case measure => simp [intOf]; omega

theorem cmp_eq_neg (a : List Int) : decide (cmpZ a a < 0) = false := by rw [cmpZ_self]; rfl
set_option maxHeartbeats 1000000 in
theorem rless_any (a b : List Int) (w : World) (ha : IdIn a) (hb : IdIn b) :
    Calls Tryd.prog 29 #[.agg (idC a).toArray, .agg (idC b).toArray] w fun e w' =>
      e = .returned (.bool (decide (cmpZ a b < 0))) ∧ Below w.heap.size w w' := by
  by_cases hab : a = b
  · have hcd : decide (cmpZ a b < 0) = false := by rw [← hab]; exact cmp_eq_neg a
    rw [hcd]
    obtain ⟨us, hus⟩ : ∃ us, us = idC a := ⟨_, rfl⟩
    obtain ⟨vs, hvs⟩ : ∃ vs, vs = idC b := ⟨_, rfl⟩
    have hiu := idC_info ha
    have hiv := idC_info hb
    rw [← hus] at hiu
    rw [← hvs] at hiv
    rw [← hus, ← hvs]
    have hbA : Blk ((w.alloc (.cells us.toArray 24)).alloc (.cells vs.toArray 24)) w.heap.size 24 us := (Blk.newA w _ _ _ us rfl rfl).alloc _
    have hbB : Blk ((w.alloc (.cells us.toArray 24)).alloc (.cells vs.toArray 24)) (w.heap.size + 1) 24 vs := Blk.newA _ _ _ _ vs (by simp) rfl
    have hca : ∀ (W : World) (B j : Nat), Blk W B 24 us → j < 32 → W.cell? ⟨B, j, none⟩ = some (.int .u8 (a[j]?.getD 0)) := fun W B j h hj => Blk.cellI (xs := a) (by rw [hus] at h; exact h) (by rw [ha.len]; exact hj)
    have hcb : ∀ (W : World) (B j : Nat), Blk W B 24 vs → j < 32 → W.cell? ⟨B, j, none⟩ = some (.int .u8 (b[j]?.getD 0)) := fun W B j h hj => Blk.cellI (xs := b) (by rw [hvs] at h; exact h) (by rw [hb.len]; exact hj)
    have H_hus := Box.mk hus
    have H_hvs := Box.mk hvs
    have H_ha := Box.mk ha
    have H_hb := Box.mk hb
    have H_hbA := Box.mk hbA
    have H_hbB := Box.mk hbB
    have H_hiu := Box.mk hiu
    have H_hiv := Box.mk hiv
    have H_hca := Box.mk hca
    have H_hcb := Box.mk hcb
    have H_hcd := Box.mk hcd
    have H_hab := Box.mk hab
    clear hus hvs ha hb hbA hbB hiu hiv hca hcb hcd hab
    go_enter Tryd.func29, Tryd.ntmps29
    have hb0 := Below.refl w.heap.size w
    go_wp2_with fail
    refine wp_gen fun w1 hc1 => ?_
    have hbA1 := H_hbA.out.later hc1
    have hbB1 := H_hbB.out.later hc1
    have hb1 : Below w.heap.size w w1 := bchain (by repeat' (first | with_reducible exact hb0 | with_reducible refine Below.drew ?_ | with_reducible refine below_drewN ?_ _ | with_reducible refine Below.alloc ?_ (by have := hb0.size; first | (simp; done) | (simp; omega) | omega) _ | with_reducible refine Below.setCell ?_ (by first | (simp; done) | (simp; omega) | omega) _)) hc1
    clear hc1
    go_loopw [5] (fun q wr => ∃ k : Nat, k ≤ 32 ∧ q = .int .i64 k ∧ Below w1.heap.size w1 wr) (fun q _ => 32 - (intOf q).toNat)
    case atStart => exact ⟨0, Nat.zero_le _, rfl, Below.refl _ _⟩
    case round =>
      obtain ⟨k, hk, rfl, hbw⟩ := hrel
      have hbW := bchain hb1 hbw
      by_cases hlt : k < 32
      · have hkI : (k : Int) < 32 := by omega
        have cA := H_hca.out wr _ k (hbA1.later hbw) (by omega)
        have cB := H_hcb.out wr _ k (hbB1.later hbw) (by omega)
        rw [← H_hab.out] at cB
        obtain ⟨u, hu⟩ : ∃ u, a[k]?.getD 0 = u := ⟨_, rfl⟩
        rw [hu] at cA cB
        have H_hu := Box.mk hu
        clear hu
        go_wp2_with fail
        refine wp_gen fun w11 hc11 => ?_
        have hb11 : Below w.heap.size w w11 := bchain (by repeat' (first | with_reducible exact hbW | with_reducible refine Below.drew ?_ | with_reducible refine below_drewN ?_ _ | with_reducible refine Below.alloc ?_ (by have := hbW.size; first | (simp; done) | (simp; omega) | omega) _ | with_reducible refine Below.setCell ?_ (by first | (simp; done) | (simp; omega) | omega) _)) hc11
        have cA' := cell_on (cell_later hc11 cA)
        have cB' := cell_on (cell_later hc11 cB)
        clear cA cB
        refine wp_region_on (by kernel_rfl) (by kernel_rfl) ?_
        repeat (go_big_quiet_step (fail))
        refine wpQuiet_nil ?_
        intro w12 hc12
        have hb12 : Below w.heap.size w w12 := bchain (by repeat' (first | with_reducible exact hb11 | with_reducible refine Below.drew ?_ | with_reducible refine below_drewN ?_ _ | with_reducible refine Below.alloc ?_ (by have := hb11.size; first | (simp; done) | (simp; omega) | omega) _ | with_reducible refine Below.setCell ?_ (by first | (simp; done) | (simp; omega) | omega) _)) hc12
        clear cA' cB'
        go_wp2_with fail
        go_roundw
        case rel => exact ⟨k + 1, by omega, by go_num, bchain hbw (bchain hc11 hc12)⟩
        case measure => simp [intOf]; omega
      · have hge : (32 : Int) ≤ (k : Int) := by omega
        go_wp2_with fail
        go_ret
        exact ⟨rfl, hbW⟩
  · obtain ⟨d, d1, d2, d3⟩ := first_ne (by rw [ha.len, hb.len]) hab
    have hcm := cmp_at (by rw [ha.len, hb.len]) d1 d2 d3
    rw [ha.len] at d1
    obtain ⟨us, hus⟩ : ∃ us, us = idC a := ⟨_, rfl⟩
    obtain ⟨vs, hvs⟩ : ∃ vs, vs = idC b := ⟨_, rfl⟩
    have hiu := idC_info ha
    have hiv := idC_info hb
    rw [← hus] at hiu
    rw [← hvs] at hiv
    rw [← hus, ← hvs]
    have hbA : Blk ((w.alloc (.cells us.toArray 24)).alloc (.cells vs.toArray 24)) w.heap.size 24 us := (Blk.newA w _ _ _ us rfl rfl).alloc _
    have hbB : Blk ((w.alloc (.cells us.toArray 24)).alloc (.cells vs.toArray 24)) (w.heap.size + 1) 24 vs := Blk.newA _ _ _ _ vs (by simp) rfl
    have hca : ∀ (W : World) (B j : Nat), Blk W B 24 us → j < 32 → W.cell? ⟨B, j, none⟩ = some (.int .u8 (a[j]?.getD 0)) := fun W B j h hj => Blk.cellI (xs := a) (by rw [hus] at h; exact h) (by rw [ha.len]; exact hj)
    have hcb : ∀ (W : World) (B j : Nat), Blk W B 24 vs → j < 32 → W.cell? ⟨B, j, none⟩ = some (.int .u8 (b[j]?.getD 0)) := fun W B j h hj => Blk.cellI (xs := b) (by rw [hvs] at h; exact h) (by rw [hb.len]; exact hj)
    have hx8 := ha.bytes.at d
    have hy8 := hb.bytes.at d
    obtain ⟨x, hx⟩ : ∃ x, a[d]?.getD 0 = x := ⟨_, rfl⟩
    obtain ⟨y, hy⟩ : ∃ y, b[d]?.getD 0 = y := ⟨_, rfl⟩
    rw [hx, hy] at d3 hcm
    rw [hx] at hx8
    rw [hy] at hy8
    have hxy : (x == y) = false := by simpa using d3
    have hcd : decide (cmpZ a b < 0) = decide (x < y) := by simp [hcm]
    rw [hcd]
    have H_hus := Box.mk hus
    have H_hvs := Box.mk hvs
    have H_ha := Box.mk ha
    have H_hb := Box.mk hb
    have H_hbA := Box.mk hbA
    have H_hbB := Box.mk hbB
    have H_hiu := Box.mk hiu
    have H_hiv := Box.mk hiv
    have H_hca := Box.mk hca
    have H_hcb := Box.mk hcb
    have H_hab := Box.mk hab
    have H_d2 := Box.mk d2
    have H_d3 := Box.mk d3
    have H_hx := Box.mk hx
    have H_hy := Box.mk hy
    have H_hx8 := Box.mk hx8
    have H_hy8 := Box.mk hy8
    have H_hcm := Box.mk hcm
    have H_hcd := Box.mk hcd
    clear hus hvs ha hb hbA hbB hiu hiv hca hcb hab d2 d3 hx hy hx8 hy8 hcm hcd
    go_enter Tryd.func29, Tryd.ntmps29
    have hb0 := Below.refl w.heap.size w
    go_wp2_with fail
    refine wp_gen fun w1 hc1 => ?_
    have hbA1 := H_hbA.out.later hc1
    have hbB1 := H_hbB.out.later hc1
    have hb1 : Below w.heap.size w w1 := bchain (by repeat' (first | with_reducible exact hb0 | with_reducible refine Below.drew ?_ | with_reducible refine below_drewN ?_ _ | with_reducible refine Below.alloc ?_ (by have := hb0.size; first | (simp; done) | (simp; omega) | omega) _ | with_reducible refine Below.setCell ?_ (by first | (simp; done) | (simp; omega) | omega) _)) hc1
    clear hc1
    go_loopw [5] (fun q wr => ∃ k : Nat, k ≤ d ∧ q = .int .i64 k ∧ Below w1.heap.size w1 wr) (fun q _ => d - (intOf q).toNat)
    case atStart => exact ⟨0, Nat.zero_le _, rfl, Below.refl _ _⟩
    case round =>
      obtain ⟨k, hk, rfl, hbw⟩ := hrel
      have hkI : (k : Int) < 32 := by omega
      have cA := H_hca.out wr _ k (hbA1.later hbw) (by omega)
      have cB := H_hcb.out wr _ k (hbB1.later hbw) (by omega)
      have hbW := bchain hb1 hbw
      by_cases hkd : k = d
      · subst hkd
        rw [H_hx.out] at cA
        rw [H_hy.out] at cB
        go_wp2_with fail
        refine wp_gen fun w11 hc11 => ?_
        have hb11 : Below w.heap.size w w11 := bchain (by repeat' (first | with_reducible exact hbW | with_reducible refine Below.drew ?_ | with_reducible refine below_drewN ?_ _ | with_reducible refine Below.alloc ?_ (by have := hbW.size; first | (simp; done) | (simp; omega) | omega) _ | with_reducible refine Below.setCell ?_ (by first | (simp; done) | (simp; omega) | omega) _)) hc11
        have cA' := cell_on (cell_later hc11 cA)
        have cB' := cell_on (cell_later hc11 cB)
        clear cA cB
        refine wp_region_on (by kernel_rfl) (by kernel_rfl) ?_
        repeat (go_big_quiet_step (fail))
        refine wpQuiet_nil ?_
        intro w12 hc12
        have hb12 : Below w.heap.size w w12 := bchain (by repeat' (first | with_reducible exact hb11 | with_reducible refine Below.drew ?_ | with_reducible refine below_drewN ?_ _ | with_reducible refine Below.alloc ?_ (by have := hb11.size; first | (simp; done) | (simp; omega) | omega) _ | with_reducible refine Below.setCell ?_ (by first | (simp; done) | (simp; omega) | omega) _)) hc12
        clear cA' cB'
        have cA2 := H_hca.out _ _ k (hbA1.later (bchain hbw (bchain hc11 hc12))) (by omega)
        have cB2 := H_hcb.out _ _ k (hbB1.later (bchain hbw (bchain hc11 hc12))) (by omega)
        rw [H_hx.out] at cA2
        rw [H_hy.out] at cB2
        go_wp2_with fail
        refine wp_gen fun w13 hc13 => ?_
        have hb13 : Below w.heap.size w w13 := bchain (by repeat' (first | with_reducible exact hb12 | with_reducible refine Below.drew ?_ | with_reducible refine below_drewN ?_ _ | with_reducible refine Below.alloc ?_ (by have := hb12.size; first | (simp; done) | (simp; omega) | omega) _ | with_reducible refine Below.setCell ?_ (by first | (simp; done) | (simp; omega) | omega) _)) hc13
        have cA3 := cell_on (cell_later hc13 cA2)
        have cB3 := cell_on (cell_later hc13 cB2)
        clear cA2 cB2
        refine wp_region_on (by kernel_rfl) (by kernel_rfl) ?_
        repeat (go_big_quiet_step (fail))
        refine wpQuiet_nil ?_
        intro w14 hc14
        have hb14 : Below w.heap.size w w14 := bchain (by repeat' (first | with_reducible exact hb13 | with_reducible refine Below.drew ?_ | with_reducible refine below_drewN ?_ _ | with_reducible refine Below.alloc ?_ (by have := hb13.size; first | (simp; done) | (simp; omega) | omega) _ | with_reducible refine Below.setCell ?_ (by first | (simp; done) | (simp; omega) | omega) _)) hc14
        go_wp2_with fail
        go_ret
        exact ⟨rfl, (by repeat' (first | with_reducible exact hb14 | with_reducible refine Below.drew ?_ | with_reducible refine below_drewN ?_ _ | with_reducible refine Below.alloc ?_ (by have := hb14.size; first | (simp; done) | (simp; omega) | omega) _ | with_reducible refine Below.setCell ?_ (by first | (simp; done) | (simp; omega) | omega) _))⟩
      · have he := H_d2.out k (by omega)
        rw [he] at cA
        obtain ⟨u, hu⟩ : ∃ u, b[k]?.getD 0 = u := ⟨_, rfl⟩
        rw [hu] at cA cB
        have H_hu := Box.mk hu
        have H_he := Box.mk he
        clear hu he
        go_wp2_with fail
        refine wp_gen fun w11 hc11 => ?_
        have hb11 : Below w.heap.size w w11 := bchain (by repeat' (first | with_reducible exact hbW | with_reducible refine Below.drew ?_ | with_reducible refine below_drewN ?_ _ | with_reducible refine Below.alloc ?_ (by have := hbW.size; first | (simp; done) | (simp; omega) | omega) _ | with_reducible refine Below.setCell ?_ (by first | (simp; done) | (simp; omega) | omega) _)) hc11
        have cA' := cell_on (cell_later hc11 cA)
        have cB' := cell_on (cell_later hc11 cB)
        clear cA cB
        refine wp_region_on (by kernel_rfl) (by kernel_rfl) ?_
        repeat (go_big_quiet_step (fail))
        refine wpQuiet_nil ?_
        intro w12 hc12
        have hb12 : Below w.heap.size w w12 := bchain (by repeat' (first | with_reducible exact hb11 | with_reducible refine Below.drew ?_ | with_reducible refine below_drewN ?_ _ | with_reducible refine Below.alloc ?_ (by have := hb11.size; first | (simp; done) | (simp; omega) | omega) _ | with_reducible refine Below.setCell ?_ (by first | (simp; done) | (simp; omega) | omega) _)) hc12
        clear cA' cB'
        go_wp2_with fail
        go_roundw
        case rel => exact ⟨k + 1, by omega, by go_num, bchain hbw (bchain hc11 hc12)⟩
        case measure => simp [intOf]; omega

end Go.Proofs.YtfabcdpmnbeflaaDoor

/- Increasing ids cut at a bit: of the program (two parts of the slice) and of the reference (new rows). -/
namespace Go.Proofs.YtfabcdpmnbeflaaDoor
set_option linter.unusedSimpArgs false
set_option linter.unusedVariables false
set_option linter.unnecessarySimpa false
open Go.RowKit

theorem cut_at {l : List (List Int)} {i : Nat} (h : zerosL l i ++ onesL l i = l) : (zerosL l i).length ≤ l.length ∧ (∀ j, j < (zerosL l i).length → bitB (pc l j) i = false) ∧ ((zerosL l i).length < l.length → bitB (pc l (zerosL l i).length) i = true) := by
  have hl := cut_lens l i
  have hz : ∀ x ∈ zerosL l i, bitB x i = false := fun x hx => by have := (List.mem_filter.1 hx).2; simpa using this
  have ho : ∀ x ∈ onesL l i, bitB x i = true := fun x hx => (List.mem_filter.1 hx).2
  generalize zerosL l i = z at *
  generalize onesL l i = o at *
  subst h
  refine ⟨by simp, fun j hj => ?_, fun hj => ?_⟩
  · have : pc (z ++ o) j = z[j] := by unfold pc; rw [List.getElem?_append_left hj, List.getElem?_eq_getElem hj]; rfl
    rw [this]; exact hz _ (List.getElem_mem hj)
  · have h2 : 0 < o.length := by simp at hj; omega
    have : pc (z ++ o) z.length = o[0] := by unfold pc; rw [List.getElem?_append_right (Nat.le_refl _), Nat.sub_self, List.getElem?_eq_getElem h2]; rfl
    rw [this]; exact ho _ (List.getElem_mem h2)

theorem cutf_any (x : List Int) (i B : Nat) (w : World) (hx : IdIn x) (hi : i < 256) (hB : w.cell? ⟨B, 0, none⟩ = some (.int .i64 i)) :
    Calls Tryd.prog 51 #[.agg (idC x).toArray, .pointer (some ⟨B, 0, none⟩)] w fun e w' =>
      e = .returned (.bool (bitB x i)) ∧ Below w.heap.size w w' := by
  obtain ⟨us, hus⟩ : ∃ us, us = idC x := ⟨_, rfl⟩
  have hc := fun w => bit_any x i w hx hi
  have hul := idC_info hx
  rw [← hus] at hul
  simp only [← hus] at hc
  rw [← hus]
  have hbl := World.block_lt_of_cell? _ _ hB
  simp only at hbl
  have hne : B ≠ w.heap.size := by omega
  have H_hus := Box.mk hus
  have H_hc := Box.mk hc
  have H_hi := Box.mk hi
  have H_hul := Box.mk hul
  clear hus hc hi hul
  go_enter Tryd.func51, Tryd.ntmps51
  have hb0 := Below.refl w.heap.size w
  go_wp2_with (refine wpList_load_blk rfl 24 _ rfl w.heap.size (by rfl) 24 us _ (Blk.newA _ _ _ _ us rfl rfl) Tryd.underlying24 rfl H_hul.out ?_)
  with_reducible refine (H_hc.out _).mono ?_
  rintro e w1 ⟨rfl, hc1⟩
  have hb1 : Below w.heap.size w w1 := bchain (by repeat' (first | with_reducible exact hb0 | with_reducible refine Below.drew ?_ | with_reducible refine below_drewN ?_ _ | with_reducible refine Below.alloc ?_ (by have := hb0.size; first | (simp; done) | (simp; omega) | omega) _ | with_reducible refine Below.setCell ?_ (by first | (simp; done) | (simp; omega) | omega) _)) hc1
  go_wp2_with fail
  go_ret
  exact ⟨rfl, (by repeat' (first | with_reducible exact hb1 | with_reducible refine Below.drew ?_ | with_reducible refine below_drewN ?_ _ | with_reducible refine Below.alloc ?_ (by have := hb1.size; first | (simp; done) | (simp; omega) | omega) _ | with_reducible refine Below.setCell ?_ (by first | (simp; done) | (simp; omega) | omega) _))⟩

set_option maxHeartbeats 1000000 in
theorem idxF_any (l : List (List Int)) (a : Option Addr) (n c i B z : Nat) (w : World) (h : IdsIn w a c l) (hn : n = l.length) (hm : n ≤ 1000) (hi : i < 256) (hB : w.cell? ⟨B, 0, none⟩ = some (.int .i64 i))
    (hz : z ≤ n) (h0 : ∀ j, j < z → bitB (pc l j) i = false) (h1 : z < n → bitB (pc l z) i = true) :
    Calls Tryd.prog 50 #[.slice a n c, .func (.func 51) #[] #[.pointer (some ⟨B, 0, none⟩)]] w fun e w' =>
      e = .returned (.int .i64 (if z < n then (z : Int) else -1)) ∧ Below w.heap.size w w' := by
  have hc := fun (j : Nat) (hj : j < n) w => cutf_any (pc l j) i B w (h.ids _ (pc_mem (by omega))) hi
  have hrow := fun (hp : 0 < n) => h.row (by omega)
  have hinf := fun (j : Nat) (hj : j < n) => idC_info (h.ids _ (pc_mem (show j < l.length by omega)))
  have hnI : (n : Int) ≤ 1000 := by omega
  obtain ⟨V, hV⟩ : ∃ V, (if z < n then (z : Int) else -1) = V := ⟨_, rfl⟩
  rw [hV]
  have H_hn := Box.mk hn
  have H_h0 := Box.mk h0
  have H_h1 := Box.mk h1
  have H_hc := Box.mk hc
  have H_hrow := Box.mk hrow
  have H_h := Box.mk h
  have H_hinf := Box.mk hinf
  have H_hV := Box.mk hV
  clear hn h0 h1 hc hrow h hinf hV
  go_enter Tryd.func50, Tryd.ntmps50
  have hb0 := Below.refl w.heap.size w
  go_wp2_with fail
  go_loopw [8] (fun q wr => ∃ k : Nat, k ≤ z ∧ q = .int .i64 k ∧ Below w.heap.size w wr) (fun q _ => n - (intOf q).toNat)
  case atStart => exact ⟨0, Nat.zero_le _, rfl, (by repeat' (first | with_reducible exact hb0 | with_reducible refine Below.drew ?_ | with_reducible refine below_drewN ?_ _ | with_reducible refine Below.alloc ?_ (by have := hb0.size; first | (simp; done) | (simp; omega) | omega) _ | with_reducible refine Below.setCell ?_ (by first | (simp; done) | (simp; omega) | omega) _))⟩
  case round =>
    obtain ⟨k, hk, rfl, hbw⟩ := hrel
    by_cases hlt : k < n
    · have hltI : (k : Int) < (n : Int) := by omega
      obtain ⟨b, o, rfl, hbl, hr⟩ := H_hrow.out (by omega)
      have hrk := rangeAt_later (hr k (by have := H_hn.out; omega)) hbw
      have hBk := cell_later hbw hB
      have hik := H_hinf.out k hlt
      obtain ⟨us, hus⟩ : ∃ us, us = idC (pc l k) := ⟨_, rfl⟩
      have hck := H_hc.out k hlt
      simp only [← hus] at hck hrk hik
      by_cases hkz : k = z
      · have hb := H_h1.out (by omega)
        rw [← hkz] at hb
        simp only [hb] at hck
        have hzn : z < n := by omega
        have H_hus := Box.mk hus
        have H_hck := Box.mk hck
        have H_hr := Box.mk hr
        have H_hik := Box.mk hik
        have H_hzn := Box.mk hzn
        have H_hb := Box.mk hb
        have H_hkz := Box.mk hkz
        clear hus hck hr hik hzn hb hkz
        go_wp2_with (refine wpList_load_mid rfl 24 _ rfl b (o + k * 32) (by rfl) us _ hrk Tryd.underlying24 rfl H_hik.out ?_)
        with_reducible refine (H_hck.out _ hBk).mono ?_
        rintro e w11 ⟨rfl, hc11⟩
        have hb11 : Below w.heap.size w w11 := bchain (by repeat' (first | with_reducible exact hbw | with_reducible refine Below.drew ?_ | with_reducible refine below_drewN ?_ _ | with_reducible refine Below.alloc ?_ (by have := hbw.size; first | (simp; done) | (simp; omega) | omega) _ | with_reducible refine Below.setCell ?_ (by first | (simp; done) | (simp; omega) | omega) _)) hc11
        clear hc11
        go_wp2_with fail
        go_ret
        have := H_hzn.out
        refine ⟨ret_int ?_, hb11⟩
        rw [← H_hV.out, if_pos this, H_hkz.out]
      · have hkz2 : k + 1 ≤ z := by omega
        have hb := H_h0.out k (by omega)
        simp only [hb] at hck
        have H_hus := Box.mk hus
        have H_hck := Box.mk hck
        have H_hr := Box.mk hr
        have H_hik := Box.mk hik
        have H_hb := Box.mk hb
        have H_hkz := Box.mk hkz
        clear hus hck hr hik hb hkz
        go_wp2_with (refine wpList_load_mid rfl 24 _ rfl b (o + k * 32) (by rfl) us _ hrk Tryd.underlying24 rfl H_hik.out ?_)
        with_reducible refine (H_hck.out _ hBk).mono ?_
        rintro e w11 ⟨rfl, hc11⟩
        have hb11 : Below w.heap.size w w11 := bchain (by repeat' (first | with_reducible exact hbw | with_reducible refine Below.drew ?_ | with_reducible refine below_drewN ?_ _ | with_reducible refine Below.alloc ?_ (by have := hbw.size; first | (simp; done) | (simp; omega) | omega) _ | with_reducible refine Below.setCell ?_ (by first | (simp; done) | (simp; omega) | omega) _)) hc11
        clear hc11
        go_wp2_with fail
        go_roundw
        case rel => exact ⟨k + 1, hkz2, by go_num, hb11⟩
        case measure => simp [intOf]; omega
    · have hge : (n : Int) ≤ (k : Int) := by omega
      have hzn : ¬ z < n := by omega
      go_wp2_with fail
      go_ret
      refine ⟨ret_int ?_, hbw⟩
      rw [← H_hV.out, if_neg hzn]

/-- The address lies in the other one's block. -/
def AddrIn (a x : Option Addr) : Prop := ∀ ad, x = some ad → ∃ b, a = some b ∧ ad.block = b.block
section
variable {P : Program}
theorem slice_toA {t : TypeId} {s : Nat} (ht : P.underlying t = some (.slice (P.elem t))) (hsz : ∀ w, (sizeOf (P.elem t)).run P w = .ok s w) (a : Option Addr) (len cap : Nat) (k : Nat) (hk : k ≤ cap) (w' : World) :
    (Instr.slice t (.slice a len cap) none (some (.int .i64 k)) (some (.int .i64 k))).run P w' = .ok (.slice a k k) w' := by
  rw [run_slice_hm w' t _ _ _ ht .i64 .i64 k k (by omega) (by omega) (by omega), hsz]
  cases a <;> by_cases h : k = 0 <;> simp [Result.andThen, sliced, h, Addr.add]
theorem slice_fromA {t : TypeId} {s : Nat} (ht : P.underlying t = some (.slice (P.elem t))) (hsz : ∀ w, (sizeOf (P.elem t)).run P w = .ok s w) (a : Option Addr) (len cap : Nat) (k : Nat) (hk : k ≤ len) (hc : len ≤ cap) :
    ∃ ad : Option Addr, (∀ w', (Instr.slice t (.slice a len cap) (some (.int .i64 k)) none none).run P w' = .ok (.slice ad (len - k) (cap - k)) w') ∧ (∀ b o, k < len → a = some ⟨b, o, none⟩ → ad = some ⟨b, o + k * s, none⟩) ∧ AddrIn a ad := by
  refine ⟨if cap = k then a else a.map (·.add (k * s)), fun w' => ?_, fun b o hk' ha => ?_, ?_⟩
  · rw [run_slice_l w' t _ _ _ ht .i64 k (by omega) (by omega), hsz]
    simp [Result.andThen, sliced]
  · subst ha
    rw [if_neg (by omega)]
    simp [Addr.add_mid]
  · intro x hx
    split at hx
    · exact ⟨x, hx, rfl⟩
    · cases a with
      | none => cases hx
      | some y =>
        simp at hx
        subst hx
        refine ⟨y, rfl, ?_⟩
        unfold Addr.add
        split <;> rfl
end
theorem ht_ids : Tryd.prog.underlying 22 = some (.slice (Tryd.prog.elem 22)) := by kernel_rfl
theorem hsz_ids (w : World) : (sizeOf (Tryd.prog.elem 22)).run Tryd.prog w = .ok 32 w := by kernel_rfl
/-- What cut hands back: two parts of the slice, in its block. -/
def CutR2 (a : Option Addr) (w' : World) (z o : List (List Int)) (e : Ending) : Prop := ∃ a1 a2 c2, e = .returned (.tuple #[.slice a1 z.length z.length, .slice a2 o.length c2]) ∧ IdsIn w' a1 z.length z ∧ IdsIn w' a2 c2 o ∧ AddrIn a a1 ∧ AddrIn a a2
/-- What cut hands back: two parts of the slice. -/
def CutR (w' : World) (z o : List (List Int)) (e : Ending) : Prop := ∃ a1 a2 c2, e = .returned (.tuple #[.slice a1 z.length z.length, .slice a2 o.length c2]) ∧ IdsIn w' a1 z.length z ∧ IdsIn w' a2 c2 o
set_option maxHeartbeats 1000000 in
theorem cut_any2 (l : List (List Int)) (a : Option Addr) (n c i : Nat) (w : World) (h : IdsIn w a c l) (hn : n = l.length) (hm : n ≤ 1000) (hi : i < 256) (hp : zerosL l i ++ onesL l i = l) :
    Calls Tryd.prog 35 #[.slice a n c, .int .i64 i] w fun e w' =>
      CutR2 a w' (zerosL l i) (onesL l i) e ∧ Below w.heap.size w w' := by
  obtain ⟨p1, p2, p3⟩ := cut_at hp
  have hlens := cut_lens l i
  obtain ⟨zl, hzl⟩ : ∃ z, zerosL l i = z := ⟨_, rfl⟩
  obtain ⟨ol, hol⟩ : ∃ o, onesL l i = o := ⟨_, rfl⟩
  rw [hzl] at p1 p2 p3 hlens hp
  rw [hol] at hlens hp
  rw [hzl, hol]
  obtain ⟨z, hz⟩ : ∃ z, zl.length = z := ⟨_, rfl⟩
  obtain ⟨m, hom⟩ : ∃ m, ol.length = m := ⟨_, rfl⟩
  rw [hz] at p1 p2 p3 hlens
  rw [hom, ← hn] at hlens
  rw [← hn] at p1 p3
  have hcap : n ≤ c := by rw [hn]; exact h.cap
  have hidx := fun (W : World) (hW : IdsIn W a c l) (hB : W.cell? ⟨w.heap.size, 0, none⟩ = some (.int .i64 i)) => idxF_any l a n c i w.heap.size z W hW hn hm hi hB p1 p2 p3
  have s1 := slice_toA (P := Tryd.prog) ht_ids hsz_ids a n c z (by omega)
  obtain ⟨ad, s2, had, hai⟩ := slice_fromA (P := Tryd.prog) ht_ids hsz_ids a n c z p1 hcap
  have hnm : n - z = m := by omega
  rw [hnm] at s2
  have fin : ∀ W, Below w.heap.size w W → IdsIn W a z zl ∧ IdsIn W ad (c - z) ol := fun W hW => by
    have hx := h.later hW
    rw [← hp] at hx
    refine ⟨hx.left (by omega), ?_⟩
    by_cases h0 : 0 < m
    · obtain ⟨b, o, ha, _⟩ := h.row (by omega)
      have := had b o (by omega) ha
      rw [this]
      rw [ha] at hx
      have := hx.right (c' := c - z) (by omega)
      rwa [hz] at this
    · have : ol = [] := List.eq_nil_of_length_eq_zero (by omega)
      rw [this]; exact .nil _ _ _
  by_cases hlt : z < n
  · simp only [if_pos hlt] at hidx
    have hz0 : (0 : Int) ≤ (z : Int) := by omega
    have H_hp := Box.mk hp
    have H_p2 := Box.mk p2
    have H_p3 := Box.mk p3
    have H_hn := Box.mk hn
    have H_hzl := Box.mk hzl
    have H_hol := Box.mk hol
    have H_hz := Box.mk hz
    have H_hom := Box.mk hom
    have H_had := Box.mk had
    have H_fin := Box.mk fin
    have H_hidx := Box.mk hidx
    have H_hlens := Box.mk hlens
    have H_hnm := Box.mk hnm
    have H_h := Box.mk h
    have H_hai := Box.mk hai
    clear hp p2 p3 hn hzl hol hz hom had fin hidx hlens hnm h hai
    clear hlt
    go_enter Tryd.func35, Tryd.ntmps35
    have hb0 := Below.refl w.heap.size w
    go_wp2_with fail
    with_reducible refine (H_hidx.out _ (H_h.out.later ((Below.refl _ _).alloc (Nat.le_refl _) _)) (by simp)).mono ?_
    rintro e w1 ⟨rfl, hc1⟩
    have hb1 : Below w.heap.size w w1 := bchain (by repeat' (first | with_reducible exact hb0 | with_reducible refine Below.drew ?_ | with_reducible refine below_drewN ?_ _ | with_reducible refine Below.alloc ?_ (by have := hb0.size; first | (simp; done) | (simp; omega) | omega) _ | with_reducible refine Below.setCell ?_ (by first | (simp; done) | (simp; omega) | omega) _)) hc1
    clear hc1
    go_wp2_with fail
    refine wp_gen fun w2 hc2 => ?_
    have hb2 : Below w.heap.size w w2 := bchain (by repeat' (first | with_reducible exact hb1 | with_reducible refine Below.drew ?_ | with_reducible refine below_drewN ?_ _ | with_reducible refine Below.alloc ?_ (by have := hb1.size; first | (simp; done) | (simp; omega) | omega) _ | with_reducible refine Below.setCell ?_ (by first | (simp; done) | (simp; omega) | omega) _)) hc2
    clear hc2
    refine wp_region_on (by kernel_rfl) (by kernel_rfl) ?_
    repeat (go_big_quiet_step (fail))
    refine wpQuiet_nil ?_
    intro w3 hc3
    have hb3 : Below w.heap.size w w3 := bchain (by repeat' (first | with_reducible exact hb2 | with_reducible refine Below.drew ?_ | with_reducible refine below_drewN ?_ _ | with_reducible refine Below.alloc ?_ (by have := hb2.size; first | (simp; done) | (simp; omega) | omega) _ | with_reducible refine Below.setCell ?_ (by first | (simp; done) | (simp; omega) | omega) _)) hc3
    clear hc3
    go_wp2_with fail
    go_ret2
    refine ⟨⟨a, ad, c - z, by rw [H_hz.out, H_hom.out]; rfl, ?_, ?_, fun ad h => ⟨ad, h, rfl⟩, H_hai.out⟩, hb3⟩
    · rw [H_hz.out]; exact (H_fin.out _ hb3).1
    · exact (H_fin.out _ hb3).2
  · simp only [if_neg hlt] at hidx
    obtain rfl : z = n := by omega
    clear hlt
    have H_hp := Box.mk hp
    have H_p2 := Box.mk p2
    have H_p3 := Box.mk p3
    have H_hn := Box.mk hn
    have H_hzl := Box.mk hzl
    have H_hol := Box.mk hol
    have H_hz := Box.mk hz
    have H_hom := Box.mk hom
    have H_had := Box.mk had
    have H_fin := Box.mk fin
    have H_hidx := Box.mk hidx
    have H_hlens := Box.mk hlens
    have H_hnm := Box.mk hnm
    have H_h := Box.mk h
    have H_hai := Box.mk hai
    clear hp p2 p3 hn hzl hol hz hom had fin hidx hlens hnm h hai
    go_enter Tryd.func35, Tryd.ntmps35
    have hb0 := Below.refl w.heap.size w
    go_wp2_with fail
    with_reducible refine (H_hidx.out _ (H_h.out.later ((Below.refl _ _).alloc (Nat.le_refl _) _)) (by simp)).mono ?_
    rintro e w1 ⟨rfl, hc1⟩
    have hb1 : Below w.heap.size w w1 := bchain (by repeat' (first | with_reducible exact hb0 | with_reducible refine Below.drew ?_ | with_reducible refine below_drewN ?_ _ | with_reducible refine Below.alloc ?_ (by have := hb0.size; first | (simp; done) | (simp; omega) | omega) _ | with_reducible refine Below.setCell ?_ (by first | (simp; done) | (simp; omega) | omega) _)) hc1
    clear hc1
    go_wp2_with fail
    refine wp_gen fun w2 hc2 => ?_
    have hb2 : Below w.heap.size w w2 := bchain (by repeat' (first | with_reducible exact hb1 | with_reducible refine Below.drew ?_ | with_reducible refine below_drewN ?_ _ | with_reducible refine Below.alloc ?_ (by have := hb1.size; first | (simp; done) | (simp; omega) | omega) _ | with_reducible refine Below.setCell ?_ (by first | (simp; done) | (simp; omega) | omega) _)) hc2
    clear hc2
    refine wp_region_on (by kernel_rfl) (by kernel_rfl) ?_
    repeat (go_big_quiet_step (fail))
    refine wpQuiet_nil ?_
    intro w3 hc3
    have hb3 : Below w.heap.size w w3 := bchain (by repeat' (first | with_reducible exact hb2 | with_reducible refine Below.drew ?_ | with_reducible refine below_drewN ?_ _ | with_reducible refine Below.alloc ?_ (by have := hb2.size; first | (simp; done) | (simp; omega) | omega) _ | with_reducible refine Below.setCell ?_ (by first | (simp; done) | (simp; omega) | omega) _)) hc3
    clear hc3
    go_wp2_with fail
    go_ret2
    refine ⟨⟨a, ad, c - z, by rw [H_hz.out, H_hom.out]; rfl, ?_, ?_, fun ad h => ⟨ad, h, rfl⟩, H_hai.out⟩, hb3⟩
    · rw [H_hz.out]; exact (H_fin.out _ hb3).1
    · exact (H_fin.out _ hb3).2

theorem cut_any (l : List (List Int)) (a : Option Addr) (n c i : Nat) (w : World) (h : IdsIn w a c l) (hn : n = l.length) (hm : n ≤ 1000) (hi : i < 256) (hp : zerosL l i ++ onesL l i = l) :
    Calls Tryd.prog 35 #[.slice a n c, .int .i64 i] w fun e w' =>
      CutR w' (zerosL l i) (onesL l i) e ∧ Below w.heap.size w w' :=
  (cut_any2 l a n c i w h hn hm hi hp).mono fun e w' ⟨⟨a1, a2, c2, h1, h2, h3, _, _⟩, hb⟩ => ⟨⟨a1, a2, c2, h1, h2, h3⟩, hb⟩

end Go.Proofs.YtfabcdpmnbeflaaDoor

/- New slices of given ids. -/
namespace Go.Proofs.YtfabcdpmnbeflaaDoor
open Go.RowKit
set_option maxRecDepth 100000
set_option linter.unusedVariables false
set_option linter.unusedSimpArgs false

theorem oneCell_idz : (Value.agg (List.replicate 32 (Value.int .u8 0)).toArray).cells.size = 32 := by
  show (List.replicate 32 (Value.int .u8 0)).toArray.size = 32
  simp only [List.size_toArray, List.length_replicate]
theorem fold_setO (off : Nat) : ∀ (us : List Value) (k : Nat) (A : Array Value), off + k + us.length ≤ A.size →
    (us.zipIdx k).foldl (fun cs (x : Value × Nat) => cs.setIfInBounds (off + x.2) x.1) A = (A.toList.take (off + k) ++ us ++ A.toList.drop (off + k + us.length)).toArray
  | [], k, A, h => by simp
  | u :: us, k, A, h => by
    simp only [List.length_cons] at h
    rw [List.zipIdx_cons, List.foldl_cons, fold_setO off us (k + 1) (A.setIfInBounds (off + k) u) (by simp; omega)]
    simp only [Array.toList_setIfInBounds, List.length_cons]
    have e1 : (A.toList.set (off + k) u).take (off + (k + 1)) = A.toList.take (off + k) ++ [u] := by
      rw [← Nat.add_assoc, List.take_succ_eq_append_getElem (by simp; omega), List.take_set_of_le (Nat.le_refl _), List.getElem_set_self]
    have e2 : (A.toList.set (off + k) u).drop (off + (k + 1) + us.length) = A.toList.drop (off + k + (us.length + 1)) := by
      rw [List.drop_set_of_lt (by omega)]
      congr 1
      omega
    rw [e1, e2]
    simp
theorem hsz_id (w : World) : (sizeOf 24).run Tryd.prog w = .ok 32 w := by kernel_rfl
theorem hzv_id (w : World) : (zeroValue 24).run Tryd.prog w = .ok (.agg (List.replicate 32 (Value.int .u8 0)).toArray) w := by kernel_rfl
theorem fill1 (us : List Value) (A : Array Value) (off : Nat) (h : off + us.length ≤ A.size) (rest : List (Nat × Value)) (place : Nat → Option (Nat × Nat)) (i : Nat) (hp : place i = some (off, us.length)) :
    Instr.fill place A ((i, .agg us.toArray) :: rest) = Instr.fill place (A.toList.take off ++ us ++ A.toList.drop (off + us.length)).toArray rest := by
  have hf := fold_setO off us 0 A (by omega)
  simp only [Nat.add_zero] at hf
  rw [Instr.fill]
  simp only [hp]
  rw [if_neg (by simp [Value.cells]; omega)]
  rw [← hf]
  congr 1
  simp [Value.cells, ← Array.foldl_toList]
/-- The zero cells of n ids. -/
def zrow (n : Nat) : Array Value := (Array.range (n * 32)).map fun x => ((Value.agg (List.replicate 32 (Value.int .u8 0)).toArray).cells[x % (Value.agg (List.replicate 32 (Value.int .u8 0)).toArray).cells.size]!)
theorem zrow_size (n : Nat) : (zrow n).size = n * 32 := by simp [zrow]
theorem run_build_ids (n : Nat) (parts : Array (Nat × Value)) (cs : List Value) (h0 : 0 < n) (hn : n ≤ 1000) (hf : Instr.fill (fun i => some (i * 32, 32)) (zrow n) parts.toList = some cs.toArray) (w : World) :
    (Instr.buildSlice 22 n parts).run Tryd.prog w = .ok (.slice (some ⟨w.heap.size, 0, none⟩) n n) (w.alloc (.cells cs.toArray 24)) := by
  have h1 : ¬ n * 32 > 2 ^ 24 := by omega
  have h2 : ¬ n * 32 = 0 := by omega
  unfold zrow at hf
  unfold Instr.buildSlice
  rw [Sem.run_bind, run_underlying Tryd.underlying22]
  simp only [Result.andThen, Sem.run_bind, hsz_id, hzv_id, Sem.run_pure, Sem.run_ite]
  rw [if_neg h1, if_neg h2, hf]
  simp [newRow]
theorem run_build_id1 (us : List Value) (hl : us.length = 32) (w : World) :
    (Instr.buildSlice 22 1 #[(0, .agg us.toArray)]).run Tryd.prog w = .ok (.slice (some ⟨w.heap.size, 0, none⟩) 1 1) (w.alloc (.cells us.toArray 24)) := by
  refine run_build_ids 1 _ us (by omega) (by omega) ?_ w
  have hz := zrow_size 1
  generalize zrow 1 = A at *
  rw [show (#[(0, Value.agg us.toArray)] : Array (Nat × Value)).toList = (0, Value.agg us.toArray) :: [] from rfl, fill1 us A 0 (by omega) [] _ 0 (by simp [hl]), List.drop_of_length_le (by simp; omega)]
  simp [Instr.fill]
theorem run_build_id2 (us vs : List Value) (hl : us.length = 32) (hk : vs.length = 32) (w : World) :
    (Instr.buildSlice 22 2 #[(0, .agg us.toArray), (1, .agg vs.toArray)]).run Tryd.prog w = .ok (.slice (some ⟨w.heap.size, 0, none⟩) 2 2) (w.alloc (.cells (us ++ vs).toArray 24)) := by
  refine run_build_ids 2 _ (us ++ vs) (by omega) (by omega) ?_ w
  have hz := zrow_size 2
  generalize zrow 2 = A at *
  rw [show (#[(0, Value.agg us.toArray), (1, Value.agg vs.toArray)] : Array (Nat × Value)).toList = (0, Value.agg us.toArray) :: (1, Value.agg vs.toArray) :: [] from rfl, fill1 us A 0 (by omega) _ _ 0 (by simp [hl]), fill1 vs _ 32 (by simp; omega) [] _ 1 (by simp [hk])]
  have : List.take 32 (List.take 0 A.toList ++ us ++ List.drop (0 + us.length) A.toList) = us := by
    rw [List.take_zero, List.nil_append, List.take_append_of_le_length (by omega), List.take_of_length_le (by omega)]
  have h2 : List.drop (32 + vs.length) (List.take 0 A.toList ++ us ++ List.drop (0 + us.length) A.toList) = [] := List.drop_of_length_le (by simp; omega)
  simp only [this, h2, List.append_nil]
  simp [Instr.fill]
section
variable {ops : Array Oper} {rest : List Oper} {o : Oper} {a : Act} {w : World} {Q : Exit → Act → World → Prop}
theorem wpList_run {P : Program} (hgd : o.guard = none) (n : Nat) (t : TypeId) (parts : Array (Nat × Operand)) (ho : o.op = .buildSlice t n parts) {v : Value} {w' : World} (hr : (Instr.buildSlice t n (parts.map fun (i, x) => (i, a.eval x))).run P w = .ok v w')
    (h : wpList P ops Q rest (a.put o.dst v) w') : wpList P ops Q (o :: rest) a w := by
  refine wpList_plain hgd fun K hK => ?_
  unfold Oper.wp
  simp only [execOp, ho, Sem.run_bind, hr, Result.andThen]
  exact hK _ _ h
theorem wpList_build_id (hgd : o.guard = none) (x : Operand) (ho : o.op = .buildSlice 22 1 #[(0, x)]) (us : List Value) (hx : a.eval x = .agg us.toArray) (hl : us.length = 32)
    (h : wpList Tryd.prog ops Q rest (a.put o.dst (.slice (some ⟨w.heap.size, 0, none⟩) 1 1)) (w.alloc (.cells us.toArray 24))) : wpList Tryd.prog ops Q (o :: rest) a w :=
  wpList_run hgd 1 _ _ ho (by simp only [List.map_toArray, List.map_cons, List.map_nil, hx]; exact run_build_id1 us hl w) h
theorem wpList_build_id2 (hgd : o.guard = none) (x y : Operand) (ho : o.op = .buildSlice 22 2 #[(0, x), (1, y)]) (us vs : List Value) (hx : a.eval x = .agg us.toArray) (hy : a.eval y = .agg vs.toArray) (hl : us.length = 32) (hk : vs.length = 32)
    (h : wpList Tryd.prog ops Q rest (a.put o.dst (.slice (some ⟨w.heap.size, 0, none⟩) 2 2)) (w.alloc (.cells (us ++ vs).toArray 24))) : wpList Tryd.prog ops Q (o :: rest) a w :=
  wpList_run hgd 2 _ _ ho (by simp only [List.map_toArray, List.map_cons, List.map_nil, hx, hy]; exact run_build_id2 us vs hl hk w) h
end

end Go.Proofs.YtfabcdpmnbeflaaDoor

/- Ids cloned; the reference's cut and split. -/
namespace Go.Proofs.YtfabcdpmnbeflaaDoor
set_option linter.unusedSimpArgs false
set_option linter.unusedVariables false
set_option linter.unnecessarySimpa false
open Go.RowKit
set_option maxRecDepth 100000

theorem Blk.cellsRow {w : World} {B : Nat} {t : TypeId} {cs : List Value} (h : Blk w B t cs) : CellsAt w (some ⟨B, 0, none⟩) cs := .inr ⟨B, 0, rfl, fun j u hj => by rw [Nat.zero_add]; exact h.cell hj⟩
set_option maxHeartbeats 400000 in
theorem cloneIds_any (l : List (List Int)) (a : Option Addr) (n c : Nat) (w : World) (h : IdsIn w a c l) (hn : n = l.length) (hb : n ≤ 1000) :
    Calls Tryd.prog 36 #[.slice a n c] w fun e w' =>
      ∃ a' c', e = .returned (.slice a' n c') ∧ OwnX w' w.heap.size 24 32 (.slice a' n c') n (idsC l) ∧ Below w.heap.size w w' := by
  have hq := fun (w : World) => Lib.run_eql_slice_nil w 22 24 a n c 0 0 Tryd.underlying22
  obtain ⟨i0, hi, hz0, hz1, hz2⟩ := info_parts info_id32
  have hil := idsC_len h.ids
  rw [← hn] at hil
  cases a with
  | none =>
    have hx : n = 0 := by
      rcases h.cells with h1 | ⟨b, o, h1, _⟩
      · rw [h1] at hil; simp at hil; omega
      · cases h1
    subst hx
    have hl : l = [] := List.eq_nil_of_length_eq_zero hn.symm
    subst hl
    have H_hil := Box.mk hil
    have H_h := Box.mk h
    clear hil h
    clear hi hz0 hz1 hz2 hn hb
    go_enter Tryd.func36, Tryd.ntmps36
    have hb0 := Below.refl w.heap.size w
    go_wp2_with fail
    go_ret
    exact ⟨_, _, rfl, OwnX.nil _ _ _ _, hb0⟩
  | some ad =>
    have H_h := Box.mk h
    have H_hil := Box.mk hil
    have H_hn := Box.mk hn
    clear h hil hn
    go_enter Tryd.func36, Tryd.ntmps36
    have hb0 := Below.refl w.heap.size w
    go_wp2_with (at_builtin; refine stop ?_)
    refine Stop.go ?_
    refine wpList_append_x _ rfl _ _ 22 rfl w.heap.size 24 i0 _ 32 32 Tryd.underlying22 hi hz0 hz1 hz2 oneCell_idz (by decide) _ 0 [] rfl (OwnX.made _ [] _ _ 0 _ (Nat.le_refl _) (by simp [maxLen]) rfl) (some ad) n c (idsC l) rfl H_hil.out (H_h.out.cells.alloc _) (idsC_one _) (by unfold maxLen; omega) (by omega) (by simp) ?_
    intro a' c' w1 hown hg _
    rw [Nat.zero_add, List.nil_append] at hown
    go_wp2_with fail
    go_ret
    exact ⟨_, _, rfl, hown, below_grownX (hb0.alloc (Nat.le_refl _) _) hg (by simp) (fun k hk => ((OwnX.made w [] _ 0 0 32 (Nat.le_refl _) (by simp [maxLen]) rfl).lt k hk).1)⟩

/-- The ids whose bit is so. -/
def cutL (l : List (List Int)) (i : Nat) (one : Bool) : List (List Int) := l.filter fun x => bitB x i == one
theorem cutL_zeros (l : List (List Int)) (i : Nat) : cutL l i false = zerosL l i := by
  unfold cutL zerosL
  congr 1
  funext x
  cases bitB x i <;> rfl
theorem cutL_ones (l : List (List Int)) (i : Nat) : cutL l i true = onesL l i := by
  unfold cutL onesL
  congr 1
  funext x
  cases bitB x i <;> rfl
theorem cutL_succ {l : List (List Int)} {k : Nat} (hk : k < l.length) (i : Nat) (one : Bool) : cutL (l.take (k + 1)) i one = cutL (l.take k) i one ++ if (bitB (pc l k) i == one) = true then [pc l k] else [] := by
  unfold cutL
  rw [List.take_succ_eq_append_getElem hk, List.filter_append]
  have : pc l k = l[k] := by unfold pc; rw [List.getElem?_eq_getElem hk]; rfl
  rw [this]
  cases h : (bitB l[k] i == one) <;> simp [h]
theorem cutL_len (l : List (List Int)) (i : Nat) (one : Bool) : (cutL l i one).length ≤ l.length := List.length_filter_le ..
theorem idsC_single (x : List Int) : idsC [x] = idC x := by unfold idsC; simp
def FreshIds (w w' : World) (l : List (List Int)) (e : Ending) : Prop := ∃ a' c', e = .returned (.slice a' l.length c') ∧ OwnX w' w.heap.size 24 32 (.slice a' l.length c') l.length (idsC l)
set_option maxHeartbeats 2000000 in
theorem rcut_any (l : List (List Int)) (a : Option Addr) (n c i : Nat) (one : Bool) (w : World) (h : IdsIn w a c l) (hn : n = l.length) (hm : n ≤ 1000) (hi : i < 256) :
    Calls Tryd.prog 38 #[.slice a n c, .int .i64 i, .bool one] w fun e w' =>
      FreshIds w w' (cutL l i one) e ∧ Below w.heap.size w w' := by
  obtain ⟨i0, hif, hz0, hz1, hz2⟩ := info_parts info_id32
  have hnI : (n : Int) ≤ 1000 := by omega
  have hrow := fun (hp : 0 < n) => h.row (by omega)
  have hids := fun (k : Nat) (hk : k < n) => h.ids _ (pc_mem (show k < l.length by omega))
  have H_h := Box.mk h
  have H_hn := Box.mk hn
  have H_hrow := Box.mk hrow
  have H_hids := Box.mk hids
  clear h hn hrow hids
  go_enter Tryd.func38, Tryd.ntmps38
  have hb0 := Below.refl w.heap.size w
  go_wp2_with fail
  go_loopw [7, 8] (fun s q wr => ∃ (k m : Nat) (av : Option Addr) (cv : Nat), k ≤ n ∧ m ≤ k ∧ q = .int .i64 k ∧ s = .slice av m cv ∧ Below w.heap.size w wr ∧ m = (cutL (l.take k) i one).length ∧ OwnX wr w.heap.size 24 32 (.slice av m cv) m (idsC (cutL (l.take k) i one))) (fun s q _ => n - (intOf q).toNat)
  case atStart => exact ⟨0, 0, none, 0, Nat.zero_le _, Nat.le_refl _, rfl, rfl, hb0, rfl, OwnX.nil _ _ _ _⟩
  case round =>
    obtain ⟨k, m, av, cv, hk, hmk, rfl, rfl, hbw, hme, ow⟩ := hrel
    by_cases hlt : k < n
    · have hltI : (k : Int) < (n : Int) := by omega
      obtain ⟨b, o, rfl, hbl, hr⟩ := H_hrow.out (by omega)
      have hxk := H_hids.out k hlt
      have hrk := rangeAt_later (hr k (by have := H_hn.out; omega)) hbw
      have hik := idC_info hxk
      have hc := fun w => rbit_any (pc l k) i w hxk hi
      have hsc := cutL_succ (l := l) (k := k) (by have := H_hn.out; omega) i one
      have hul := idC_len hxk
      have huo := idC_one (pc l k)
      obtain ⟨us, hus⟩ : ∃ us, us = idC (pc l k) := ⟨_, rfl⟩
      obtain ⟨bb, hbb⟩ : ∃ bb, bitB (pc l k) i = bb := ⟨_, rfl⟩
      rw [hbb] at hsc
      simp only [← hus, hbb] at hc hrk hik hul huo
      by_cases hbo : bb = one
      · subst hbo
        have hbe : (bb == bb) = true := by simp
        rw [if_pos hbe] at hsc
        have H_hus := Box.mk hus
        have H_hbb := Box.mk hbb
        have H_hc := Box.mk hc
        have H_hsc := Box.mk hsc
        have H_hr := Box.mk hr
        have H_hxk := Box.mk hxk
        have H_hme := Box.mk hme
        have H_hul := Box.mk hul
        have H_huo := Box.mk huo
        clear hus hbb hc hsc hr hxk hme hul huo
        go_wp2_with (refine wpList_load_mid rfl 24 _ rfl b (o + k * 32) (by rfl) us _ hrk Tryd.underlying24 rfl hik ?_)
        with_reducible refine (H_hc.out _).mono ?_
        rintro e w11 ⟨rfl, hc11⟩
        have ow1 := ow.later hc11
        have hrk1 := rangeAt_later hrk hc11
        have hb11 : Below w.heap.size w w11 := bchain (by repeat' (first | with_reducible exact hbw | with_reducible refine Below.drew ?_ | with_reducible refine below_drewN ?_ _ | with_reducible refine Below.alloc ?_ (by have := hbw.size; first | (simp; done) | (simp; omega) | omega) _ | with_reducible refine Below.setCell ?_ (by first | (simp; done) | (simp; omega) | omega) _)) hc11
        clear hc11 ow hrk
        go_wp2_with (first | (refine wpList_load_mid rfl 24 _ rfl b (o + k * 32) (by rfl) us _ hrk1 Tryd.underlying24 rfl hik ?_) | (refine wpList_build_id rfl _ rfl us (by rfl) H_hul.out ?_) | (at_builtin; refine stop ?_))
        refine Stop.go ?_
        refine wpList_append_x _ rfl _ _ 22 rfl w.heap.size 24 i0 _ 32 32 Tryd.underlying22 hif hz0 hz1 hz2 oneCell_idz (by decide) (.slice av m cv) m _ rfl (ow1.alloc _) (some ⟨w11.heap.size, 0, none⟩) 1 1 us (by rfl) (by rw [H_hul.out]) (Blk.cellsRow (Blk.newA w11 _ _ _ us rfl rfl)) H_huo.out (by unfold maxLen; omega) (by omega) (by have := hb11.size; simp; omega) ?_
        intro a5 c5 w5 o5 hg hk5
        have hb5 : Below w.heap.size w w5 := below_grownX ((by repeat' (first | with_reducible exact hb11 | with_reducible refine Below.drew ?_ | with_reducible refine below_drewN ?_ _ | with_reducible refine Below.alloc ?_ (by have := hb11.size; first | (simp; done) | (simp; omega) | omega) _ | with_reducible refine Below.setCell ?_ (by first | (simp; done) | (simp; omega) | omega) _))) hg (by have := hb11.size; simp; omega) (fun q h => (ow1.lt q h).1)
        clear hk5 ow1 hrk1 hg
        go_wp2_with fail
        go_roundw
        case rel => exact ⟨k + 1, m + 1, a5, c5, by omega, by omega, by go_num, rfl, hb5, by rw [H_hsc.out, List.length_append, ← H_hme.out]; rfl, by rw [H_hsc.out, idsC_append, idsC_single, ← H_hus.out]; exact o5⟩
        case measure => simp [intOf]; omega
      · have hbe : ¬ (bb == one) = true := by simpa using hbo
        have hbf : (bb == one) = false := by simpa using hbo
        rw [if_neg hbe, List.append_nil] at hsc
        clear hbe
        have H_hus := Box.mk hus
        have H_hbb := Box.mk hbb
        have H_hc := Box.mk hc
        have H_hsc := Box.mk hsc
        have H_hr := Box.mk hr
        have H_hxk := Box.mk hxk
        have H_hme := Box.mk hme
        have H_hul := Box.mk hul
        have H_huo := Box.mk huo
        have H_hbo := Box.mk hbo
        clear hus hbb hc hsc hr hxk hme hul huo hbo
        go_wp2_with (refine wpList_load_mid rfl 24 _ rfl b (o + k * 32) (by rfl) us _ hrk Tryd.underlying24 rfl hik ?_)
        with_reducible refine (H_hc.out _).mono ?_
        rintro e w11 ⟨rfl, hc11⟩
        have ow1 := ow.later hc11
        have hb11 : Below w.heap.size w w11 := bchain (by repeat' (first | with_reducible exact hbw | with_reducible refine Below.drew ?_ | with_reducible refine below_drewN ?_ _ | with_reducible refine Below.alloc ?_ (by have := hbw.size; first | (simp; done) | (simp; omega) | omega) _ | with_reducible refine Below.setCell ?_ (by first | (simp; done) | (simp; omega) | omega) _)) hc11
        clear hc11 ow hrk
        go_wp2_with fail
        go_roundw
        case rel => exact ⟨k + 1, m, av, cv, by omega, by omega, by go_num, rfl, hb11, by rw [H_hsc.out]; exact H_hme.out, by rw [H_hsc.out]; exact ow1⟩
        case measure => simp [intOf]; omega
    · have hge : (n : Int) ≤ (k : Int) := by omega
      obtain rfl : k = n := by omega
      have e1 : l.take k = l := List.take_of_length_le (by have := H_hn.out; omega)
      rw [e1] at hme ow
      have H_hme := Box.mk hme
      clear hme
      clear hlt
      go_wp2_with fail
      go_ret
      refine ⟨⟨av, cv, ?_, ?_⟩, hbw⟩
      · rw [← H_hme.out]; rfl
      · rw [← H_hme.out]; exact ow

/-- The first id whose bit is another one than the first id's. -/
theorem split_at {l : List (List Int)} {N : Nat} (h : IsSplit l N) : ∃ m, 0 < m ∧ m < l.length ∧ bitB (pc l m) N ≠ bitB (pc l 0) N ∧ ∀ j, j < m → bitB (pc l j) N = bitB (pc l 0) N := by
  obtain ⟨_, _, x, hx, y, hy, h3⟩ := h
  have ex : ∃ k, k < l.length ∧ bitB (pc l k) N ≠ bitB (pc l 0) N := by
    obtain ⟨i, hi, rfl⟩ := List.getElem_of_mem hx
    obtain ⟨j, hj, rfl⟩ := List.getElem_of_mem hy
    have e1 : l[i] = pc l i := by unfold pc; rw [List.getElem?_eq_getElem hi]; rfl
    have e2 : l[j] = pc l j := by unfold pc; rw [List.getElem?_eq_getElem hj]; rfl
    rw [e1, e2] at h3
    by_cases h1 : bitB (pc l i) N = bitB (pc l 0) N
    · exact ⟨j, hj, fun e => h3 (h1.trans e.symm)⟩
    · exact ⟨i, hi, h1⟩
  have least : ∀ n, (∃ k, k < n ∧ bitB (pc l k) N ≠ bitB (pc l 0) N) → ∃ k, k < n ∧ bitB (pc l k) N ≠ bitB (pc l 0) N ∧ ∀ j, j < k → bitB (pc l j) N = bitB (pc l 0) N := by
    intro n
    induction n with
    | zero => rintro ⟨k, hk, _⟩; omega
    | succ n ih =>
      rintro ⟨k, hk, h⟩
      by_cases h' : ∃ k, k < n ∧ bitB (pc l k) N ≠ bitB (pc l 0) N
      · obtain ⟨k, k1, k2, k3⟩ := ih h'
        exact ⟨k, by omega, k2, k3⟩
      · exact ⟨k, hk, h, fun j hj => Classical.byContradiction fun hne => h' ⟨j, by omega, hne⟩⟩
  obtain ⟨k, k1, k2, k3⟩ := least _ ex
  refine ⟨k, ?_, k1, k2, k3⟩
  rcases Nat.eq_zero_or_pos k with h0 | h0
  · subst h0; exact absurd rfl k2
  · exact h0
set_option maxHeartbeats 2000000 in
theorem rsplit_any (l : List (List Int)) (a : Option Addr) (n c N : Nat) (w : World) (h : IdsIn w a c l) (hn : n = l.length) (hm : n ≤ 1000) (hs : IsSplit l N) :
    Calls Tryd.prog 37 #[.slice a n c] w fun e w' =>
      e = .returned (.int .i64 N) ∧ Below w.heap.size w w' := by
  obtain ⟨m, m0, m1, m2, m3⟩ := split_at hs
  obtain ⟨hN, hsame, _⟩ := hs
  have hbits := fun (i k : Nat) (hi : i < N) (hk : k < n) => hsame i hi (pc l k) (pc_mem (by omega)) (pc l 0) (pc_mem (by omega))
  obtain ⟨b, o, rfl, hbl, hr⟩ := h.row (by omega)
  have hids := fun (k : Nat) (hk : k < n) => h.ids _ (pc_mem (show k < l.length by omega))
  rw [← hn] at m1
  have hnI : (n : Int) ≤ 1000 := by omega
  have H_hn := Box.mk hn
  have H_h := Box.mk h
  have H_hsame := Box.mk hsame
  have H_m2 := Box.mk m2
  have H_m3 := Box.mk m3
  have H_hids := Box.mk hids
  have H_hr := Box.mk hr
  have H_hbits := Box.mk hbits
  clear hn h hsame m2 m3 hids hr hbits
  go_enter Tryd.func37, Tryd.ntmps37
  have hb0 := Below.refl w.heap.size w
  go_wp2_with fail
  go_loopw [3] (fun q wr => ∃ i : Nat, i ≤ N ∧ q = .int .i64 i ∧ Below w.heap.size w wr) (fun q _ => N - (intOf q).toNat)
  case atStart => exact ⟨0, Nat.zero_le _, rfl, hb0⟩
  case round =>
    obtain ⟨i, hi, rfl, hbw⟩ := hrel
    have hiI : (i : Int) < 256 := by omega
    go_wp2_with fail
    go_loopw [4] (fun q wq => ∃ k : Nat, 1 ≤ k ∧ k ≤ n ∧ (i = N → k ≤ m) ∧ q = .int .i64 k ∧ Below w.heap.size w wq) (fun q _ => n - (intOf q).toNat)
    case atStart => exact ⟨1, by omega, by omega, fun _ => m0, rfl, hbw⟩
    case round =>
      obtain ⟨k, k1, k2, k3, rfl, hbq⟩ := hrel
      have k3' := Box.mk k3
      clear k3
      by_cases hlt : k < n
      · have hltI : (k : Int) < (n : Int) := by omega
        have h0I : (0 : Int) < (n : Int) := by omega
        have hxk := H_hids.out k hlt
        have hx0 := H_hids.out 0 (by omega)
        have hiu := idC_info hxk
        have hiv := idC_info hx0
        have hcu := fun w => rbit_any (pc l k) i w hxk (by omega)
        have hcv := fun w => rbit_any (pc l 0) i w hx0 (by omega)
        have hr0 := rangeAt_later (H_hr.out 0 (by have := H_hn.out; omega)) hbq
        have hrk := rangeAt_later (H_hr.out k (by have := H_hn.out; omega)) hbq
        rw [Nat.zero_mul, Nat.add_zero] at hr0
        obtain ⟨us, hus⟩ : ∃ us, us = idC (pc l k) := ⟨_, rfl⟩
        obtain ⟨vs, hvs⟩ : ∃ vs, vs = idC (pc l 0) := ⟨_, rfl⟩
        obtain ⟨x, hx⟩ : ∃ x, bitB (pc l k) i = x := ⟨_, rfl⟩
        obtain ⟨y, hy⟩ : ∃ y, bitB (pc l 0) i = y := ⟨_, rfl⟩
        simp only [← hus, hx] at hcu hrk hiu
        simp only [← hvs, hy] at hcv hr0 hiv
        by_cases hkm : i = N ∧ k = m
        · have hxy : x ≠ y := by
            rw [← hx, ← hy, hkm.1, hkm.2]; exact H_m2.out
          have hbe : (x == y) = false := by simpa using hxy
          have hiN := Box.mk hkm.1
          have H_hus := Box.mk hus
          have H_hvs := Box.mk hvs
          have H_hx := Box.mk hx
          have H_hy := Box.mk hy
          have H_hcu := Box.mk hcu
          have H_hcv := Box.mk hcv
          have H_hiu := Box.mk hiu
          have H_hiv := Box.mk hiv
          have H_hxk := Box.mk hxk
          have H_hx0 := Box.mk hx0
          have H_hkm := Box.mk hkm
          have H_hxy := Box.mk hxy
          clear hus hvs hx hy hcu hcv hiu hiv hxk hx0 hkm hxy
          go_wp2_with fail
          refine wp_gen fun w11 hc11 => ?_
          have hb11 : Below w.heap.size w w11 := bchain (by repeat' (first | with_reducible exact hbq | with_reducible refine Below.drew ?_ | with_reducible refine below_drewN ?_ _ | with_reducible refine Below.alloc ?_ (by have := hbq.size; first | (simp; done) | (simp; omega) | omega) _ | with_reducible refine Below.setCell ?_ (by first | (simp; done) | (simp; omega) | omega) _)) hc11
          have hr0 := rangeAt_later hr0 hc11
          have hrk := rangeAt_later hrk hc11
          refine wp_region_on (by kernel_rfl) (by kernel_rfl) ?_
          repeat (first | ((refine wpQuiet_load_mid (by first | rfl | (simp [Region.wanted]; done)) 24 _ rfl b (o + k * 32) (by rfl) us _ hrk Tryd.underlying24 rfl H_hiu.out ?_); simp only [Act.put, List.setIfInBounds_toArray, List.set_cons_succ, List.set_cons_zero]) | ((refine wpQuiet_load_mid (by first | rfl | (simp [Region.wanted]; done)) 24 _ rfl b o (by rfl) vs _ hr0 Tryd.underlying24 rfl H_hiv.out ?_); simp only [Act.put, List.setIfInBounds_toArray, List.set_cons_succ, List.set_cons_zero]) | (go_big_quiet_step ((first | (go_at_call 31; with_reducible exact calls_on (H_hcu.out _)) | (go_at_call 31; with_reducible exact calls_on (H_hcv.out _))))))
          refine wpQuiet_nil ?_
          intro w12 hc12
          have hb12 : Below w.heap.size w w12 := bchain (by repeat' (first | with_reducible exact hb11 | with_reducible refine Below.drew ?_ | with_reducible refine below_drewN ?_ _ | with_reducible refine Below.alloc ?_ (by have := hb11.size; first | (simp; done) | (simp; omega) | omega) _ | with_reducible refine Below.setCell ?_ (by first | (simp; done) | (simp; omega) | omega) _)) hc12
          go_wp2_with fail
          go_ret
          exact ⟨by rw [hiN.out]; rfl, hb12⟩
        · have hxy : x = y := by
            rw [← hx, ← hy]
            by_cases hi2 : i = N
            · rw [hi2]
              have := k3'.out hi2
              exact H_m3.out k (by omega)
            · exact H_hbits.out i k (by omega) hlt
          subst hxy
          have hbe : (x == x) = true := by simp
          have hk4 : i = N → k + 1 ≤ m := fun e => by have := k3'.out e; omega
          have H_hus := Box.mk hus
          have H_hvs := Box.mk hvs
          have H_hx := Box.mk hx
          have H_hy := Box.mk hy
          have H_hcu := Box.mk hcu
          have H_hcv := Box.mk hcv
          have H_hiu := Box.mk hiu
          have H_hiv := Box.mk hiv
          have H_hxk := Box.mk hxk
          have H_hx0 := Box.mk hx0
          have H_hkm := Box.mk hkm
          have H_hk4 := Box.mk hk4
          clear hus hvs hx hy hcu hcv hiu hiv hxk hx0 hkm hk4
          go_wp2_with fail
          refine wp_gen fun w11 hc11 => ?_
          have hb11 : Below w.heap.size w w11 := bchain (by repeat' (first | with_reducible exact hbq | with_reducible refine Below.drew ?_ | with_reducible refine below_drewN ?_ _ | with_reducible refine Below.alloc ?_ (by have := hbq.size; first | (simp; done) | (simp; omega) | omega) _ | with_reducible refine Below.setCell ?_ (by first | (simp; done) | (simp; omega) | omega) _)) hc11
          have hr0 := rangeAt_later hr0 hc11
          have hrk := rangeAt_later hrk hc11
          refine wp_region_on (by kernel_rfl) (by kernel_rfl) ?_
          repeat (first | ((refine wpQuiet_load_mid (by first | rfl | (simp [Region.wanted]; done)) 24 _ rfl b (o + k * 32) (by rfl) us _ hrk Tryd.underlying24 rfl H_hiu.out ?_); simp only [Act.put, List.setIfInBounds_toArray, List.set_cons_succ, List.set_cons_zero]) | ((refine wpQuiet_load_mid (by first | rfl | (simp [Region.wanted]; done)) 24 _ rfl b o (by rfl) vs _ hr0 Tryd.underlying24 rfl H_hiv.out ?_); simp only [Act.put, List.setIfInBounds_toArray, List.set_cons_succ, List.set_cons_zero]) | ((refine wpQuiet_load_mid (by first | rfl | (simp [Region.wanted]; done)) 24 _ rfl b (o + k * 32) (by rfl) us _ hrk Tryd.underlying24 rfl H_hiu.out ?_); simp only [Act.put, List.setIfInBounds_toArray, List.set_cons_succ, List.set_cons_zero]) | ((refine wpQuiet_load_mid (by first | rfl | (simp [Region.wanted]; done)) 24 _ rfl b o (by rfl) vs _ hr0 Tryd.underlying24 rfl H_hiv.out ?_); simp only [Act.put, List.setIfInBounds_toArray, List.set_cons_succ, List.set_cons_zero]) | (go_big_quiet_step ((first | (go_at_call 31; with_reducible exact calls_on (H_hcu.out _)) | (go_at_call 31; with_reducible exact calls_on (H_hcv.out _))))))
          refine wpQuiet_nil ?_
          intro w12 hc12
          have hb12 : Below w.heap.size w w12 := bchain (by repeat' (first | with_reducible exact hb11 | with_reducible refine Below.drew ?_ | with_reducible refine below_drewN ?_ _ | with_reducible refine Below.alloc ?_ (by have := hb11.size; first | (simp; done) | (simp; omega) | omega) _ | with_reducible refine Below.setCell ?_ (by first | (simp; done) | (simp; omega) | omega) _)) hc12
          go_wp2_with fail
          go_roundw
          case rel => exact ⟨k + 1, by omega, by omega, H_hk4.out, by go_num, hb12⟩
          case measure => simp [intOf]; omega
      · have hge : (n : Int) ≤ (k : Int) := by omega
        have hiN : i + 1 ≤ N := by
          rcases Nat.lt_or_ge i N with h | h
          · exact h
          · have := k3'.out (by omega); omega
        have hiN2 := Box.mk hiN
        clear hiN hlt
        go_wp2_with fail
        go_roundw
        case rel => exact ⟨i + 1, hiN2.out, by go_num, hbq⟩
        case measure => have := hiN2.out; simp [intOf]; omega

end Go.Proofs.YtfabcdpmnbeflaaDoor
