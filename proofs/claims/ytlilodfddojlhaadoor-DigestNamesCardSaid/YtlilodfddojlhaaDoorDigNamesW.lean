/- DigestNames: the law's function returns true. -/
import Derived.Test.YtlilodfddojlhaaDoorDigPieceW
namespace Go.Proofs.YtlilodfddojlhaaDoor
set_option linter.unusedSimpArgs false
set_option linter.unusedVariables false
set_option linter.unnecessarySimpa false
open Go.RowKit

theorem wpList_hd {P : Program} {ops : Array Oper} {l : List Oper} {o : Oper} {a : Act} {w : World} {Q : Exit → Act → World → Prop} (h : wpList P ops Q (o :: l) a w) : wpList P ops Q (o :: l) a w := h
def zeroB (n : Nat) : List Int := List.replicate n 0
theorem zeroB_len (n : Nat) : (zeroB n).length = n := by simp [zeroB]
theorem zeroB_b8 (n : Nat) : Bytes8 (zeroB n) := fun x hx => by rw [List.eq_of_mem_replicate hx]; omega
def nilP (n : Nat) : List (List Int) := List.replicate n []
def nilV (n : Nat) : List Value := List.replicate n (.slice none 0 0)
theorem nilP_len (n : Nat) : (nilP n).length = n := by simp [nilP]
theorem nilP_flat : ∀ n, (nilP n).flatten = []
  | 0 => rfl
  | n + 1 => by simp [nilP, List.replicate_succ]
theorem nilP_at (w : World) : ∀ n, PiecesAt w (nilV n) (nilP n)
  | 0 => trivial
  | n + 1 => ⟨⟨none, 0, rfl, .inl rfl, Bytes8.nil, by simp [maxLen]⟩, nilP_at w n⟩
theorem nilP_in {w : World} {a : Option Addr} {n : Nat} (h : CellsAt w a (nilV n)) (hn : n ≤ maxLen) : PiecesIn w a (nilV n) (nilP n) := ⟨h, nilP_at w n, by simp [nilV, nilP], by rw [nilP_len]; exact hn⟩
theorem nilPieces (w : World) : PiecesIn w none [] [] := ⟨Or.inl rfl, trivial, rfl, by simp [maxLen]⟩
section
variable {P : Program}
theorem wpList_make1 {ops : Array Oper} {rest : List Oper} {o : Oper} {a : Act} {w : World} {Q : Exit → Act → World → Prop} (hgd : o.guard = none) (t : TypeId) (x y : Operand) (ho : o.op = .makeSlice t x y) (n : Nat) (hx : a.eval x = .int .i64 n) (hy : a.eval y = .int .i64 n)
    (e : TypeId) (i : TypeInfo) (z : Value) (ht : P.underlying t = some (.slice e)) (hi : P.info? e = some i) (hz : i.zero = some z) (hs : i.size = 1) (hb : i.bytes * n ≤ 281474976710656) (hc : n ≤ 9223372036854775807) (hzc : z.cells = #[z])
    (hK : ∀ b w', Below w.heap.size w w' → CellsAt w' (some ⟨b, 0, none⟩) (List.replicate n z) → wpList P ops Q rest (a.put o.dst (.slice (some ⟨b, 0, none⟩) n n)) w') : wpList P ops Q (o :: rest) a w := by
  have hb' : (i.bytes : Int) * (n : Int) ≤ 281474976710656 := by
    have h : ((i.bytes * n : Nat) : Int) ≤ 281474976710656 := by omega
    rwa [Int.natCast_mul] at h
  have hr := run_make (P := P) w t e i z ht hi hz .i64 .i64 n n (by omega) (by omega) hb' (by omega)
  simp only [Int.toNat_natCast] at hr
  rw [hs, Nat.mul_one, hzc, madeCells_one] at hr
  refine wpList_plain hgd fun K hK' => ?_
  unfold Oper.wp
  simp only [execOp, ho, hx, hy, Sem.run_bind, hr, Result.andThen_ok, Sem.run_pure]
  exact hK' _ _ (hK w.heap.size _ ((Below.refl _ _).alloc (Nat.le_refl _) _) (row_cells w _ e (0, 0) _ rfl _ rfl))
end
theorem sumP_bad (n : Nat) (h : 10000 < n) : sumP [zeroB n] = (List.replicate 32 0, 4) := by
  unfold sumP; rw [if_pos (.inr (by simp [longB, zeroB_len]; omega))]
theorem sumP_bad2 (n : Nat) (h : 10000 < n) : sumP [[], zeroB n] = (List.replicate 32 0, 4) := by
  unfold sumP; rw [if_pos (.inr (by simp [longB, zeroB_len]; omega))]
theorem sumP_good (n : Nat) (h : n ≤ 10000) : sumP [zeroB n] = (ofL (zeroB n), 0) := by
  unfold sumP; rw [if_neg (by simp [longB, zeroB_len]; omega)]; simp
theorem sumP_many (n : Nat) (h : 20 < n) : sumP (nilP n) = (List.replicate 32 0, 4) := by
  unfold sumP; rw [if_pos (.inl (by rw [nilP_len]; exact h))]
theorem sumP_nils (n : Nat) (h : n ≤ 20) : sumP (nilP n) = (ofL [], 0) := by
  have e : (nilP n).any longB = false := by
    rw [List.any_eq_false]; intro x hx
    have : x = [] := List.eq_of_mem_replicate hx
    subst this; simp [longB]
  unfold sumP; rw [if_neg (by rw [nilP_len, e]; simp; omega), nilP_flat]
def z8 : V8 := ⟨0, 0, 0, 0, 0, 0, 0, 0⟩
theorem z8_ok : z8.ok := by simp only [V8.ok, z8]; omega
theorem info_row : (Tryd.prog.info? 24).map (fun i => (i.zero, i.size, i.bytes)) = some (some (.slice none 0 0), 1, 24) := by kernel_rfl
theorem addM_v (hs rs : List Int) (N : Int) (ys : List Int) (h : vdB N rs.length = false) : addM hs rs N ys = (List.replicate 8 0, [], 0, 8) := by unfold addM; rw [if_pos h]
theorem addM_m (hs rs : List Int) (N : Int) (ys : List Int) (h : vdB N rs.length = true) (h2 : 200000 - N < (ys.length : Int)) : addM hs rs N ys = (List.replicate 8 0, [], 0, 4) := by unfold addM; rw [if_neg (by rw [h]; simp), if_pos h2]
theorem addM_64 (hs : List Int) : addM hs [] 199936 (zeroB 64) = (mill hs (zeroB 64), [], 200000, 0) := by
  unfold addM
  rw [if_neg (by decide), if_neg (by rw [zeroB_len]; decide), List.nil_append, zeroB_len]
  have : (zeroB 64).drop (64 / 64 * 64) = [] := by rw [List.drop_eq_nil_iff, zeroB_len]; decide
  rw [this]; rfl
theorem add_z {ws rr rs ys : List Int} {N M er : Int} (hR : addM z8.list rs N ys = (ws, rr, M, er)) (ra ba : Option Addr) (rn rc bn bc : Nat) (w : World) (hrn : rn = rs.length) (hbn : bn = ys.length) (hr : CellsAt w ra (rs.map (Value.int .u8))) (hy : CellsAt w ba (ys.map (Value.int .u8)))
    (hr8 : Bytes8 rs) (hy8 : Bytes8 ys) (hK : CellsAt w (some ⟨0, 0, none⟩) (kcs.map (Value.int .u32))) (hw0 : 0 < w.heap.size) (hb : rn + bn ≤ 140737488355327) :
    Calls Tryd.prog 9 #[.agg #[.int .u32 0, .int .u32 0, .int .u32 0, .int .u32 0, .int .u32 0, .int .u32 0, .int .u32 0, .int .u32 0, .slice ra rn rc, .int .i64 N], .slice ba bn bc] w fun e w' =>
      (∃ (u : V8) (a : Option Addr) (m c : Nat), e = .returned (.tuple #[.agg #[.int .u32 u.a, .int .u32 u.b, .int .u32 u.c, .int .u32 u.d, .int .u32 u.e, .int .u32 u.f, .int .u32 u.g, .int .u32 u.z, .slice a m c, .int .i64 M], .int .i64 er]) ∧ u.list = ws ∧ m = rr.length ∧ CellsAt w' a (rr.map (Value.int .u8))) ∧ Below w.heap.size w w' :=
  (add_r (v := z8) hR ra ba rn rc bn bc w z8_ok hrn hbn hr hy hr8 hy8 hK hw0 hb).mono fun _ _ h => by
    obtain ⟨⟨u, a, m, c, he, hu, hm, k, _⟩, hb⟩ := h
    exact ⟨⟨u, a, m, c, he, hu, hm, k⟩, hb⟩
theorem end_z {dl rs : List Int} {N : Int} {dv : List Value} {de : Int} (hD : endM z8.list rs N = (dl, de)) (hdv : dv = dl.map (Value.int .u8)) (ra : Option Addr) (rn rc : Nat) (w : World) (hrn : rn = rs.length) (hr : CellsAt w ra (rs.map (Value.int .u8))) (hr8 : Bytes8 rs) (hK : CellsAt w (some ⟨0, 0, none⟩) (kcs.map (Value.int .u32))) (hw0 : 0 < w.heap.size) :
    Calls Tryd.prog 11 #[.agg #[.int .u32 0, .int .u32 0, .int .u32 0, .int .u32 0, .int .u32 0, .int .u32 0, .int .u32 0, .int .u32 0, .slice ra rn rc, .int .i64 N]] w fun e w' =>
      e = .returned (.tuple #[.agg dv.toArray, .int .i64 de]) ∧ Below w.heap.size w w' := end_r (v := z8) hD hdv ra rn rc w z8_ok hrn hr hr8 hK hw0
theorem endM_bad (hs rs : List Int) (N : Int) (h : vdB N rs.length = false) : endM hs rs N = (List.replicate 32 0, 8) := by unfold endM; rw [if_pos h]
theorem endM_good (hs rs : List Int) (N : Int) (h : vdB N rs.length = true) : endM hs rs N = (endL hs rs N.toNat, 0) := by unfold endM; rw [if_neg (by rw [h]; simp)]
theorem sum_two : sumP [numsOf ⟨#[97, 98, 99, 100, 98, 99, 100, 101, 99, 100, 101, 102, 100, 101, 102, 103, 101, 102, 103, 104, 102, 103, 104, 105, 103, 104, 105, 106, 104, 105, 106, 107, 105, 106, 107, 108, 106, 107, 108, 109, 107, 108, 109, 110, 108, 109, 110, 111, 109, 110, 111, 112, 110, 111, 112, 113]⟩] = ([36, 141, 106, 97, 210, 6, 56, 184, 229, 192, 38, 147, 12, 62, 96, 57, 163, 60, 228, 89, 100, 255, 33, 103, 246, 236, 237, 212, 25, 219, 6, 193], 0) := by
  rw [show numsOf ⟨#[97, 98, 99, 100, 98, 99, 100, 101, 99, 100, 101, 102, 100, 101, 102, 103, 101, 102, 103, 104, 102, 103, 104, 105, 103, 104, 105, 106, 104, 105, 106, 107, 105, 106, 107, 108, 106, 107, 108, 109, 107, 108, 109, 110, 108, 109, 110, 111, 109, 110, 111, 112, 110, 111, 112, 113]⟩ = [97, 98, 99, 100, 98, 99, 100, 101, 99, 100, 101, 102, 100, 101, 102, 103, 101, 102, 103, 104, 102, 103, 104, 105, 103, 104, 105, 106, 104, 105, 106, 107, 105, 106, 107, 108, 106, 107, 108, 109, 107, 108, 109, 110, 108, 109, 110, 111, 109, 110, 111, 112, 110, 111, 112, 113] by decide]
  unfold sumP
  rw [if_neg (by simp [longB])]
  rw [List.flatten_singleton, known_two]

theorem cmp_1 (w : World) :
    Calls Tryd.prog 23 #[.agg #[.int .u8 0, .int .u8 0, .int .u8 0, .int .u8 0, .int .u8 0, .int .u8 0, .int .u8 0, .int .u8 0, .int .u8 0, .int .u8 0, .int .u8 0, .int .u8 0, .int .u8 0, .int .u8 0, .int .u8 0, .int .u8 0, .int .u8 0, .int .u8 0, .int .u8 0, .int .u8 0, .int .u8 0, .int .u8 0, .int .u8 0, .int .u8 0, .int .u8 0, .int .u8 0, .int .u8 0, .int .u8 0, .int .u8 0, .int .u8 0, .int .u8 0, .int .u8 0], .agg #[.int .u8 0, .int .u8 0, .int .u8 0, .int .u8 0, .int .u8 0, .int .u8 0, .int .u8 0, .int .u8 0, .int .u8 0, .int .u8 0, .int .u8 0, .int .u8 0, .int .u8 0, .int .u8 0, .int .u8 0, .int .u8 0, .int .u8 0, .int .u8 0, .int .u8 0, .int .u8 0, .int .u8 0, .int .u8 0, .int .u8 0, .int .u8 0, .int .u8 0, .int .u8 0, .int .u8 0, .int .u8 0, .int .u8 0, .int .u8 0, .int .u8 0, .int .u8 1]] w fun e w' =>
      e = .returned (.int .i64 (-1)) ∧ Below w.heap.size w w' := by
  have h := cmp_any [0, 0, 0, 0, 0, 0, 0, 0, 0, 0, 0, 0, 0, 0, 0, 0, 0, 0, 0, 0, 0, 0, 0, 0, 0, 0, 0, 0, 0, 0, 0, 0] [0, 0, 0, 0, 0, 0, 0, 0, 0, 0, 0, 0, 0, 0, 0, 0, 0, 0, 0, 0, 0, 0, 0, 0, 0, 0, 0, 0, 0, 0, 0, 1] w rfl rfl (b8_of (by decide)) (b8_of (by decide))
  rw [show cmpZ [0, 0, 0, 0, 0, 0, 0, 0, 0, 0, 0, 0, 0, 0, 0, 0, 0, 0, 0, 0, 0, 0, 0, 0, 0, 0, 0, 0, 0, 0, 0, 0] [0, 0, 0, 0, 0, 0, 0, 0, 0, 0, 0, 0, 0, 0, 0, 0, 0, 0, 0, 0, 0, 0, 0, 0, 0, 0, 0, 0, 0, 0, 0, 1] = (-1) by decide] at h
  exact h
theorem cmp_2 (w : World) :
    Calls Tryd.prog 23 #[.agg #[.int .u8 1, .int .u8 0, .int .u8 0, .int .u8 0, .int .u8 0, .int .u8 0, .int .u8 0, .int .u8 0, .int .u8 0, .int .u8 0, .int .u8 0, .int .u8 0, .int .u8 0, .int .u8 0, .int .u8 0, .int .u8 0, .int .u8 0, .int .u8 0, .int .u8 0, .int .u8 0, .int .u8 0, .int .u8 0, .int .u8 0, .int .u8 0, .int .u8 0, .int .u8 0, .int .u8 0, .int .u8 0, .int .u8 0, .int .u8 0, .int .u8 0, .int .u8 0], .agg #[.int .u8 0, .int .u8 0, .int .u8 0, .int .u8 0, .int .u8 0, .int .u8 0, .int .u8 0, .int .u8 0, .int .u8 0, .int .u8 0, .int .u8 0, .int .u8 0, .int .u8 0, .int .u8 0, .int .u8 0, .int .u8 0, .int .u8 0, .int .u8 0, .int .u8 0, .int .u8 0, .int .u8 0, .int .u8 0, .int .u8 0, .int .u8 0, .int .u8 0, .int .u8 0, .int .u8 0, .int .u8 0, .int .u8 0, .int .u8 0, .int .u8 0, .int .u8 255]] w fun e w' =>
      e = .returned (.int .i64 1) ∧ Below w.heap.size w w' := by
  have h := cmp_any [1, 0, 0, 0, 0, 0, 0, 0, 0, 0, 0, 0, 0, 0, 0, 0, 0, 0, 0, 0, 0, 0, 0, 0, 0, 0, 0, 0, 0, 0, 0, 0] [0, 0, 0, 0, 0, 0, 0, 0, 0, 0, 0, 0, 0, 0, 0, 0, 0, 0, 0, 0, 0, 0, 0, 0, 0, 0, 0, 0, 0, 0, 0, 255] w rfl rfl (b8_of (by decide)) (b8_of (by decide))
  rw [show cmpZ [1, 0, 0, 0, 0, 0, 0, 0, 0, 0, 0, 0, 0, 0, 0, 0, 0, 0, 0, 0, 0, 0, 0, 0, 0, 0, 0, 0, 0, 0, 0, 0] [0, 0, 0, 0, 0, 0, 0, 0, 0, 0, 0, 0, 0, 0, 0, 0, 0, 0, 0, 0, 0, 0, 0, 0, 0, 0, 0, 0, 0, 0, 0, 255] = 1 by decide] at h
  exact h
theorem cmp_3 (w : World) :
    Calls Tryd.prog 23 #[.agg #[.int .u8 255, .int .u8 0, .int .u8 0, .int .u8 0, .int .u8 0, .int .u8 0, .int .u8 0, .int .u8 0, .int .u8 0, .int .u8 0, .int .u8 0, .int .u8 0, .int .u8 0, .int .u8 0, .int .u8 0, .int .u8 0, .int .u8 0, .int .u8 0, .int .u8 0, .int .u8 0, .int .u8 0, .int .u8 0, .int .u8 0, .int .u8 0, .int .u8 0, .int .u8 0, .int .u8 0, .int .u8 0, .int .u8 0, .int .u8 0, .int .u8 0, .int .u8 0], .agg #[.int .u8 255, .int .u8 0, .int .u8 0, .int .u8 0, .int .u8 0, .int .u8 0, .int .u8 0, .int .u8 0, .int .u8 0, .int .u8 0, .int .u8 0, .int .u8 0, .int .u8 0, .int .u8 0, .int .u8 0, .int .u8 0, .int .u8 0, .int .u8 0, .int .u8 0, .int .u8 0, .int .u8 0, .int .u8 0, .int .u8 0, .int .u8 0, .int .u8 0, .int .u8 0, .int .u8 0, .int .u8 0, .int .u8 0, .int .u8 0, .int .u8 0, .int .u8 0]] w fun e w' =>
      e = .returned (.int .i64 0) ∧ Below w.heap.size w w' := by
  have h := cmp_any [255, 0, 0, 0, 0, 0, 0, 0, 0, 0, 0, 0, 0, 0, 0, 0, 0, 0, 0, 0, 0, 0, 0, 0, 0, 0, 0, 0, 0, 0, 0, 0] [255, 0, 0, 0, 0, 0, 0, 0, 0, 0, 0, 0, 0, 0, 0, 0, 0, 0, 0, 0, 0, 0, 0, 0, 0, 0, 0, 0, 0, 0, 0, 0] w rfl rfl (b8_of (by decide)) (b8_of (by decide))
  rw [show cmpZ [255, 0, 0, 0, 0, 0, 0, 0, 0, 0, 0, 0, 0, 0, 0, 0, 0, 0, 0, 0, 0, 0, 0, 0, 0, 0, 0, 0, 0, 0, 0, 0] [255, 0, 0, 0, 0, 0, 0, 0, 0, 0, 0, 0, 0, 0, 0, 0, 0, 0, 0, 0, 0, 0, 0, 0, 0, 0, 0, 0, 0, 0, 0, 0] = 0 by decide] at h
  exact h

set_option maxRecDepth 100000 in
set_option maxHeartbeats 8000000 in
theorem names_walk (w : World) (hK : CellsAt w (some ⟨0, 0, none⟩) (kcs.map (Value.int .u32))) (hw0 : 0 < w.heap.size) :
    Calls Tryd.prog 8 #[] w fun e w' =>
      e = .returned (.bool true) ∧ Below w.heap.size w w' := by
  have hwf : ∀ W, Below w.heap.size w W → 0 < W.heap.size := fun W h => Nat.lt_of_lt_of_le hw0 h.size
  obtain ⟨i0, hi, hz0, hz1, hz2⟩ := info_parts info_u8
  obtain ⟨j0, hj, hy0, hy1, hy2⟩ := info_parts info_row
  obtain ⟨pl, pD⟩ : ∃ dl, sumP [zeroB 10001] = (dl, 4) := ⟨_, (sumP_bad 10001 (by decide))⟩
  have pdl : pl.length = 32 := by have := sumP_len [zeroB 10001]; rw [pD] at this; exact this
  obtain ⟨pv, pdv⟩ : ∃ dv, dv = pl.map (Value.int .u8) := ⟨_, rfl⟩
  have pvl : pv.length = 32 := by rw [pdv, List.length_map, pdl]
  have po : ∀ x ∈ pv, x.oneCell' = true := by rw [pdv]; exact oneCell_ints _ _
  have pi : (Tryd.prog.info? 33).map (·.size) = some pv.length := by rw [pvl]; exact info32
  have pr : pv.length = (List.replicate 32 (Value.int .u8 0)).length := by rw [pvl]; rfl
  have H_pD := hid pD
  have H_pdl := hid pdl
  have H_pdv := hid pdv
  have H_pvl := hid pvl
  have H_po := hid po
  have H_pi := hid pi
  have H_pr := hid pr
  clear pD pdl pdv pvl po pi pr
  obtain ⟨ql, qD⟩ : ∃ dl, sumP [zeroB 10000] = (dl, 0) := ⟨_, (sumP_good 10000 (by decide))⟩
  have qdl : ql.length = 32 := by have := sumP_len [zeroB 10000]; rw [qD] at this; exact this
  obtain ⟨qv, qdv⟩ : ∃ dv, dv = ql.map (Value.int .u8) := ⟨_, rfl⟩
  have qvl : qv.length = 32 := by rw [qdv, List.length_map, qdl]
  have qo : ∀ x ∈ qv, x.oneCell' = true := by rw [qdv]; exact oneCell_ints _ _
  have qi : (Tryd.prog.info? 33).map (·.size) = some qv.length := by rw [qvl]; exact info32
  have qr : qv.length = (List.replicate 32 (Value.int .u8 0)).length := by rw [qvl]; rfl
  have H_qD := hid qD
  have H_qdl := hid qdl
  have H_qdv := hid qdv
  have H_qvl := hid qvl
  have H_qo := hid qo
  have H_qi := hid qi
  have H_qr := hid qr
  clear qD qdl qdv qvl qo qi qr
  obtain ⟨rl, rD⟩ : ∃ dl, sumP (nilP 21) = (dl, 4) := ⟨_, (sumP_many 21 (by decide))⟩
  have rdl : rl.length = 32 := by have := sumP_len (nilP 21); rw [rD] at this; exact this
  obtain ⟨rv, rdv⟩ : ∃ dv, dv = rl.map (Value.int .u8) := ⟨_, rfl⟩
  have rvl : rv.length = 32 := by rw [rdv, List.length_map, rdl]
  have ro : ∀ x ∈ rv, x.oneCell' = true := by rw [rdv]; exact oneCell_ints _ _
  have ri : (Tryd.prog.info? 33).map (·.size) = some rv.length := by rw [rvl]; exact info32
  have rr : rv.length = (List.replicate 32 (Value.int .u8 0)).length := by rw [rvl]; rfl
  have H_rD := hid rD
  have H_rdl := hid rdl
  have H_rdv := hid rdv
  have H_rvl := hid rvl
  have H_ro := hid ro
  have H_ri := hid ri
  have H_rr := hid rr
  clear rD rdl rdv rvl ro ri rr
  obtain ⟨sl, sD⟩ : ∃ dl, sumP (nilP 20) = (dl, 0) := ⟨_, (sumP_nils 20 (by decide))⟩
  have sdl : sl.length = 32 := by have := sumP_len (nilP 20); rw [sD] at this; exact this
  obtain ⟨sv, sdv⟩ : ∃ dv, dv = sl.map (Value.int .u8) := ⟨_, rfl⟩
  have svl : sv.length = 32 := by rw [sdv, List.length_map, sdl]
  have so : ∀ x ∈ sv, x.oneCell' = true := by rw [sdv]; exact oneCell_ints _ _
  have si : (Tryd.prog.info? 33).map (·.size) = some sv.length := by rw [svl]; exact info32
  have sr : sv.length = (List.replicate 32 (Value.int .u8 0)).length := by rw [svl]; rfl
  have H_sD := hid sD
  have H_sdl := hid sdl
  have H_sdv := hid sdv
  have H_svl := hid svl
  have H_so := hid so
  have H_si := hid si
  have H_sr := hid sr
  clear sD sdl sdv svl so si sr
  obtain ⟨yl, yD⟩ : ∃ dl, sumP [[], zeroB 10001] = (dl, 4) := ⟨_, (sumP_bad2 10001 (by decide))⟩
  have ydl : yl.length = 32 := by have := sumP_len [[], zeroB 10001]; rw [yD] at this; exact this
  obtain ⟨yv, ydv⟩ : ∃ dv, dv = yl.map (Value.int .u8) := ⟨_, rfl⟩
  have yvl : yv.length = 32 := by rw [ydv, List.length_map, ydl]
  have yo : ∀ x ∈ yv, x.oneCell' = true := by rw [ydv]; exact oneCell_ints _ _
  have yi : (Tryd.prog.info? 33).map (·.size) = some yv.length := by rw [yvl]; exact info32
  have yr : yv.length = (List.replicate 32 (Value.int .u8 0)).length := by rw [yvl]; rfl
  have H_yD := hid yD
  have H_ydl := hid ydl
  have H_ydv := hid ydv
  have H_yvl := hid yvl
  have H_yo := hid yo
  have H_yi := hid yi
  have H_yr := hid yr
  clear yD ydl ydv yvl yo yi yr
  have H_sE := hid (show sumP [] = (sl, 0) from (sumP_nils 0 (by decide)).trans ((sumP_nils 20 (by decide)).symm.trans H_sD.out))
  obtain ⟨zl, zD⟩ : ∃ dl, endM z8.list [] 200064 = (dl, 8) := ⟨_, (endM_bad _ _ _ (by decide))⟩
  have zdl : zl.length = 32 := by have := endM_len z8.list [] 200064; rw [zD] at this; exact this
  obtain ⟨zv, zdv⟩ : ∃ dv, dv = zl.map (Value.int .u8) := ⟨_, rfl⟩
  have zvl : zv.length = 32 := by rw [zdv, List.length_map, zdl]
  have zo : ∀ x ∈ zv, x.oneCell' = true := by rw [zdv]; exact oneCell_ints _ _
  have zi : (Tryd.prog.info? 33).map (·.size) = some zv.length := by rw [zvl]; exact info32
  have zr : zv.length = (List.replicate 32 (Value.int .u8 0)).length := by rw [zvl]; rfl
  have H_zD := hid zD
  have H_zdl := hid zdl
  have H_zdv := hid zdv
  have H_zvl := hid zvl
  have H_zo := hid zo
  have H_zi := hid zi
  have H_zr := hid zr
  clear zD zdl zdv zvl zo zi zr
  have H_sq := hid (show ∀ w, (Op.equalIn 10000 33 (.agg sv.toArray) (.agg sv.toArray)).run Tryd.prog w = .ok true w from fun w => by
    rw [H_sdv.out, eq_ids sl sl H_sdl.out H_sdl.out]; simp)
  go_enter Tryd.func8, Tryd.ntmps8
  have hb0 := Below.refl w.heap.size w
  go_wp2_with fail
  with_reducible refine (is_any _ _ 36 141 106 97 193 _ (by simp [maxLen]; decide) sum_two rfl rfl rfl rfl rfl hK hw0).mono ?_
  rintro e w1 ⟨rfl, hc1⟩
  have hb1 : Below w.heap.size w w1 := bchain (by repeat' (first | with_reducible exact hb0 | with_reducible refine Below.drew ?_ | with_reducible refine below_drewN ?_ _ | with_reducible refine Below.alloc ?_ (by have := hb0.size; first | (simp; done) | (simp; omega) | omega) _ | with_reducible refine Below.setCell ?_ (by first | (simp; done) | (simp; omega) | omega) _)) hc1
  clear hc1 hb0
  go_wp2_with (refine wpList_make1 rfl 24 _ _ rfl 10001 (by rfl) (by rfl) 5 i0 (.int .u8 0) Tryd.underlying24 hi hz0 hz1 (by rw [hz2]; omega) (by omega) rfl ?_; intro b2 w2 hc2 k2)
  rw [show (List.replicate 10001 (Value.int .u8 0)) = (zeroB 10001).map (Value.int .u8) from (List.map_replicate ..).symm] at k2
  have hb2 : Below w.heap.size w w2 := bchain (by repeat' (first | with_reducible exact hb1 | with_reducible refine Below.drew ?_ | with_reducible refine below_drewN ?_ _ | with_reducible refine Below.alloc ?_ (by have := hb1.size; first | (simp; done) | (simp; omega) | omega) _ | with_reducible refine Below.setCell ?_ (by first | (simp; done) | (simp; omega) | omega) _)) hc2
  clear hc2
  with_reducible refine (sum_r' H_pD.out H_pdv.out _ 10001 10001 _ (zeroB_len _).symm k2 (zeroB_b8 _) (by rw [zeroB_len]; simp [maxLen]) (hK.later hb2) (hwf _ hb2)).mono ?_
  rintro e w3 ⟨rfl, hc3⟩
  have hb3 : Below w.heap.size w w3 := bchain (by repeat' (first | with_reducible exact hb2 | with_reducible refine Below.drew ?_ | with_reducible refine below_drewN ?_ _ | with_reducible refine Below.alloc ?_ (by have := hb2.size; first | (simp; done) | (simp; omega) | omega) _ | with_reducible refine Below.setCell ?_ (by first | (simp; done) | (simp; omega) | omega) _)) hc3
  have hst3 : Below w2.heap.size w2 w3 := bchain (by repeat' (first | with_reducible exact Below.refl _ _ | with_reducible refine Below.drew ?_ | with_reducible refine below_drewN ?_ _ | with_reducible refine Below.alloc ?_ (by first | (simp; done) | (simp; omega) | omega) _ | with_reducible refine Below.setCell ?_ (by first | (simp; done) | (simp; omega) | omega) _)) hc3
  replace k2 := k2.later hst3
  clear hst3
  clear hc3
  have hN3 := Blk.new w3 w3.heap.size (List.replicate 32 (Value.int .u8 0)) 33 rfl
  go_upto_region 3 with (refine wpList_store_blk rfl 33 _ _ rfl w3.heap.size (by first | rfl | (simp [Act.eval]; done) | (go_simp; done)) 33 _ pv (by first | rfl | (simp [Act.eval]; done) | (go_simp; done)) hN3 H_pr.out H_pi.out H_po.out ?_; intro w4 hA4 he; have HW := hid he; clear he)
  have hc4 : Below w3.heap.size w3 w4 := HW.out ▸ below_setCells (Nat.le_refl _) _ _ _ ((Below.refl _ _).alloc (Nat.le_refl _) _)
  clear hN3 HW
  have hb4 : Below w.heap.size w w4 := bchain (by repeat' (first | with_reducible exact hb3 | with_reducible refine Below.drew ?_ | with_reducible refine below_drewN ?_ _ | with_reducible refine Below.alloc ?_ (by have := hb3.size; first | (simp; done) | (simp; omega) | omega) _ | with_reducible refine Below.setCell ?_ (by first | (simp; done) | (simp; omega) | omega) _)) hc4
  clear hc4
  go_wp2_with (refine wpList_make1 rfl 24 _ _ rfl 10000 (by rfl) (by rfl) 5 i0 (.int .u8 0) Tryd.underlying24 hi hz0 hz1 (by rw [hz2]; omega) (by omega) rfl ?_; intro b5 w5 hc5 k5)
  rw [show (List.replicate 10000 (Value.int .u8 0)) = (zeroB 10000).map (Value.int .u8) from (List.map_replicate ..).symm] at k5
  have hb5 : Below w.heap.size w w5 := bchain (by repeat' (first | with_reducible exact hb4 | with_reducible refine Below.drew ?_ | with_reducible refine below_drewN ?_ _ | with_reducible refine Below.alloc ?_ (by have := hb4.size; first | (simp; done) | (simp; omega) | omega) _ | with_reducible refine Below.setCell ?_ (by first | (simp; done) | (simp; omega) | omega) _)) hc5
  clear hc5
  with_reducible refine (sum_r' H_qD.out H_qdv.out _ 10000 10000 _ (zeroB_len _).symm k5 (zeroB_b8 _) (by rw [zeroB_len]; simp [maxLen]) (hK.later hb5) (hwf _ hb5)).mono ?_
  rintro e w6 ⟨rfl, hc6⟩
  have hb6 : Below w.heap.size w w6 := bchain (by repeat' (first | with_reducible exact hb5 | with_reducible refine Below.drew ?_ | with_reducible refine below_drewN ?_ _ | with_reducible refine Below.alloc ?_ (by have := hb5.size; first | (simp; done) | (simp; omega) | omega) _ | with_reducible refine Below.setCell ?_ (by first | (simp; done) | (simp; omega) | omega) _)) hc6
  have hst6 : Below w5.heap.size w5 w6 := bchain (by repeat' (first | with_reducible exact Below.refl _ _ | with_reducible refine Below.drew ?_ | with_reducible refine below_drewN ?_ _ | with_reducible refine Below.alloc ?_ (by first | (simp; done) | (simp; omega) | omega) _ | with_reducible refine Below.setCell ?_ (by first | (simp; done) | (simp; omega) | omega) _)) hc6
  replace k5 := k5.later hst6
  clear hst6
  clear hc6
  have hN6 := Blk.new w6 w6.heap.size (List.replicate 32 (Value.int .u8 0)) 33 rfl
  go_upto_region 4 with (refine wpList_store_blk rfl 33 _ _ rfl w6.heap.size (by first | rfl | (simp [Act.eval]; done) | (go_simp; done)) 33 _ qv (by first | rfl | (simp [Act.eval]; done) | (go_simp; done)) hN6 H_qr.out H_qi.out H_qo.out ?_; intro w7 hA7 he; have HW := hid he; clear he)
  have hc7 : Below w6.heap.size w6 w7 := HW.out ▸ below_setCells (Nat.le_refl _) _ _ _ ((Below.refl _ _).alloc (Nat.le_refl _) _)
  clear hN6 HW
  have hb7 : Below w.heap.size w w7 := bchain (by repeat' (first | with_reducible exact hb6 | with_reducible refine Below.drew ?_ | with_reducible refine below_drewN ?_ _ | with_reducible refine Below.alloc ?_ (by have := hb6.size; first | (simp; done) | (simp; omega) | omega) _ | with_reducible refine Below.setCell ?_ (by first | (simp; done) | (simp; omega) | omega) _)) hc7
  clear hc7
  go_wp2_with (refine wpList_make1 rfl 42 _ _ rfl 21 (by rfl) (by rfl) 24 j0 (.slice none 0 0) Tryd.underlying42 hj hy0 hy1 (by rw [hy2]; omega) (by omega) rfl ?_; intro b8 w8 hc8 k8)
  replace k8 : CellsAt w8 (some ⟨b8, 0, none⟩) (nilV 21) := k8
  have hb8 : Below w.heap.size w w8 := bchain (by repeat' (first | with_reducible exact hb7 | with_reducible refine Below.drew ?_ | with_reducible refine below_drewN ?_ _ | with_reducible refine Below.alloc ?_ (by have := hb7.size; first | (simp; done) | (simp; omega) | omega) _ | with_reducible refine Below.setCell ?_ (by first | (simp; done) | (simp; omega) | omega) _)) hc8
  clear hc8
  with_reducible refine (pieces_r' H_rD.out H_rdv.out _ _ 21 21 _ (nilP_in k8 (by simp [maxLen])) (nilP_len _).symm (hK.later hb8) (hwf _ hb8)).mono ?_
  rintro e w9 ⟨rfl, hc9⟩
  have hb9 : Below w.heap.size w w9 := bchain (by repeat' (first | with_reducible exact hb8 | with_reducible refine Below.drew ?_ | with_reducible refine below_drewN ?_ _ | with_reducible refine Below.alloc ?_ (by have := hb8.size; first | (simp; done) | (simp; omega) | omega) _ | with_reducible refine Below.setCell ?_ (by first | (simp; done) | (simp; omega) | omega) _)) hc9
  have hst9 : Below w8.heap.size w8 w9 := bchain (by repeat' (first | with_reducible exact Below.refl _ _ | with_reducible refine Below.drew ?_ | with_reducible refine below_drewN ?_ _ | with_reducible refine Below.alloc ?_ (by first | (simp; done) | (simp; omega) | omega) _ | with_reducible refine Below.setCell ?_ (by first | (simp; done) | (simp; omega) | omega) _)) hc9
  replace k8 := k8.later hst9
  clear hst9
  clear hc9
  have hN9 := Blk.new w9 w9.heap.size (List.replicate 32 (Value.int .u8 0)) 33 rfl
  go_upto_region 5 with (refine wpList_store_blk rfl 33 _ _ rfl w9.heap.size (by first | rfl | (simp [Act.eval]; done) | (go_simp; done)) 33 _ rv (by first | rfl | (simp [Act.eval]; done) | (go_simp; done)) hN9 H_rr.out H_ri.out H_ro.out ?_; intro w10 hA10 he; have HW := hid he; clear he)
  have hc10 : Below w9.heap.size w9 w10 := HW.out ▸ below_setCells (Nat.le_refl _) _ _ _ ((Below.refl _ _).alloc (Nat.le_refl _) _)
  clear hN9 HW
  have hb10 : Below w.heap.size w w10 := bchain (by repeat' (first | with_reducible exact hb9 | with_reducible refine Below.drew ?_ | with_reducible refine below_drewN ?_ _ | with_reducible refine Below.alloc ?_ (by have := hb9.size; first | (simp; done) | (simp; omega) | omega) _ | with_reducible refine Below.setCell ?_ (by first | (simp; done) | (simp; omega) | omega) _)) hc10
  clear hc10
  go_wp2_with (refine wpList_make1 rfl 42 _ _ rfl 20 (by rfl) (by rfl) 24 j0 (.slice none 0 0) Tryd.underlying42 hj hy0 hy1 (by rw [hy2]; omega) (by omega) rfl ?_; intro b11 w11 hc11 k11)
  replace k11 : CellsAt w11 (some ⟨b11, 0, none⟩) (nilV 20) := k11
  have hb11 : Below w.heap.size w w11 := bchain (by repeat' (first | with_reducible exact hb10 | with_reducible refine Below.drew ?_ | with_reducible refine below_drewN ?_ _ | with_reducible refine Below.alloc ?_ (by have := hb10.size; first | (simp; done) | (simp; omega) | omega) _ | with_reducible refine Below.setCell ?_ (by first | (simp; done) | (simp; omega) | omega) _)) hc11
  clear hc11
  with_reducible refine (pieces_r' H_sD.out H_sdv.out _ _ 20 20 _ (nilP_in k11 (by simp [maxLen])) (nilP_len _).symm (hK.later hb11) (hwf _ hb11)).mono ?_
  rintro e w12 ⟨rfl, hc12⟩
  have hb12 : Below w.heap.size w w12 := bchain (by repeat' (first | with_reducible exact hb11 | with_reducible refine Below.drew ?_ | with_reducible refine below_drewN ?_ _ | with_reducible refine Below.alloc ?_ (by have := hb11.size; first | (simp; done) | (simp; omega) | omega) _ | with_reducible refine Below.setCell ?_ (by first | (simp; done) | (simp; omega) | omega) _)) hc12
  have hst12 : Below w11.heap.size w11 w12 := bchain (by repeat' (first | with_reducible exact Below.refl _ _ | with_reducible refine Below.drew ?_ | with_reducible refine below_drewN ?_ _ | with_reducible refine Below.alloc ?_ (by first | (simp; done) | (simp; omega) | omega) _ | with_reducible refine Below.setCell ?_ (by first | (simp; done) | (simp; omega) | omega) _)) hc12
  replace k11 := k11.later hst12
  clear hst12
  clear hc12
  have hN12 := Blk.new w12 w12.heap.size (List.replicate 32 (Value.int .u8 0)) 33 rfl
  go_upto_region 6 with (refine wpList_store_blk rfl 33 _ _ rfl w12.heap.size (by first | rfl | (simp [Act.eval]; done) | (go_simp; done)) 33 _ sv (by first | rfl | (simp [Act.eval]; done) | (go_simp; done)) hN12 H_sr.out H_si.out H_so.out ?_; intro w13 hA13 he; have HW := hid he; clear he)
  have hc13 : Below w12.heap.size w12 w13 := HW.out ▸ below_setCells (Nat.le_refl _) _ _ _ ((Below.refl _ _).alloc (Nat.le_refl _) _)
  clear hN12 HW
  have hb13 : Below w.heap.size w w13 := bchain (by repeat' (first | with_reducible exact hb12 | with_reducible refine Below.drew ?_ | with_reducible refine below_drewN ?_ _ | with_reducible refine Below.alloc ?_ (by have := hb12.size; first | (simp; done) | (simp; omega) | omega) _ | with_reducible refine Below.setCell ?_ (by first | (simp; done) | (simp; omega) | omega) _)) hc13
  clear hc13
  go_wp2_with (refine wpList_make1 rfl 24 _ _ rfl 10001 (by rfl) (by rfl) 5 i0 (.int .u8 0) Tryd.underlying24 hi hz0 hz1 (by rw [hz2]; omega) (by omega) rfl ?_; intro b14 w14 hc14 k14)
  rw [show (List.replicate 10001 (Value.int .u8 0)) = (zeroB 10001).map (Value.int .u8) from (List.map_replicate ..).symm] at k14
  have hb14 : Below w.heap.size w w14 := bchain (by repeat' (first | with_reducible exact hb13 | with_reducible refine Below.drew ?_ | with_reducible refine below_drewN ?_ _ | with_reducible refine Below.alloc ?_ (by have := hb13.size; first | (simp; done) | (simp; omega) | omega) _ | with_reducible refine Below.setCell ?_ (by first | (simp; done) | (simp; omega) | omega) _)) hc14
  have hst14 : Below w13.heap.size w13 w14 := bchain (by repeat' (first | with_reducible exact Below.refl _ _ | with_reducible refine Below.drew ?_ | with_reducible refine below_drewN ?_ _ | with_reducible refine Below.alloc ?_ (by first | (simp; done) | (simp; omega) | omega) _ | with_reducible refine Below.setCell ?_ (by first | (simp; done) | (simp; omega) | omega) _)) hc14
  replace hA13 := hA13.later hst14
  clear hst14
  clear hc14
  go_wp2_with fail
  refine Calls_gen fun w15 hc15 => ?_
  have kx15 := (row_cells w14 [.slice none 0 0, .slice (some ⟨b14, 0, none⟩) 10001 10001] 24 (0, 0) _ rfl #[.slice none 0 0, .slice (some ⟨b14, 0, none⟩) 10001 10001] rfl).later hc15
  have hb15 : Below w.heap.size w w15 := bchain (by repeat' (first | with_reducible exact hb14 | with_reducible refine Below.drew ?_ | with_reducible refine below_drewN ?_ _ | with_reducible refine Below.alloc ?_ (by have := hb14.size; first | (simp; done) | (simp; omega) | omega) _ | with_reducible refine Below.setCell ?_ (by first | (simp; done) | (simp; omega) | omega) _)) hc15
  have hst15 : Below w14.heap.size w14 w15 := bchain (by repeat' (first | with_reducible exact Below.refl _ _ | with_reducible refine Below.drew ?_ | with_reducible refine below_drewN ?_ _ | with_reducible refine Below.alloc ?_ (by first | (simp; done) | (simp; omega) | omega) _ | with_reducible refine Below.setCell ?_ (by first | (simp; done) | (simp; omega) | omega) _)) hc15
  replace hA13 := hA13.later hst15
  replace k14 := k14.later hst15
  clear hst15
  clear hc15
  have hP15 : PiecesIn w15 (some ⟨w14.heap.size, 0, none⟩) [.slice none 0 0, .slice (some ⟨b14, 0, none⟩) 10001 10001] [[], zeroB 10001] :=
    ⟨kx15, ⟨⟨none, 0, rfl, .inl rfl, Bytes8.nil, by simp [maxLen]⟩, ⟨_, 10001, by rw [zeroB_len], k14, zeroB_b8 _, by rw [zeroB_len]; simp [maxLen]⟩, trivial⟩, rfl, by simp [maxLen]⟩
  with_reducible refine (pieces_r' H_yD.out H_ydv.out _ _ 2 2 _ hP15 rfl (hK.later hb15) (hwf _ hb15)).mono ?_
  rintro e w16 ⟨rfl, hc16⟩
  have hb16 : Below w.heap.size w w16 := bchain (by repeat' (first | with_reducible exact hb15 | with_reducible refine Below.drew ?_ | with_reducible refine below_drewN ?_ _ | with_reducible refine Below.alloc ?_ (by have := hb15.size; first | (simp; done) | (simp; omega) | omega) _ | with_reducible refine Below.setCell ?_ (by first | (simp; done) | (simp; omega) | omega) _)) hc16
  have hst16 : Below w15.heap.size w15 w16 := bchain (by repeat' (first | with_reducible exact Below.refl _ _ | with_reducible refine Below.drew ?_ | with_reducible refine below_drewN ?_ _ | with_reducible refine Below.alloc ?_ (by first | (simp; done) | (simp; omega) | omega) _ | with_reducible refine Below.setCell ?_ (by first | (simp; done) | (simp; omega) | omega) _)) hc16
  replace hA13 := hA13.later hst16
  replace k14 := k14.later hst16
  clear hst16
  clear hc16 hP15 kx15
  have hN16 := Blk.new w16 w16.heap.size (List.replicate 32 (Value.int .u8 0)) 33 rfl
  go_upto_region 7 with (refine wpList_store_blk rfl 33 _ _ rfl w16.heap.size (by first | rfl | (simp [Act.eval]; done) | (go_simp; done)) 33 _ yv (by first | rfl | (simp [Act.eval]; done) | (go_simp; done)) hN16 H_yr.out H_yi.out H_yo.out ?_; intro w17 hA17 he; have HW := hid he; clear he)
  have hc17 : Below w16.heap.size w16 w17 := HW.out ▸ below_setCells (Nat.le_refl _) _ _ _ ((Below.refl _ _).alloc (Nat.le_refl _) _)
  clear hN16 HW
  have hb17 : Below w.heap.size w w17 := bchain (by repeat' (first | with_reducible exact hb16 | with_reducible refine Below.drew ?_ | with_reducible refine below_drewN ?_ _ | with_reducible refine Below.alloc ?_ (by have := hb16.size; first | (simp; done) | (simp; omega) | omega) _ | with_reducible refine Below.setCell ?_ (by first | (simp; done) | (simp; omega) | omega) _)) hc17
  have hst17 : Below w16.heap.size w16 w17 := bchain (by repeat' (first | with_reducible exact Below.refl _ _ | with_reducible refine Below.drew ?_ | with_reducible refine below_drewN ?_ _ | with_reducible refine Below.alloc ?_ (by first | (simp; done) | (simp; omega) | omega) _ | with_reducible refine Below.setCell ?_ (by first | (simp; done) | (simp; omega) | omega) _)) hc17
  replace hA13 := hA13.later hst17
  clear hst17
  clear hc17
  go_wp2_with fail
  with_reducible refine (pieces_r' H_sE.out H_sdv.out [] none 0 0 _ (nilPieces _) rfl (hK.later hb17) (hwf _ hb17)).mono ?_
  rintro e w18 ⟨rfl, hc18⟩
  have hb18 : Below w.heap.size w w18 := bchain (by repeat' (first | with_reducible exact hb17 | with_reducible refine Below.drew ?_ | with_reducible refine below_drewN ?_ _ | with_reducible refine Below.alloc ?_ (by have := hb17.size; first | (simp; done) | (simp; omega) | omega) _ | with_reducible refine Below.setCell ?_ (by first | (simp; done) | (simp; omega) | omega) _)) hc18
  have hst18 : Below w17.heap.size w17 w18 := bchain (by repeat' (first | with_reducible exact Below.refl _ _ | with_reducible refine Below.drew ?_ | with_reducible refine below_drewN ?_ _ | with_reducible refine Below.alloc ?_ (by first | (simp; done) | (simp; omega) | omega) _ | with_reducible refine Below.setCell ?_ (by first | (simp; done) | (simp; omega) | omega) _)) hc18
  replace hA13 := hA13.later hst18
  clear hst18
  clear hc18
  have hN18 := Blk.new w18 w18.heap.size (List.replicate 32 (Value.int .u8 0)) 33 rfl
  go_upto_region 8 with (refine wpList_store_blk rfl 33 _ _ rfl w18.heap.size (by first | rfl | (simp [Act.eval]; done) | (go_simp; done)) 33 _ sv (by first | rfl | (simp [Act.eval]; done) | (go_simp; done)) hN18 H_sr.out H_si.out H_so.out ?_; intro w19 hA19 he; have HW := hid he; clear he)
  have hc19 : Below w18.heap.size w18 w19 := HW.out ▸ below_setCells (Nat.le_refl _) _ _ _ ((Below.refl _ _).alloc (Nat.le_refl _) _)
  clear hN18 HW
  have hb19 : Below w.heap.size w w19 := bchain (by repeat' (first | with_reducible exact hb18 | with_reducible refine Below.drew ?_ | with_reducible refine below_drewN ?_ _ | with_reducible refine Below.alloc ?_ (by have := hb18.size; first | (simp; done) | (simp; omega) | omega) _ | with_reducible refine Below.setCell ?_ (by first | (simp; done) | (simp; omega) | omega) _)) hc19
  have hst19 : Below w18.heap.size w18 w19 := bchain (by repeat' (first | with_reducible exact Below.refl _ _ | with_reducible refine Below.drew ?_ | with_reducible refine below_drewN ?_ _ | with_reducible refine Below.alloc ?_ (by first | (simp; done) | (simp; omega) | omega) _ | with_reducible refine Below.setCell ?_ (by first | (simp; done) | (simp; omega) | omega) _)) hc19
  replace hA13 := hA13.later hst19
  clear hst19
  clear hc19
  go_wp2_with fail
  with_reducible refine (add_z (addM_v _ [] (-64) [] (by decide)) none none 0 0 0 0 _ rfl rfl (nilCells _ _ _) (nilCells _ _ _) Bytes8.nil Bytes8.nil (hK.later hb19) (hwf _ hb19) (by omega)).mono ?_
  rintro e w20 ⟨⟨u20, a20, m20, c20, rfl, _, _, _⟩, hc20⟩
  have hb20 : Below w.heap.size w w20 := bchain (by repeat' (first | with_reducible exact hb19 | with_reducible refine Below.drew ?_ | with_reducible refine below_drewN ?_ _ | with_reducible refine Below.alloc ?_ (by have := hb19.size; first | (simp; done) | (simp; omega) | omega) _ | with_reducible refine Below.setCell ?_ (by first | (simp; done) | (simp; omega) | omega) _)) hc20
  have hst20 : Below w19.heap.size w19 w20 := bchain (by repeat' (first | with_reducible exact Below.refl _ _ | with_reducible refine Below.drew ?_ | with_reducible refine below_drewN ?_ _ | with_reducible refine Below.alloc ?_ (by first | (simp; done) | (simp; omega) | omega) _ | with_reducible refine Below.setCell ?_ (by first | (simp; done) | (simp; omega) | omega) _)) hc20
  replace hA13 := hA13.later hst20
  replace hA19 := hA19.later hst20
  clear hst20
  clear hc20 hb19
  have hN20 := Blk.newA w20 w20.heap.size _ 26 [.int .u32 0, .int .u32 0, .int .u32 0, .int .u32 0, .int .u32 0, .int .u32 0, .int .u32 0, .int .u32 0, .slice none 0 0, .int .i64 0] rfl rfl
  go_upto_region 9 with (refine wpList_store_blk rfl 26 _ _ rfl w20.heap.size (by first | rfl | (simp [Act.eval]; done) | (go_simp; done)) 26 _ [.int .u32 u20.a, .int .u32 u20.b, .int .u32 u20.c, .int .u32 u20.d, .int .u32 u20.e, .int .u32 u20.f, .int .u32 u20.g, .int .u32 u20.z, .slice a20 m20 c20, .int .i64 0] (by first | rfl | (simp [Act.eval]; done) | (go_simp; done)) hN20 (by rfl) infoM (mill_one _ _ _ _ _) ?_; intro w21 hM21 he; have HW := hid he; clear he)
  have hc21 : Below w20.heap.size w20 w21 := HW.out ▸ below_setCells (Nat.le_refl _) _ _ _ ((Below.refl _ _).alloc (Nat.le_refl _) _)
  clear hN20 HW
  have hd21 := hc21
  have hb21 : Below w.heap.size w w21 := bchain (by repeat' (first | with_reducible exact hb20 | with_reducible refine Below.drew ?_ | with_reducible refine below_drewN ?_ _ | with_reducible refine Below.alloc ?_ (by have := hb20.size; first | (simp; done) | (simp; omega) | omega) _ | with_reducible refine Below.setCell ?_ (by first | (simp; done) | (simp; omega) | omega) _)) hc21
  have hst21 : Below w20.heap.size w20 w21 := bchain (by repeat' (first | with_reducible exact Below.refl _ _ | with_reducible refine Below.drew ?_ | with_reducible refine below_drewN ?_ _ | with_reducible refine Below.alloc ?_ (by first | (simp; done) | (simp; omega) | omega) _ | with_reducible refine Below.setCell ?_ (by first | (simp; done) | (simp; omega) | omega) _)) hc21
  replace hA13 := hA13.later hst21
  replace hA19 := hA19.later hst21
  clear hst21
  clear hc21
  clear hd21 hM21
  go_wp2_with fail
  with_reducible refine (add_z (addM_v _ [] 1 [] (by decide)) none none 0 0 0 0 _ rfl rfl (nilCells _ _ _) (nilCells _ _ _) Bytes8.nil Bytes8.nil (hK.later hb21) (hwf _ hb21) (by omega)).mono ?_
  rintro e w22 ⟨⟨u22, a22, m22, c22, rfl, _, _, _⟩, hc22⟩
  have hb22 : Below w.heap.size w w22 := bchain (by repeat' (first | with_reducible exact hb21 | with_reducible refine Below.drew ?_ | with_reducible refine below_drewN ?_ _ | with_reducible refine Below.alloc ?_ (by have := hb21.size; first | (simp; done) | (simp; omega) | omega) _ | with_reducible refine Below.setCell ?_ (by first | (simp; done) | (simp; omega) | omega) _)) hc22
  have hst22 : Below w21.heap.size w21 w22 := bchain (by repeat' (first | with_reducible exact Below.refl _ _ | with_reducible refine Below.drew ?_ | with_reducible refine below_drewN ?_ _ | with_reducible refine Below.alloc ?_ (by first | (simp; done) | (simp; omega) | omega) _ | with_reducible refine Below.setCell ?_ (by first | (simp; done) | (simp; omega) | omega) _)) hc22
  replace hA13 := hA13.later hst22
  replace hA19 := hA19.later hst22
  clear hst22
  clear hc22 hb21
  have hN22 := Blk.newA w22 w22.heap.size _ 26 [.int .u32 0, .int .u32 0, .int .u32 0, .int .u32 0, .int .u32 0, .int .u32 0, .int .u32 0, .int .u32 0, .slice none 0 0, .int .i64 0] rfl rfl
  go_upto_region 10 with (refine wpList_store_blk rfl 26 _ _ rfl w22.heap.size (by first | rfl | (simp [Act.eval]; done) | (go_simp; done)) 26 _ [.int .u32 u22.a, .int .u32 u22.b, .int .u32 u22.c, .int .u32 u22.d, .int .u32 u22.e, .int .u32 u22.f, .int .u32 u22.g, .int .u32 u22.z, .slice a22 m22 c22, .int .i64 0] (by first | rfl | (simp [Act.eval]; done) | (go_simp; done)) hN22 (by rfl) infoM (mill_one _ _ _ _ _) ?_; intro w23 hM23 he; have HW := hid he; clear he)
  have hc23 : Below w22.heap.size w22 w23 := HW.out ▸ below_setCells (Nat.le_refl _) _ _ _ ((Below.refl _ _).alloc (Nat.le_refl _) _)
  clear hN22 HW
  have hd23 := hc23
  have hb23 : Below w.heap.size w w23 := bchain (by repeat' (first | with_reducible exact hb22 | with_reducible refine Below.drew ?_ | with_reducible refine below_drewN ?_ _ | with_reducible refine Below.alloc ?_ (by have := hb22.size; first | (simp; done) | (simp; omega) | omega) _ | with_reducible refine Below.setCell ?_ (by first | (simp; done) | (simp; omega) | omega) _)) hc23
  have hst23 : Below w22.heap.size w22 w23 := bchain (by repeat' (first | with_reducible exact Below.refl _ _ | with_reducible refine Below.drew ?_ | with_reducible refine below_drewN ?_ _ | with_reducible refine Below.alloc ?_ (by first | (simp; done) | (simp; omega) | omega) _ | with_reducible refine Below.setCell ?_ (by first | (simp; done) | (simp; omega) | omega) _)) hc23
  replace hA13 := hA13.later hst23
  replace hA19 := hA19.later hst23
  clear hst23
  clear hc23
  clear hd23 hM23
  go_wp2_with (refine wpList_make1 rfl 24 _ _ rfl 64 (by rfl) (by rfl) 5 i0 (.int .u8 0) Tryd.underlying24 hi hz0 hz1 (by rw [hz2]; omega) (by omega) rfl ?_; intro b24 w24 hc24 k24)
  rw [show (List.replicate 64 (Value.int .u8 0)) = (zeroB 64).map (Value.int .u8) from (List.map_replicate ..).symm] at k24
  have hb24 : Below w.heap.size w w24 := bchain (by repeat' (first | with_reducible exact hb23 | with_reducible refine Below.drew ?_ | with_reducible refine below_drewN ?_ _ | with_reducible refine Below.alloc ?_ (by have := hb23.size; first | (simp; done) | (simp; omega) | omega) _ | with_reducible refine Below.setCell ?_ (by first | (simp; done) | (simp; omega) | omega) _)) hc24
  have hst24 : Below w23.heap.size w23 w24 := bchain (by repeat' (first | with_reducible exact Below.refl _ _ | with_reducible refine Below.drew ?_ | with_reducible refine below_drewN ?_ _ | with_reducible refine Below.alloc ?_ (by first | (simp; done) | (simp; omega) | omega) _ | with_reducible refine Below.setCell ?_ (by first | (simp; done) | (simp; omega) | omega) _)) hc24
  replace hA13 := hA13.later hst24
  replace hA19 := hA19.later hst24
  clear hst24
  clear hc24
  go_wp2_with fail
  with_reducible refine (add_z (addM_v _ (zeroB 64) 64 [] (by rw [zeroB_len]; decide)) (some ⟨b24, 0, none⟩) none 64 64 0 0 _ (zeroB_len _).symm rfl k24 (nilCells _ _ _) (zeroB_b8 _) Bytes8.nil (hK.later hb24) (hwf _ hb24) (by omega)).mono ?_
  rintro e w25 ⟨⟨u25, a25, m25, c25, rfl, _, _, _⟩, hc25⟩
  have hb25 : Below w.heap.size w w25 := bchain (by repeat' (first | with_reducible exact hb24 | with_reducible refine Below.drew ?_ | with_reducible refine below_drewN ?_ _ | with_reducible refine Below.alloc ?_ (by have := hb24.size; first | (simp; done) | (simp; omega) | omega) _ | with_reducible refine Below.setCell ?_ (by first | (simp; done) | (simp; omega) | omega) _)) hc25
  have hst25 : Below w24.heap.size w24 w25 := bchain (by repeat' (first | with_reducible exact Below.refl _ _ | with_reducible refine Below.drew ?_ | with_reducible refine below_drewN ?_ _ | with_reducible refine Below.alloc ?_ (by first | (simp; done) | (simp; omega) | omega) _ | with_reducible refine Below.setCell ?_ (by first | (simp; done) | (simp; omega) | omega) _)) hc25
  replace hA13 := hA13.later hst25
  replace hA19 := hA19.later hst25
  replace k24 := k24.later hst25
  clear hst25
  clear hc25 hb24
  have hN25 := Blk.newA w25 w25.heap.size _ 26 [.int .u32 0, .int .u32 0, .int .u32 0, .int .u32 0, .int .u32 0, .int .u32 0, .int .u32 0, .int .u32 0, .slice none 0 0, .int .i64 0] rfl rfl
  go_upto_region 11 with (refine wpList_store_blk rfl 26 _ _ rfl w25.heap.size (by first | rfl | (simp [Act.eval]; done) | (go_simp; done)) 26 _ [.int .u32 u25.a, .int .u32 u25.b, .int .u32 u25.c, .int .u32 u25.d, .int .u32 u25.e, .int .u32 u25.f, .int .u32 u25.g, .int .u32 u25.z, .slice a25 m25 c25, .int .i64 0] (by first | rfl | (simp [Act.eval]; done) | (go_simp; done)) hN25 (by rfl) infoM (mill_one _ _ _ _ _) ?_; intro w26 hM26 he; have HW := hid he; clear he)
  have hc26 : Below w25.heap.size w25 w26 := HW.out ▸ below_setCells (Nat.le_refl _) _ _ _ ((Below.refl _ _).alloc (Nat.le_refl _) _)
  clear hN25 HW
  have hd26 := hc26
  have hb26 : Below w.heap.size w w26 := bchain (by repeat' (first | with_reducible exact hb25 | with_reducible refine Below.drew ?_ | with_reducible refine below_drewN ?_ _ | with_reducible refine Below.alloc ?_ (by have := hb25.size; first | (simp; done) | (simp; omega) | omega) _ | with_reducible refine Below.setCell ?_ (by first | (simp; done) | (simp; omega) | omega) _)) hc26
  have hst26 : Below w25.heap.size w25 w26 := bchain (by repeat' (first | with_reducible exact Below.refl _ _ | with_reducible refine Below.drew ?_ | with_reducible refine below_drewN ?_ _ | with_reducible refine Below.alloc ?_ (by first | (simp; done) | (simp; omega) | omega) _ | with_reducible refine Below.setCell ?_ (by first | (simp; done) | (simp; omega) | omega) _)) hc26
  replace hA13 := hA13.later hst26
  replace hA19 := hA19.later hst26
  replace k24 := k24.later hst26
  clear hst26
  clear hc26
  clear hd26 hM26
  go_wp2_with fail
  refine Calls_gen fun w27 hc27 => ?_
  have k27 := (row_cells w26 (([1] : List Int).map (Value.int .u8)) 5 (0, 0) _ rfl #[.int .u8 1] rfl).later hc27
  have hb27 : Below w.heap.size w w27 := bchain (by repeat' (first | with_reducible exact hb26 | with_reducible refine Below.drew ?_ | with_reducible refine below_drewN ?_ _ | with_reducible refine Below.alloc ?_ (by have := hb26.size; first | (simp; done) | (simp; omega) | omega) _ | with_reducible refine Below.setCell ?_ (by first | (simp; done) | (simp; omega) | omega) _)) hc27
  have hst27 : Below w26.heap.size w26 w27 := bchain (by repeat' (first | with_reducible exact Below.refl _ _ | with_reducible refine Below.drew ?_ | with_reducible refine below_drewN ?_ _ | with_reducible refine Below.alloc ?_ (by first | (simp; done) | (simp; omega) | omega) _ | with_reducible refine Below.setCell ?_ (by first | (simp; done) | (simp; omega) | omega) _)) hc27
  replace hA13 := hA13.later hst27
  replace hA19 := hA19.later hst27
  clear hst27
  clear hc27
  go_wp2_with fail
  with_reducible refine (add_z (addM_m _ [] 200000 [1] (by decide) (by decide)) none (some ⟨w26.heap.size, 0, none⟩) 0 0 1 1 _ rfl rfl (nilCells _ _ _) k27 Bytes8.nil (b8_of rfl) (hK.later hb27) (hwf _ hb27) (by omega)).mono ?_
  rintro e w28 ⟨⟨u28, a28, m28, c28, rfl, _, _, _⟩, hc28⟩
  have hb28 : Below w.heap.size w w28 := bchain (by repeat' (first | with_reducible exact hb27 | with_reducible refine Below.drew ?_ | with_reducible refine below_drewN ?_ _ | with_reducible refine Below.alloc ?_ (by have := hb27.size; first | (simp; done) | (simp; omega) | omega) _ | with_reducible refine Below.setCell ?_ (by first | (simp; done) | (simp; omega) | omega) _)) hc28
  have hst28 : Below w27.heap.size w27 w28 := bchain (by repeat' (first | with_reducible exact Below.refl _ _ | with_reducible refine Below.drew ?_ | with_reducible refine below_drewN ?_ _ | with_reducible refine Below.alloc ?_ (by first | (simp; done) | (simp; omega) | omega) _ | with_reducible refine Below.setCell ?_ (by first | (simp; done) | (simp; omega) | omega) _)) hc28
  replace hA13 := hA13.later hst28
  replace hA19 := hA19.later hst28
  clear hst28
  clear hc28 hb27
  have hN28 := Blk.newA w28 w28.heap.size _ 26 [.int .u32 0, .int .u32 0, .int .u32 0, .int .u32 0, .int .u32 0, .int .u32 0, .int .u32 0, .int .u32 0, .slice none 0 0, .int .i64 0] rfl rfl
  go_upto_region 12 with (refine wpList_store_blk rfl 26 _ _ rfl w28.heap.size (by first | rfl | (simp [Act.eval]; done) | (go_simp; done)) 26 _ [.int .u32 u28.a, .int .u32 u28.b, .int .u32 u28.c, .int .u32 u28.d, .int .u32 u28.e, .int .u32 u28.f, .int .u32 u28.g, .int .u32 u28.z, .slice a28 m28 c28, .int .i64 0] (by first | rfl | (simp [Act.eval]; done) | (go_simp; done)) hN28 (by rfl) infoM (mill_one _ _ _ _ _) ?_; intro w29 hM29 he; have HW := hid he; clear he)
  have hc29 : Below w28.heap.size w28 w29 := HW.out ▸ below_setCells (Nat.le_refl _) _ _ _ ((Below.refl _ _).alloc (Nat.le_refl _) _)
  clear hN28 HW
  have hd29 := hc29
  have hb29 : Below w.heap.size w w29 := bchain (by repeat' (first | with_reducible exact hb28 | with_reducible refine Below.drew ?_ | with_reducible refine below_drewN ?_ _ | with_reducible refine Below.alloc ?_ (by have := hb28.size; first | (simp; done) | (simp; omega) | omega) _ | with_reducible refine Below.setCell ?_ (by first | (simp; done) | (simp; omega) | omega) _)) hc29
  have hst29 : Below w28.heap.size w28 w29 := bchain (by repeat' (first | with_reducible exact Below.refl _ _ | with_reducible refine Below.drew ?_ | with_reducible refine below_drewN ?_ _ | with_reducible refine Below.alloc ?_ (by first | (simp; done) | (simp; omega) | omega) _ | with_reducible refine Below.setCell ?_ (by first | (simp; done) | (simp; omega) | omega) _)) hc29
  replace hA13 := hA13.later hst29
  replace hA19 := hA19.later hst29
  clear hst29
  clear hc29
  clear hd29 hM29
  clear k27
  go_wp2_with (refine wpList_make1 rfl 24 _ _ rfl 64 (by rfl) (by rfl) 5 i0 (.int .u8 0) Tryd.underlying24 hi hz0 hz1 (by rw [hz2]; omega) (by omega) rfl ?_; intro b30 w30 hc30 k30)
  rw [show (List.replicate 64 (Value.int .u8 0)) = (zeroB 64).map (Value.int .u8) from (List.map_replicate ..).symm] at k30
  have hb30 : Below w.heap.size w w30 := bchain (by repeat' (first | with_reducible exact hb29 | with_reducible refine Below.drew ?_ | with_reducible refine below_drewN ?_ _ | with_reducible refine Below.alloc ?_ (by have := hb29.size; first | (simp; done) | (simp; omega) | omega) _ | with_reducible refine Below.setCell ?_ (by first | (simp; done) | (simp; omega) | omega) _)) hc30
  have hst30 : Below w29.heap.size w29 w30 := bchain (by repeat' (first | with_reducible exact Below.refl _ _ | with_reducible refine Below.drew ?_ | with_reducible refine below_drewN ?_ _ | with_reducible refine Below.alloc ?_ (by first | (simp; done) | (simp; omega) | omega) _ | with_reducible refine Below.setCell ?_ (by first | (simp; done) | (simp; omega) | omega) _)) hc30
  replace hA13 := hA13.later hst30
  replace hA19 := hA19.later hst30
  clear hst30
  clear hc30
  go_wp2_with fail
  with_reducible refine (add_z (addM_64 _) none (some ⟨b30, 0, none⟩) 0 0 64 64 _ rfl (zeroB_len _).symm (nilCells _ _ _) k30 Bytes8.nil (zeroB_b8 _) (hK.later hb30) (hwf _ hb30) (by omega)).mono ?_
  rintro e w31 ⟨⟨u31, a31, m31, c31, rfl, hu31, rfl, _⟩, hc31⟩
  have hb31 : Below w.heap.size w w31 := bchain (by repeat' (first | with_reducible exact hb30 | with_reducible refine Below.drew ?_ | with_reducible refine below_drewN ?_ _ | with_reducible refine Below.alloc ?_ (by have := hb30.size; first | (simp; done) | (simp; omega) | omega) _ | with_reducible refine Below.setCell ?_ (by first | (simp; done) | (simp; omega) | omega) _)) hc31
  have hst31 : Below w30.heap.size w30 w31 := bchain (by repeat' (first | with_reducible exact Below.refl _ _ | with_reducible refine Below.drew ?_ | with_reducible refine below_drewN ?_ _ | with_reducible refine Below.alloc ?_ (by first | (simp; done) | (simp; omega) | omega) _ | with_reducible refine Below.setCell ?_ (by first | (simp; done) | (simp; omega) | omega) _)) hc31
  replace hA13 := hA13.later hst31
  replace hA19 := hA19.later hst31
  replace k30 := k30.later hst31
  clear hst31
  clear hc31 hb30
  have hN31 := Blk.newA w31 w31.heap.size _ 26 [.int .u32 0, .int .u32 0, .int .u32 0, .int .u32 0, .int .u32 0, .int .u32 0, .int .u32 0, .int .u32 0, .slice none 0 0, .int .i64 0] rfl rfl
  go_upto_region 13 with (refine wpList_store_blk rfl 26 _ _ rfl w31.heap.size (by first | rfl | (simp [Act.eval]; done) | (go_simp; done)) 26 _ [.int .u32 u31.a, .int .u32 u31.b, .int .u32 u31.c, .int .u32 u31.d, .int .u32 u31.e, .int .u32 u31.f, .int .u32 u31.g, .int .u32 u31.z, .slice a31 0 c31, .int .i64 200000] (by first | rfl | (simp [Act.eval]; done) | (go_simp; done)) hN31 (by rfl) infoM (mill_one _ _ _ _ _) ?_; intro w32 hF32 he; have HW := hid he; clear he)
  have hc32 : Below w31.heap.size w31 w32 := HW.out ▸ below_setCells (Nat.le_refl _) _ _ _ ((Below.refl _ _).alloc (Nat.le_refl _) _)
  clear hN31 HW
  have hd32 := hc32
  have hb32 : Below w.heap.size w w32 := bchain (by repeat' (first | with_reducible exact hb31 | with_reducible refine Below.drew ?_ | with_reducible refine below_drewN ?_ _ | with_reducible refine Below.alloc ?_ (by have := hb31.size; first | (simp; done) | (simp; omega) | omega) _ | with_reducible refine Below.setCell ?_ (by first | (simp; done) | (simp; omega) | omega) _)) hc32
  have hst32 : Below w31.heap.size w31 w32 := bchain (by repeat' (first | with_reducible exact Below.refl _ _ | with_reducible refine Below.drew ?_ | with_reducible refine below_drewN ?_ _ | with_reducible refine Below.alloc ?_ (by first | (simp; done) | (simp; omega) | omega) _ | with_reducible refine Below.setCell ?_ (by first | (simp; done) | (simp; omega) | omega) _)) hc32
  replace hA13 := hA13.later hst32
  replace hA19 := hA19.later hst32
  clear hst32
  clear hc32
  clear hd32
  go_wp2_with (refine wpList_make1 rfl 24 _ _ rfl 65 (by rfl) (by rfl) 5 i0 (.int .u8 0) Tryd.underlying24 hi hz0 hz1 (by rw [hz2]; omega) (by omega) rfl ?_; intro b33 w33 hc33 k33)
  rw [show (List.replicate 65 (Value.int .u8 0)) = (zeroB 65).map (Value.int .u8) from (List.map_replicate ..).symm] at k33
  have hb33 : Below w.heap.size w w33 := bchain (by repeat' (first | with_reducible exact hb32 | with_reducible refine Below.drew ?_ | with_reducible refine below_drewN ?_ _ | with_reducible refine Below.alloc ?_ (by have := hb32.size; first | (simp; done) | (simp; omega) | omega) _ | with_reducible refine Below.setCell ?_ (by first | (simp; done) | (simp; omega) | omega) _)) hc33
  have hst33 : Below w32.heap.size w32 w33 := bchain (by repeat' (first | with_reducible exact Below.refl _ _ | with_reducible refine Below.drew ?_ | with_reducible refine below_drewN ?_ _ | with_reducible refine Below.alloc ?_ (by first | (simp; done) | (simp; omega) | omega) _ | with_reducible refine Below.setCell ?_ (by first | (simp; done) | (simp; omega) | omega) _)) hc33
  replace hA13 := hA13.later hst33
  replace hA19 := hA19.later hst33
  replace hF32 := hF32.later hst33
  clear hst33
  clear hc33
  go_wp2_with fail
  with_reducible refine (add_z (addM_m _ [] 199936 (zeroB 65) (by decide) (by rw [zeroB_len]; decide)) none (some ⟨b33, 0, none⟩) 0 0 65 65 _ rfl (zeroB_len _).symm (nilCells _ _ _) k33 Bytes8.nil (zeroB_b8 _) (hK.later hb33) (hwf _ hb33) (by omega)).mono ?_
  rintro e w34 ⟨⟨u34, a34, m34, c34, rfl, _, _, _⟩, hc34⟩
  have hb34 : Below w.heap.size w w34 := bchain (by repeat' (first | with_reducible exact hb33 | with_reducible refine Below.drew ?_ | with_reducible refine below_drewN ?_ _ | with_reducible refine Below.alloc ?_ (by have := hb33.size; first | (simp; done) | (simp; omega) | omega) _ | with_reducible refine Below.setCell ?_ (by first | (simp; done) | (simp; omega) | omega) _)) hc34
  have hst34 : Below w33.heap.size w33 w34 := bchain (by repeat' (first | with_reducible exact Below.refl _ _ | with_reducible refine Below.drew ?_ | with_reducible refine below_drewN ?_ _ | with_reducible refine Below.alloc ?_ (by first | (simp; done) | (simp; omega) | omega) _ | with_reducible refine Below.setCell ?_ (by first | (simp; done) | (simp; omega) | omega) _)) hc34
  replace hA13 := hA13.later hst34
  replace hA19 := hA19.later hst34
  replace hF32 := hF32.later hst34
  replace k33 := k33.later hst34
  clear hst34
  clear hc34 hb33
  have hN34 := Blk.newA w34 w34.heap.size _ 26 [.int .u32 0, .int .u32 0, .int .u32 0, .int .u32 0, .int .u32 0, .int .u32 0, .int .u32 0, .int .u32 0, .slice none 0 0, .int .i64 0] rfl rfl
  go_upto_region 14 with (refine wpList_store_blk rfl 26 _ _ rfl w34.heap.size (by first | rfl | (simp [Act.eval]; done) | (go_simp; done)) 26 _ [.int .u32 u34.a, .int .u32 u34.b, .int .u32 u34.c, .int .u32 u34.d, .int .u32 u34.e, .int .u32 u34.f, .int .u32 u34.g, .int .u32 u34.z, .slice a34 m34 c34, .int .i64 0] (by first | rfl | (simp [Act.eval]; done) | (go_simp; done)) hN34 (by rfl) infoM (mill_one _ _ _ _ _) ?_; intro w35 hM35 he; have HW := hid he; clear he)
  have hc35 : Below w34.heap.size w34 w35 := HW.out ▸ below_setCells (Nat.le_refl _) _ _ _ ((Below.refl _ _).alloc (Nat.le_refl _) _)
  clear hN34 HW
  have hd35 := hc35
  have hb35 : Below w.heap.size w w35 := bchain (by repeat' (first | with_reducible exact hb34 | with_reducible refine Below.drew ?_ | with_reducible refine below_drewN ?_ _ | with_reducible refine Below.alloc ?_ (by have := hb34.size; first | (simp; done) | (simp; omega) | omega) _ | with_reducible refine Below.setCell ?_ (by first | (simp; done) | (simp; omega) | omega) _)) hc35
  have hst35 : Below w34.heap.size w34 w35 := bchain (by repeat' (first | with_reducible exact Below.refl _ _ | with_reducible refine Below.drew ?_ | with_reducible refine below_drewN ?_ _ | with_reducible refine Below.alloc ?_ (by first | (simp; done) | (simp; omega) | omega) _ | with_reducible refine Below.setCell ?_ (by first | (simp; done) | (simp; omega) | omega) _)) hc35
  replace hA13 := hA13.later hst35
  replace hA19 := hA19.later hst35
  replace hF32 := hF32.later hst35
  replace k33 := k33.later hst35
  clear hst35
  clear hc35
  clear hd35 hM35
  go_wp2_with fail
  with_reducible refine (end_z H_zD.out H_zdv.out none 0 0 _ rfl (nilCells _ _ _) Bytes8.nil (hK.later hb35) (hwf _ hb35)).mono ?_
  rintro e w36 ⟨rfl, hc36⟩
  have hb36 : Below w.heap.size w w36 := bchain (by repeat' (first | with_reducible exact hb35 | with_reducible refine Below.drew ?_ | with_reducible refine below_drewN ?_ _ | with_reducible refine Below.alloc ?_ (by have := hb35.size; first | (simp; done) | (simp; omega) | omega) _ | with_reducible refine Below.setCell ?_ (by first | (simp; done) | (simp; omega) | omega) _)) hc36
  have hst36 : Below w35.heap.size w35 w36 := bchain (by repeat' (first | with_reducible exact Below.refl _ _ | with_reducible refine Below.drew ?_ | with_reducible refine below_drewN ?_ _ | with_reducible refine Below.alloc ?_ (by first | (simp; done) | (simp; omega) | omega) _ | with_reducible refine Below.setCell ?_ (by first | (simp; done) | (simp; omega) | omega) _)) hc36
  replace hA13 := hA13.later hst36
  replace hA19 := hA19.later hst36
  replace hF32 := hF32.later hst36
  clear hst36
  clear hc36 hb35
  have hN36 := Blk.new w36 w36.heap.size (List.replicate 32 (Value.int .u8 0)) 33 rfl
  go_upto_region 15 with (refine wpList_store_blk rfl 33 _ _ rfl w36.heap.size (by first | rfl | (simp [Act.eval]; done) | (go_simp; done)) 33 _ zv (by first | rfl | (simp [Act.eval]; done) | (go_simp; done)) hN36 H_zr.out H_zi.out H_zo.out ?_; intro w37 hA37 he; have HW := hid he; clear he)
  have hc37 : Below w36.heap.size w36 w37 := HW.out ▸ below_setCells (Nat.le_refl _) _ _ _ ((Below.refl _ _).alloc (Nat.le_refl _) _)
  clear hN36 HW
  have hb37 : Below w.heap.size w w37 := bchain (by repeat' (first | with_reducible exact hb36 | with_reducible refine Below.drew ?_ | with_reducible refine below_drewN ?_ _ | with_reducible refine Below.alloc ?_ (by have := hb36.size; first | (simp; done) | (simp; omega) | omega) _ | with_reducible refine Below.setCell ?_ (by first | (simp; done) | (simp; omega) | omega) _)) hc37
  have hst37 : Below w36.heap.size w36 w37 := bchain (by repeat' (first | with_reducible exact Below.refl _ _ | with_reducible refine Below.drew ?_ | with_reducible refine below_drewN ?_ _ | with_reducible refine Below.alloc ?_ (by first | (simp; done) | (simp; omega) | omega) _ | with_reducible refine Below.setCell ?_ (by first | (simp; done) | (simp; omega) | omega) _)) hc37
  replace hA13 := hA13.later hst37
  replace hA19 := hA19.later hst37
  replace hF32 := hF32.later hst37
  clear hst37
  clear hc37
  obtain ⟨fl, fD⟩ : ∃ dl, endM u31.list [] 200000 = (dl, 0) := ⟨_, (endM_good _ _ _ (by decide))⟩
  have fdl : fl.length = 32 := by have := endM_len u31.list [] 200000; rw [fD] at this; exact this
  obtain ⟨fv, fdv⟩ : ∃ dv, dv = fl.map (Value.int .u8) := ⟨_, rfl⟩
  have fvl : fv.length = 32 := by rw [fdv, List.length_map, fdl]
  have fo : ∀ x ∈ fv, x.oneCell' = true := by rw [fdv]; exact oneCell_ints _ _
  have fi : (Tryd.prog.info? 33).map (·.size) = some fv.length := by rw [fvl]; exact info32
  have fr : fv.length = (List.replicate 32 (Value.int .u8 0)).length := by rw [fvl]; rfl
  have H_fD := hid fD
  have H_fdl := hid fdl
  have H_fdv := hid fdv
  have H_fvl := hid fvl
  have H_fo := hid fo
  have H_fi := hid fi
  have H_fr := hid fr
  clear fD fdl fdv fvl fo fi fr
  have H_uok := hid (mill_ok (v := z8) z8_ok (zeroB 64) hu31)
  have F_0 := hF32.cell (j := 0) (v := .int .u32 u31.a) rfl
  have F_1 := hF32.cell (j := 1) (v := .int .u32 u31.b) rfl
  have F_2 := hF32.cell (j := 2) (v := .int .u32 u31.c) rfl
  have F_3 := hF32.cell (j := 3) (v := .int .u32 u31.d) rfl
  have F_4 := hF32.cell (j := 4) (v := .int .u32 u31.e) rfl
  have F_5 := hF32.cell (j := 5) (v := .int .u32 u31.f) rfl
  have F_6 := hF32.cell (j := 6) (v := .int .u32 u31.g) rfl
  have F_7 := hF32.cell (j := 7) (v := .int .u32 u31.z) rfl
  have F_8 := hF32.cell (j := 8) (v := .slice a31 0 c31) rfl
  have F_9 := hF32.cell (j := 9) (v := .int .i64 200000) rfl
  have F_l := hF32.lt
  clear hu31
  go_wp2_with fail
  with_reducible refine (end_r H_fD.out H_fdv.out a31 0 c31 _ H_uok.out rfl (nilCells _ _ _) Bytes8.nil (hK.later hb37) (hwf _ hb37)).mono ?_
  rintro e w38 ⟨rfl, hc38⟩
  have hb38 : Below w.heap.size w w38 := bchain (by repeat' (first | with_reducible exact hb37 | with_reducible refine Below.drew ?_ | with_reducible refine below_drewN ?_ _ | with_reducible refine Below.alloc ?_ (by have := hb37.size; first | (simp; done) | (simp; omega) | omega) _ | with_reducible refine Below.setCell ?_ (by first | (simp; done) | (simp; omega) | omega) _)) hc38
  have hst38 : Below w37.heap.size w37 w38 := bchain (by repeat' (first | with_reducible exact Below.refl _ _ | with_reducible refine Below.drew ?_ | with_reducible refine below_drewN ?_ _ | with_reducible refine Below.alloc ?_ (by first | (simp; done) | (simp; omega) | omega) _ | with_reducible refine Below.setCell ?_ (by first | (simp; done) | (simp; omega) | omega) _)) hc38
  replace F_0 := cell_later hst38 F_0
  replace F_1 := cell_later hst38 F_1
  replace F_2 := cell_later hst38 F_2
  replace F_3 := cell_later hst38 F_3
  replace F_4 := cell_later hst38 F_4
  replace F_5 := cell_later hst38 F_5
  replace F_6 := cell_later hst38 F_6
  replace F_7 := cell_later hst38 F_7
  replace F_8 := cell_later hst38 F_8
  replace F_9 := cell_later hst38 F_9
  replace F_l := Nat.lt_of_lt_of_le F_l hst38.size
  replace hA13 := hA13.later hst38
  replace hA19 := hA19.later hst38
  replace hF32 := hF32.later hst38
  clear hst38
  clear hc38 hb37
  have hN38 := Blk.new w38 w38.heap.size (List.replicate 32 (Value.int .u8 0)) 33 rfl
  go_upto_region 16 with (refine wpList_store_blk rfl 33 _ _ rfl w38.heap.size (by first | rfl | (simp [Act.eval]; done) | (go_simp; done)) 33 _ fv (by first | rfl | (simp [Act.eval]; done) | (go_simp; done)) hN38 H_fr.out H_fi.out H_fo.out ?_; intro w39 hA39 he; have HW := hid he; clear he)
  have hc39 : Below w38.heap.size w38 w39 := HW.out ▸ below_setCells (Nat.le_refl _) _ _ _ ((Below.refl _ _).alloc (Nat.le_refl _) _)
  clear hN38 HW
  have hb39 : Below w.heap.size w w39 := bchain (by repeat' (first | with_reducible exact hb38 | with_reducible refine Below.drew ?_ | with_reducible refine below_drewN ?_ _ | with_reducible refine Below.alloc ?_ (by have := hb38.size; first | (simp; done) | (simp; omega) | omega) _ | with_reducible refine Below.setCell ?_ (by first | (simp; done) | (simp; omega) | omega) _)) hc39
  have hst39 : Below w38.heap.size w38 w39 := bchain (by repeat' (first | with_reducible exact Below.refl _ _ | with_reducible refine Below.drew ?_ | with_reducible refine below_drewN ?_ _ | with_reducible refine Below.alloc ?_ (by first | (simp; done) | (simp; omega) | omega) _ | with_reducible refine Below.setCell ?_ (by first | (simp; done) | (simp; omega) | omega) _)) hc39
  replace F_0 := cell_later hst39 F_0
  replace F_1 := cell_later hst39 F_1
  replace F_2 := cell_later hst39 F_2
  replace F_3 := cell_later hst39 F_3
  replace F_4 := cell_later hst39 F_4
  replace F_5 := cell_later hst39 F_5
  replace F_6 := cell_later hst39 F_6
  replace F_7 := cell_later hst39 F_7
  replace F_8 := cell_later hst39 F_8
  replace F_9 := cell_later hst39 F_9
  replace F_l := Nat.lt_of_lt_of_le F_l hst39.size
  replace hA13 := hA13.later hst39
  replace hA19 := hA19.later hst39
  replace hF32 := hF32.later hst39
  clear hst39
  clear hc39
  go_wp2_with fail
  with_reducible refine (cmp_1 _).mono ?_
  rintro e w40 ⟨rfl, hc40⟩
  have hb40 : Below w.heap.size w w40 := bchain (by repeat' (first | with_reducible exact hb39 | with_reducible refine Below.drew ?_ | with_reducible refine below_drewN ?_ _ | with_reducible refine Below.alloc ?_ (by have := hb39.size; first | (simp; done) | (simp; omega) | omega) _ | with_reducible refine Below.setCell ?_ (by first | (simp; done) | (simp; omega) | omega) _)) hc40
  have hst40 : Below w39.heap.size w39 w40 := bchain (by repeat' (first | with_reducible exact Below.refl _ _ | with_reducible refine Below.drew ?_ | with_reducible refine below_drewN ?_ _ | with_reducible refine Below.alloc ?_ (by first | (simp; done) | (simp; omega) | omega) _ | with_reducible refine Below.setCell ?_ (by first | (simp; done) | (simp; omega) | omega) _)) hc40
  replace F_0 := cell_later hst40 F_0
  replace F_1 := cell_later hst40 F_1
  replace F_2 := cell_later hst40 F_2
  replace F_3 := cell_later hst40 F_3
  replace F_4 := cell_later hst40 F_4
  replace F_5 := cell_later hst40 F_5
  replace F_6 := cell_later hst40 F_6
  replace F_7 := cell_later hst40 F_7
  replace F_8 := cell_later hst40 F_8
  replace F_9 := cell_later hst40 F_9
  replace F_l := Nat.lt_of_lt_of_le F_l hst40.size
  replace hA13 := hA13.later hst40
  replace hA19 := hA19.later hst40
  replace hF32 := hF32.later hst40
  clear hst40
  clear hc40 hb39
  go_wp2_with fail
  with_reducible refine (cmp_2 _).mono ?_
  rintro e w41 ⟨rfl, hc41⟩
  have hb41 : Below w.heap.size w w41 := bchain (by repeat' (first | with_reducible exact hb40 | with_reducible refine Below.drew ?_ | with_reducible refine below_drewN ?_ _ | with_reducible refine Below.alloc ?_ (by have := hb40.size; first | (simp; done) | (simp; omega) | omega) _ | with_reducible refine Below.setCell ?_ (by first | (simp; done) | (simp; omega) | omega) _)) hc41
  have hst41 : Below w40.heap.size w40 w41 := bchain (by repeat' (first | with_reducible exact Below.refl _ _ | with_reducible refine Below.drew ?_ | with_reducible refine below_drewN ?_ _ | with_reducible refine Below.alloc ?_ (by first | (simp; done) | (simp; omega) | omega) _ | with_reducible refine Below.setCell ?_ (by first | (simp; done) | (simp; omega) | omega) _)) hc41
  replace F_0 := cell_later hst41 F_0
  replace F_1 := cell_later hst41 F_1
  replace F_2 := cell_later hst41 F_2
  replace F_3 := cell_later hst41 F_3
  replace F_4 := cell_later hst41 F_4
  replace F_5 := cell_later hst41 F_5
  replace F_6 := cell_later hst41 F_6
  replace F_7 := cell_later hst41 F_7
  replace F_8 := cell_later hst41 F_8
  replace F_9 := cell_later hst41 F_9
  replace F_l := Nat.lt_of_lt_of_le F_l hst41.size
  replace hA13 := hA13.later hst41
  replace hA19 := hA19.later hst41
  replace hF32 := hF32.later hst41
  clear hst41
  clear hc41 hb40
  go_wp2_with fail
  with_reducible refine (cmp_3 _).mono ?_
  rintro e w42 ⟨rfl, hc42⟩
  have hb42 : Below w.heap.size w w42 := bchain (by repeat' (first | with_reducible exact hb41 | with_reducible refine Below.drew ?_ | with_reducible refine below_drewN ?_ _ | with_reducible refine Below.alloc ?_ (by have := hb41.size; first | (simp; done) | (simp; omega) | omega) _ | with_reducible refine Below.setCell ?_ (by first | (simp; done) | (simp; omega) | omega) _)) hc42
  have hst42 : Below w41.heap.size w41 w42 := bchain (by repeat' (first | with_reducible exact Below.refl _ _ | with_reducible refine Below.drew ?_ | with_reducible refine below_drewN ?_ _ | with_reducible refine Below.alloc ?_ (by first | (simp; done) | (simp; omega) | omega) _ | with_reducible refine Below.setCell ?_ (by first | (simp; done) | (simp; omega) | omega) _)) hc42
  replace F_0 := cell_later hst42 F_0
  replace F_1 := cell_later hst42 F_1
  replace F_2 := cell_later hst42 F_2
  replace F_3 := cell_later hst42 F_3
  replace F_4 := cell_later hst42 F_4
  replace F_5 := cell_later hst42 F_5
  replace F_6 := cell_later hst42 F_6
  replace F_7 := cell_later hst42 F_7
  replace F_8 := cell_later hst42 F_8
  replace F_9 := cell_later hst42 F_9
  replace F_l := Nat.lt_of_lt_of_le F_l hst42.size
  replace hA13 := hA13.later hst42
  replace hA19 := hA19.later hst42
  replace hF32 := hF32.later hst42
  clear hst42
  clear hc42 hb41
  have heq := H_sq.out
  (simp only [Int.not_lt, Int.not_le] at *; go_simp)
  go_step
  go_guarded
  iterate 69 go_step
  refine wpList_hd ?_; refine wpList_load_blkG ?_ 33 (.tmp 8) rfl w12.heap.size ?_ 33 sv _ hA13 Tryd.underlying33 rfl H_si.out ?_; rfl; rfl
  refine wpList_hd ?_; refine wpList_load_blkG ?_ 33 (.tmp 12) rfl w18.heap.size ?_ 33 sv _ hA19 Tryd.underlying33 rfl H_si.out ?_; rfl; rfl
  iterate 24 go_step
  go_guarded
  iterate 7 go_step
  go_guarded
  go_step
  go_guarded
  iterate 7 go_step
  go_guarded
  go_step
  go_guarded
  iterate 7 go_step
  go_guarded
  go_step
  go_guarded
  go_step
  go_guarded
  iterate 7 go_step
  go_guarded
  go_step
  go_guarded
  go_step
  go_guarded
  go_step
  go_guarded
  iterate 7 go_step
  go_guarded
  go_step
  go_guarded
  iterate 7 go_step
  go_guarded
  go_step
  go_guarded
  iterate 7 go_step
  go_guarded
  go_step
  go_guarded
  iterate 7 go_step
  go_guarded
  iterate 7 go_step
  go_guarded
  with_reducible refine (alive_any _ (hK.later hb42) (hwf _ hb42)).mono ?_
  rintro e w43 ⟨rfl, hc43⟩
  have hb43 : Below w.heap.size w w43 := bchain (by repeat' (first | with_reducible exact hb42 | with_reducible refine Below.drew ?_ | with_reducible refine below_drewN ?_ _ | with_reducible refine Below.alloc ?_ (by have := hb42.size; first | (simp; done) | (simp; omega) | omega) _ | with_reducible refine Below.setCell ?_ (by first | (simp; done) | (simp; omega) | omega) _)) hc43
  have hst43 : Below w42.heap.size w42 w43 := bchain (by repeat' (first | with_reducible exact Below.refl _ _ | with_reducible refine Below.drew ?_ | with_reducible refine below_drewN ?_ _ | with_reducible refine Below.alloc ?_ (by first | (simp; done) | (simp; omega) | omega) _ | with_reducible refine Below.setCell ?_ (by first | (simp; done) | (simp; omega) | omega) _)) hc43
  replace F_0 := cell_later hst43 F_0
  replace F_1 := cell_later hst43 F_1
  replace F_2 := cell_later hst43 F_2
  replace F_3 := cell_later hst43 F_3
  replace F_4 := cell_later hst43 F_4
  replace F_5 := cell_later hst43 F_5
  replace F_6 := cell_later hst43 F_6
  replace F_7 := cell_later hst43 F_7
  replace F_8 := cell_later hst43 F_8
  replace F_9 := cell_later hst43 F_9
  replace F_l := Nat.lt_of_lt_of_le F_l hst43.size
  replace hA13 := hA13.later hst43
  replace hA19 := hA19.later hst43
  replace hF32 := hF32.later hst43
  clear hst43
  clear hc43
  go_wp2_with fail
  go_ret
  exact ⟨rfl, hb43⟩

/-- DigestNames with the card's condition in one. -/
theorem names_full (w : World) (hK : CellsAt w (some ⟨0, 0, none⟩) (kcs.map (Value.int .u32)) ∧ 0 < w.heap.size) :
    Calls Tryd.prog 8 #[] w fun e w' =>
      e = .returned (.bool true) ∧ Below w.heap.size w w' := names_walk w hK.1 hK.2

end Go.Proofs.YtlilodfddojlhaaDoor
