/- slices.Delete at []Peer: one element. -/
import Derived.Test.YthdldmkeoglflaaDoorCfgIns
import Derived.Test.YthdldmkeoglflaaDoorRegMore
import Derived.ArgAppend
import Derived.Shelf.RegionOpenPlain
import Derived.Deep.RegionLaw
namespace Go.Proofs.YthdldmkeoglflaaDoor
set_option maxRecDepth 100000
set_option linter.unusedSimpArgs false
set_option linter.unusedVariables false
set_option linter.unnecessarySimpa false
open Go.RowKit

/-- All blocks stay but a row's own. -/
structure KeptX (ra : Option Addr) (w w' : World) : Prop where
  size : w.heap.size ≤ w'.heap.size
  block : ∀ k, k < w.heap.size → (∀ ad, ra = some ad → ad.block ≠ k) → w'.heap[k]? = w.heap[k]?
theorem KeptX.below {ra : Option Addr} {w w' : World} (h : Below w.heap.size w w') : KeptX ra w w' := ⟨h.size, fun k hk _ => h.block k hk⟩
theorem KeptX.trans {ra : Option Addr} {w w1 w' : World} (h : KeptX ra w w1) (h' : KeptX ra w1 w') : KeptX ra w w' :=
  ⟨Nat.le_trans h.size h'.size, fun k hk hn => (h'.block k (Nat.lt_of_lt_of_le hk h.size) hn).trans (h.block k hk hn)⟩
theorem KeptX.set {g o : Nat} (w : World) (i : Nat) (v : Value) : KeptX (some ⟨g, o, none⟩) w (w.setCell ⟨g, i, none⟩ v) :=
  ⟨by simp, fun k hk hn => by simp [World.setCell, Array.getElem?_modify, hn _ rfl]⟩
theorem KeptX.setCells {g o : Nat} : ∀ (vs : List Value) (i : Nat) (w : World), KeptX (some ⟨g, o, none⟩) w (w.setCells g i vs)
  | [], _, w => ⟨Nat.le_refl _, fun _ _ _ => rfl⟩
  | v :: vs, i, w => (KeptX.set w i v).trans (KeptX.setCells vs (i + 1) _)
theorem CellsAt.keptX {w w' : World} {a ra : Option Addr} {cs : List Value} (h : CellsAt w a cs) (hk : KeptX ra w w') (hne : ∀ ad bd, a = some ad → ra = some bd → bd.block ≠ ad.block) : CellsAt w' a cs := by
  rcases h with h | ⟨b, o, rfl, h⟩
  · exact .inl h
  · refine .inr ⟨b, o, rfl, fun j u hj => ?_⟩
    have hc := h j u hj
    exact (World.cell?_of_block (hk.block b (World.block_lt_of_cell? _ _ hc) (fun bd e => hne _ bd rfl e))).trans hc
theorem Blk.keptX {w w' : World} {ra : Option Addr} {B t : Nat} {cs : List Value} (h : Blk w B t cs) (hk : KeptX ra w w') (hne : ∀ bd, ra = some bd → bd.block ≠ B) : Blk w' B t cs := (hk.block B h.lt hne).trans h
theorem OwnX.keptX {w w' : World} {ra a : Option Addr} {base e size n m c : Nat} {xs : List Value} (h : OwnX w base e size (.slice a m c) n xs) (hk : KeptX ra w w') (hne : ∀ ad bd, a = some ad → ra = some bd → bd.block ≠ ad.block) : OwnX w' base e size (.slice a m c) n xs := by
  refine ⟨h.1, ?_⟩
  rcases h.2 with h0 | ⟨g, cap, cur, hv, h3, h4, h5⟩
  · exact .inl h0
  · cases hv
    exact .inr ⟨g, _, cur, rfl, h3, (hk.block g (lt_of_block h4) (fun bd e => hne _ bd rfl e)).trans h4, h5⟩
theorem Blk.setCellsAt {B : Nat} {t : TypeId} : ∀ (vs cs : List Value) (o : Nat) (w : World), Blk w B t cs → o + vs.length ≤ cs.length → Blk (w.setCells B o vs) B t (cs.take o ++ vs ++ cs.drop (o + vs.length))
  | [], cs, o, w, h, _ => by
    have e : cs.take o ++ [] ++ cs.drop (o + ([] : List Value).length) = cs := by simp
    rw [e]; exact h
  | v :: vs, cs, o, w, h, hl => by
    have hl' : o + (vs.length + 1) ≤ cs.length := hl
    have h1 := Blk.setCellsAt vs _ (o + 1) _ (h.set o v) (by rw [List.length_set]; omega)
    have e : (cs.set o v).take (o + 1) ++ vs ++ (cs.set o v).drop (o + 1 + vs.length) = cs.take o ++ (v :: vs) ++ cs.drop (o + (v :: vs).length) := by
      have e1 : (cs.set o v).take (o + 1) = cs.take o ++ [v] := by
        rw [List.take_add_one, List.take_set, List.set_eq_of_length_le (by rw [List.length_take]; omega)]
        simp [show o < cs.length by omega]
      have e2 : (cs.set o v).drop (o + 1 + vs.length) = cs.drop (o + (vs.length + 1)) := by
        rw [List.drop_set, if_pos (by omega), show o + 1 + vs.length = o + (vs.length + 1) by omega]
      rw [e1, e2]; simp
    rw [← e]
    exact h1
theorem zero_peer (w : World) : (zeroValue 46).run Tryd.prog w = .ok (.agg #[.string ⟨#[]⟩, .int .u32 0]) w := by
  obtain ⟨i0, hi, hz0, hz1, hz2⟩ := info_parts info_peer
  simp [zeroValue, typeInfo, hi, hz0]
theorem run_clear_p (w : World) (ty : TypeId) (b o c : Nat) (hc : ∀ j, j < 2 → (w.cell? ⟨b, o + j, none⟩).isSome = true) (hf : ∀ j, j < 2 → w.frozen? ⟨b, o + j, none⟩ = false) :
    (Builtin.clear_ #[25] ty #[.slice (some ⟨b, o, none⟩) 1 c]).run Tryd.prog w = .ok (.tuple #[]) (w.setCells b o [.string ⟨#[]⟩, .int .u32 0]) := by
  have hzc : (Builtin.zeroCells (Value.agg #[.string ⟨#[]⟩, .int .u32 0]).cells 1).toList = [.string ⟨#[]⟩, .int .u32 0] := by kernel_rfl
  have hst := run_storeCells_cells (P := Tryd.prog) b o [.string ⟨#[]⟩, .int .u32 0] 0 w (by simpa using hc) (by simpa using hf) (by intro v hv; simp at hv; rcases hv with rfl | rfl <;> rfl)
  simp only [Nat.add_zero] at hst
  simp [Builtin.clear_, run_underlying Tryd.underlying25, zero_peer, hzc, hst]

set_option maxRecDepth 100000 in
set_option maxHeartbeats 2000000 in
theorem delP_any (q : Peers) (i : Nat) (qa : Option Addr) (n c base : Nat) (w : World) (h : OwnX w base 46 2 (.slice qa n c) n (cel q)) (hn : n = q.length) (hi : i < n) (hml : n ≤ 1000000) :
    Calls Tryd.prog 52 #[.slice qa n c, .int .i64 i, .int .i64 ((i : Int) + 1)] w fun e w' =>
      e = .returned (.slice qa (n - 1) c) ∧ CellsAt w' qa (cel (q.eraseIdx i)) ∧ Below base w w' ∧ KeptX qa w w' := by
  obtain ⟨i0, hi0, hz0, hz1, hz2⟩ := info_parts info_peer
  rcases h.2 with ⟨_, h0⟩ | ⟨g, cap, cur, hv, hg, hbk, hnc, hcm, hcs, htk⟩
  · omega
  cases hv
  have hlt := lt_of_block hbk
  obtain ⟨m, rfl⟩ : ∃ m, n = i + 1 + m := ⟨n - (i + 1), by omega⟩
  have hB0 : Blk w g 46 cur.toList := by unfold Blk; simpa using hbk
  have hl0 : cur.toList.length = c * 2 := by rw [Array.length_toList]; exact hcs
  obtain ⟨cs0, hcs0⟩ : ∃ cs0, cur.toList = cs0 := ⟨_, rfl⟩
  rw [hcs0] at hB0 hl0 htk
  obtain ⟨news, hnews⟩ : ∃ news, cel (q.drop (i + 1)) = news := ⟨_, rfl⟩
  have hnl : news.length = m * 2 := by rw [← hnews, cel_len, List.length_drop]; omega
  have hdr : news = (cs0.take ((i + 1 + m) * 2)).drop ((i + 1) * 2) := by rw [htk, cel_drop, hnews]
  obtain ⟨A, hA, hsrc⟩ : ∃ A : Addr, (if c = i + 1 then (some ⟨g, 0, none⟩ : Option Addr) else some ⟨g, (i + 1) * 2, none⟩) = some A ∧ ∀ t u, news[t]? = some u → w.drew.cell? (A.add t) = some u := by
    by_cases hc : c = i + 1
    · refine ⟨⟨g, 0, none⟩, by simp [hc], fun t u hu => ?_⟩
      have : news.length = 0 := by omega
      rw [List.length_eq_zero_iff.1 this] at hu
      simp at hu
    · refine ⟨⟨g, (i + 1) * 2, none⟩, by simp [hc], fun t u hu => ?_⟩
      rw [Addr.add_lit]
      refine Blk.cell (hB0.drew) ?_
      rw [hdr, List.getElem?_drop, List.getElem?_take] at hu
      split at hu
      · exact hu
      · cases hu
  obtain ⟨W1, hW1⟩ : ∃ W1, W1 = w.drew.setCells g (0 + i * 2) news := ⟨_, rfl⟩
  have hB1 : Blk W1 g 46 (cs0.take (i * 2) ++ news ++ cs0.drop (i * 2 + news.length)) := by
    rw [hW1, Nat.zero_add]
    exact Blk.setCellsAt news cs0 (i * 2) _ hB0.drew (by omega)
  obtain ⟨cs1, hcs1⟩ : ∃ cs1, cs0.take (i * 2) ++ news ++ cs0.drop (i * 2 + news.length) = cs1 := ⟨_, rfl⟩
  rw [hcs1] at hB1
  have hl1 : cs1.length = c * 2 := by rw [← hcs1]; simp only [List.length_append, List.length_take, List.length_drop]; omega
  have s2 : Box (∀ u ∈ news, u.oneCell' = true) := Box.mk (by rw [← hnews]; exact cel_one _)
  have s3 : Box (∀ j, j < news.length → (w.drew.cell? ⟨g, 0 + i * 2 + j, none⟩).isSome = true ∧ w.drew.frozen? ⟨g, 0 + i * 2 + j, none⟩ = false) := Box.mk fun j hj => by
    rw [Nat.zero_add, hB0.drew.cell (j := i * 2 + j) (List.getElem?_eq_getElem (by omega))]
    exact ⟨rfl, hB0.drew.free _⟩
  have hclr : ∀ ty cc, (Builtin.clear_ #[25] ty #[.slice (some ⟨g, (i + m) * 2, none⟩) 1 cc]).run Tryd.prog W1 = .ok (.tuple #[]) (W1.setCells g ((i + m) * 2) [.string ⟨#[]⟩, .int .u32 0]) := fun ty cc =>
    run_clear_p W1 ty g _ cc (fun j hj => by rw [hB1.cell (j := (i + m) * 2 + j) (List.getElem?_eq_getElem (by omega))]; rfl) (fun j _ => hB1.free _)
  have hB2 := Blk.setCellsAt [.string ⟨#[]⟩, .int .u32 0] cs1 ((i + m) * 2) _ hB1 (by simp; omega)
  have hfin : CellsAt (W1.setCells g ((i + m) * 2) [.string ⟨#[]⟩, .int .u32 0]) (some ⟨g, 0, none⟩) (cel (q.eraseIdx i)) := by
    have e : cel (q.eraseIdx i) = cs1.take ((i + m) * 2) := by
      rw [List.eraseIdx_eq_take_drop_succ, cel_append, hnews, ← hcs1, List.take_left' (by simp only [List.length_append, List.length_take]; omega), ← cel_take, ← htk, List.take_take, Nat.min_eq_left (by omega)]
    refine .inr ⟨g, 0, rfl, fun j u hj => ?_⟩
    rw [Nat.zero_add]
    refine hB2.cell ?_
    rw [e] at hj
    have hjl := (List.getElem?_eq_some_iff.1 hj).1
    rw [List.append_assoc, List.getElem?_append_left hjl]
    exact hj
  have hbw : Below base w (W1.setCells g ((i + m) * 2) [.string ⟨#[]⟩, .int .u32 0]) := by
    rw [hW1]
    exact below_setCells hg _ _ _ (below_setCells hg _ _ _ (Below.drew (Below.refl _ _)))
  have hkx : KeptX (some ⟨g, 0, none⟩) w (W1.setCells g ((i + m) * 2) [.string ⟨#[]⟩, .int .u32 0]) := by
    rw [hW1]
    exact (KeptX.trans (KeptX.below (Below.drew (Below.refl _ _))) (KeptX.setCells _ _ _)).trans (KeptX.setCells _ _ _)
  have hW := Box.mk hW1
  have H_hsrc := Box.mk hsrc
  have H_hnl := Box.mk hnl
  clear hsrc hnl
  clear hW1 hB1 hB2 hcs1 hl1 hdr hB0 htk hl0 hcs0 hbk hcs h hn hnews
  have H_hfin := Box.mk hfin
  have H_hbw := Box.mk hbw
  have H_hkx := Box.mk hkx
  clear hfin hbw hkx
  have c1 : (0 : Int) ≤ (i : Int) + 1 := by omega
  have c2 : ((i : Int) + 1).toNat = i + 1 := by omega
  have c3 : (i : Int) + 1 ≤ ((i + 1 + m : Nat) : Int) := by omega
  have c4 : (i : Int) + 1 ≤ (c : Int) := by omega
  have c5 : ((i : Int) == (i : Int) + 1) = false := by simp; omega
  have c6 : i + 1 + m - (i + 1) = m := by omega
  have c7 : i ≤ c := by omega
  have c8 : i + 1 ≤ c := by omega
  have c9 : (i : Int) + 1 ≤ (i : Int) + 1 + (m : Int) := by omega
  have c10 : (i : Int) + (m : Int) ≤ (i : Int) + 1 + (m : Int) := by omega
  have c11 : (i : Int) + 1 + (m : Int) ≤ (c : Int) := by omega
  have c12 : i + 1 + m - (i + m) = 1 := by omega
  have mixed : Tryd.prog.follows .mixedOrders = true := by kernel_rfl
  go_enter Tryd.func52, Tryd.ntmps52
  have hb0 := Below.refl w.heap.size w
  go_wp2_with fail
  go_region_law_o (refine step_append_room rfl (.tmp 22) (.tmp 25) 25 rfl 46 i0 2 Tryd.underlying25 hi0 hz1 g 0 i c (by simp [Act.eval, Act.put]) A m (c - (i + 1)) news (by simp [Act.eval, Act.put]) H_hnl.out H_hsrc.out s2.out (by omega) s3.out ?_; rw [← hW.out])
  go_wp2_with fail
  go_ret
  refine ⟨?_, H_hfin.out, H_hbw.out, H_hkx.out⟩
  rw [show i + 1 + m - 1 = i + m by omega]
  rfl

end Go.Proofs.YthdldmkeoglflaaDoor
