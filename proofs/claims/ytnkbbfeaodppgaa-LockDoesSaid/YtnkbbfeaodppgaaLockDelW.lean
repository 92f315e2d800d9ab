/- slices.Delete at []api.Wait: one element. -/
import Derived.Test.YtnkbbfeaodppgaaLockDelF
import Derived.ArgAppend
import Derived.Shelf.RegionOpenPlain
import Derived.Deep.RegionLaw
namespace Go.Proofs.Ytnkbbfeaodppgaa
set_option linter.unusedSimpArgs false
set_option linter.unusedVariables false
set_option linter.unnecessarySimpa false
open Go.RowKit

theorem Blk.setCellsAt {B : Nat} {t : TypeId} : ∀ (vs cs : List Value) (o : Nat) (w : World), Blk w B t cs → o + vs.length ≤ cs.length → Blk (w.setCells B o vs) B t (cs.take o ++ vs ++ cs.drop (o + vs.length))
  | [], cs, o, w, h, _ => by
    have e : cs.take o ++ [] ++ cs.drop (o + ([] : List Value).length) = cs := by simp
    rw [e]; exact h
  | v :: vs, cs, o, w, h, hl => by
    have hl' : o + (vs.length + 1) ≤ cs.length := hl
    have h1 := Blk.setCellsAt vs _ (o + 1) _ (h.set o v) (by rw [List.length_set]; omega)
    have e : (cs.set o v).take (o + 1) ++ vs ++ (cs.set o v).drop (o + 1 + vs.length) = cs.take o ++ (v :: vs) ++ cs.drop (o + (v :: vs).length) := by
      have e1 : (cs.set o v).take (o + 1) = cs.take o ++ [v] := by
        rw [List.take_add_one, List.take_set, List.set_eq_of_length_le (by rw [List.length_take]; omega)]
        simp [show o < cs.length by omega]
      have e2 : (cs.set o v).drop (o + 1 + vs.length) = cs.drop (o + (vs.length + 1)) := by
        rw [List.drop_set, if_pos (by omega), show o + 1 + vs.length = o + (vs.length + 1) by omega]
      rw [e1, e2]; simp
    rw [← e]
    exact h1
theorem zero_wait (w : World) : (zeroValue 34).run Try.prog w = .ok (.agg #[.int .i64 0, .bool false]) w := by
  obtain ⟨i0, hi, hz0, hz1, hz2⟩ := info_parts info_wait
  simp [zeroValue, typeInfo, hi, hz0]
theorem run_clear_w (w : World) (ty : TypeId) (b o c : Nat) (hc : ∀ j, j < 2 → (w.cell? ⟨b, o + j, none⟩).isSome = true) (hf : ∀ j, j < 2 → w.frozen? ⟨b, o + j, none⟩ = false) :
    (Builtin.clear_ #[23] ty #[.slice (some ⟨b, o, none⟩) 1 c]).run Try.prog w = .ok (.tuple #[]) (w.setCells b o [.int .i64 0, .bool false]) := by
  have hzc : (Builtin.zeroCells (Value.agg #[.int .i64 0, .bool false]).cells 1).toList = [.int .i64 0, .bool false] := by kernel_rfl
  have hst := run_storeCells_cells (P := Try.prog) b o [.int .i64 0, .bool false] 0 w (by simpa using hc) (by simpa using hf) (by intro v hv; simp at hv; rcases hv with rfl | rfl <;> rfl)
  simp only [Nat.add_zero] at hst
  simp [Builtin.clear_, run_underlying Try.underlying23, zero_wait, hzc, hst]
theorem celW_take : ∀ (q : Waits) (i : Nat), (celW q).take (i * 2) = celW (q.take i)
  | [], i => by simp [celW_nil]
  | _ :: _, 0 => by simp [celW_nil]
  | s :: q, i + 1 => by
    rw [celW_cons, List.take_succ_cons, celW_cons, show (i + 1) * 2 = i * 2 + 1 + 1 by omega, List.take_succ_cons, List.take_succ_cons, celW_take q i]
theorem celW_drop : ∀ (q : Waits) (i : Nat), (celW q).drop (i * 2) = celW (q.drop i)
  | [], i => by simp [celW_nil]
  | _ :: _, 0 => by simp
  | s :: q, i + 1 => by
    rw [celW_cons, List.drop_succ_cons, show (i + 1) * 2 = i * 2 + 1 + 1 by omega, List.drop_succ_cons, List.drop_succ_cons, celW_drop q i]

set_option maxRecDepth 100000 in
set_option maxHeartbeats 2000000 in
theorem delW_any (q : Waits) (i : Nat) (qa : Option Addr) (n c base : Nat) (w : World) (h : OwnX w base 34 2 (.slice qa n c) n (celW q)) (hn : n = q.length) (hi : i < n) (hml : n ≤ 1000000) :
    Calls Try.prog 36 #[.slice qa n c, .int .i64 i, .int .i64 ((i : Int) + 1)] w fun e w' =>
      e = .returned (.slice qa (n - 1) c) ∧ CellsAt w' qa (celW (q.eraseIdx i)) ∧ Below base w w' ∧ KeptX qa w w' := by
  obtain ⟨i0, hi0, hz0, hz1, hz2⟩ := info_parts info_wait
  rcases h.2 with ⟨_, h0⟩ | ⟨g, cap, cur, hv, hg, hbk, hnc, hcm, hcs, htk⟩
  · omega
  cases hv
  have hlt := lt_of_block hbk
  obtain ⟨m, rfl⟩ : ∃ m, n = i + 1 + m := ⟨n - (i + 1), by omega⟩
  have hB0 : Blk w g 34 cur.toList := by unfold Blk; simpa using hbk
  have hl0 : cur.toList.length = c * 2 := by rw [Array.length_toList]; exact hcs
  obtain ⟨cs0, hcs0⟩ : ∃ cs0, cur.toList = cs0 := ⟨_, rfl⟩
  rw [hcs0] at hB0 hl0 htk
  obtain ⟨news, hnews⟩ : ∃ news, celW (q.drop (i + 1)) = news := ⟨_, rfl⟩
  have hnl : news.length = m * 2 := by rw [← hnews, celW_len, List.length_drop]; omega
  have hdr : news = (cs0.take ((i + 1 + m) * 2)).drop ((i + 1) * 2) := by rw [htk, celW_drop, hnews]
  obtain ⟨A, hA, hsrc⟩ : ∃ A : Addr, (if c = i + 1 then (some ⟨g, 0, none⟩ : Option Addr) else some ⟨g, (i + 1) * 2, none⟩) = some A ∧ ∀ t u, news[t]? = some u → w.drew.cell? (A.add t) = some u := by
    by_cases hc : c = i + 1
    · refine ⟨⟨g, 0, none⟩, by simp [hc], fun t u hu => ?_⟩
      have : news.length = 0 := by omega
      rw [List.length_eq_zero_iff.1 this] at hu
      simp at hu
    · refine ⟨⟨g, (i + 1) * 2, none⟩, by simp [hc], fun t u hu => ?_⟩
      rw [Addr.add_lit]
      refine Blk.cell (hB0.drew) ?_
      rw [hdr, List.getElem?_drop, List.getElem?_take] at hu
      split at hu
      · exact hu
      · cases hu
  obtain ⟨W1, hW1⟩ : ∃ W1, W1 = w.drew.setCells g (0 + i * 2) news := ⟨_, rfl⟩
  have hB1 : Blk W1 g 34 (cs0.take (i * 2) ++ news ++ cs0.drop (i * 2 + news.length)) := by
    rw [hW1, Nat.zero_add]
    exact Blk.setCellsAt news cs0 (i * 2) _ hB0.drew (by omega)
  obtain ⟨cs1, hcs1⟩ : ∃ cs1, cs0.take (i * 2) ++ news ++ cs0.drop (i * 2 + news.length) = cs1 := ⟨_, rfl⟩
  rw [hcs1] at hB1
  have hl1 : cs1.length = c * 2 := by rw [← hcs1]; simp only [List.length_append, List.length_take, List.length_drop]; omega
  have s2 : Box (∀ u ∈ news, u.oneCell' = true) := Box.mk (by rw [← hnews]; exact celW_one _)
  have s3 : Box (∀ j, j < news.length → (w.drew.cell? ⟨g, 0 + i * 2 + j, none⟩).isSome = true ∧ w.drew.frozen? ⟨g, 0 + i * 2 + j, none⟩ = false) := Box.mk fun j hj => by
    rw [Nat.zero_add, hB0.drew.cell (j := i * 2 + j) (List.getElem?_eq_getElem (by omega))]
    exact ⟨rfl, hB0.drew.free _⟩
  have hclr : ∀ ty cc, (Builtin.clear_ #[23] ty #[.slice (some ⟨g, (i + m) * 2, none⟩) 1 cc]).run Try.prog W1 = .ok (.tuple #[]) (W1.setCells g ((i + m) * 2) [.int .i64 0, .bool false]) := fun ty cc =>
    run_clear_w W1 ty g _ cc (fun j hj => by rw [hB1.cell (j := (i + m) * 2 + j) (List.getElem?_eq_getElem (by omega))]; rfl) (fun j _ => hB1.free _)
  have hB2 := Blk.setCellsAt [.int .i64 0, .bool false] cs1 ((i + m) * 2) _ hB1 (by simp; omega)
  have hfin : CellsAt (W1.setCells g ((i + m) * 2) [.int .i64 0, .bool false]) (some ⟨g, 0, none⟩) (celW (q.eraseIdx i)) := by
    have e : celW (q.eraseIdx i) = cs1.take ((i + m) * 2) := by
      rw [List.eraseIdx_eq_take_drop_succ, celW_append, hnews, ← hcs1, List.take_left' (by simp only [List.length_append, List.length_take]; omega), ← celW_take, ← htk, List.take_take, Nat.min_eq_left (by omega)]
    refine .inr ⟨g, 0, rfl, fun j u hj => ?_⟩
    rw [Nat.zero_add]
    refine hB2.cell ?_
    rw [e] at hj
    have hjl := (List.getElem?_eq_some_iff.1 hj).1
    rw [List.append_assoc, List.getElem?_append_left hjl]
    exact hj
  have hbw : Below base w (W1.setCells g ((i + m) * 2) [.int .i64 0, .bool false]) := by
    rw [hW1]
    exact below_setCells hg _ _ _ (below_setCells hg _ _ _ (Below.drew (Below.refl _ _)))
  have hkx : KeptX (some ⟨g, 0, none⟩) w (W1.setCells g ((i + m) * 2) [.int .i64 0, .bool false]) := by
    rw [hW1]
    exact (KeptX.trans (KeptX.below (Below.drew (Below.refl _ _))) (KeptX.setCells _ _ _)).trans (KeptX.setCells _ _ _)
  have hW := Box.mk hW1
  have H_hsrc := Box.mk hsrc
  have H_hnl := Box.mk hnl
  clear hsrc hnl
  clear hW1 hB1 hB2 hcs1 hl1 hdr hB0 htk hl0 hcs0 hbk hcs h hn hnews
  have H_hfin := Box.mk hfin
  have H_hbw := Box.mk hbw
  have H_hkx := Box.mk hkx
  clear hfin hbw hkx
  have c1 : (0 : Int) ≤ (i : Int) + 1 := by omega
  have c2 : ((i : Int) + 1).toNat = i + 1 := by omega
  have c3 : (i : Int) + 1 ≤ ((i + 1 + m : Nat) : Int) := by omega
  have c4 : (i : Int) + 1 ≤ (c : Int) := by omega
  have c5 : ((i : Int) == (i : Int) + 1) = false := by simp; omega
  have c6 : i + 1 + m - (i + 1) = m := by omega
  have c7 : i ≤ c := by omega
  have c8 : i + 1 ≤ c := by omega
  have c9 : (i : Int) + 1 ≤ (i : Int) + 1 + (m : Int) := by omega
  have c10 : (i : Int) + (m : Int) ≤ (i : Int) + 1 + (m : Int) := by omega
  have c11 : (i : Int) + 1 + (m : Int) ≤ (c : Int) := by omega
  have c12 : i + 1 + m - (i + m) = 1 := by omega
  have mixed : Try.prog.follows .mixedOrders = true := by kernel_rfl
  go_enter Try.func36, Try.ntmps36
  have hb0 := Below.refl w.heap.size w
  go_wp2_with fail
  go_region_law_o (refine step_append_room rfl (.tmp 22) (.tmp 25) 23 rfl 34 i0 2 Try.underlying23 hi0 hz1 g 0 i c (by simp [Act.eval, Act.put]) A m (c - (i + 1)) news (by simp [Act.eval, Act.put]) H_hnl.out H_hsrc.out s2.out (by omega) s3.out ?_; rw [← hW.out])
  go_wp2_with fail
  go_ret
  refine ⟨?_, H_hfin.out, H_hbw.out, H_hkx.out⟩
  rw [show i + 1 + m - 1 = i + m by omega]
  rfl

end Go.Proofs.Ytnkbbfeaodppgaa
