/- TrieG: TrieAliveP, TrieAlive, TrieSplitsP, TrieSplitsW. -/
import Derived.Test.YtfabcdpmnbeflaaDoorTrieD
import Derived.Test.YtfabcdpmnbeflaaDoorTrieF
import Derived.Test.YtfabcdpmnbeflaaDoorTrieE
import Derived.Test.YtfabcdpmnbeflaaDoorOwnAt
import Derived.Test.YtfabcdpmnbeflaaDoorTrieB
import Derived.DataShut
/- The chapter's example: its lists, plain. -/
namespace Go.Proofs.YtfabcdpmnbeflaaDoor
open Go.RowKit
set_option maxRecDepth 100000

theorem idIn_of {l : List Int} (hl : l.length = 32) (h : (l.all fun x => decide (0 ≤ x ∧ x < 256)) = true) : IdIn l := ⟨hl, fun x hx => by simpa using List.all_eq_true.1 h x hx⟩
def x0 : List Int := List.replicate 32 0
def y0 : List Int := 64 :: List.replicate 31 0
def q0 : List Int := 128 :: List.replicate 31 0
theorem x0_id : IdIn x0 := idIn_of (by decide) (by decide)
theorem y0_id : IdIn y0 := idIn_of (by decide) (by decide)
theorem q0_id : IdIn q0 := idIn_of (by decide) (by decide)
theorem xy_diff : DiffAt x0 y0 1 := ⟨by decide, fun j hj => by
  obtain rfl : j = 0 := by omega
  decide, by decide, by decide⟩
theorem inc_one {x : List Int} (h : IdIn x) : IncL [x] := ⟨fun z hz => by rw [List.mem_singleton.1 hz]; exact h, List.pairwise_singleton _ _⟩
theorem xy_inc : IncL [x0, y0] := ⟨fun x hx => by
  rcases List.mem_cons.1 hx with rfl | hx
  · exact x0_id
  · rw [List.mem_singleton.1 hx]; exact y0_id,
  List.pairwise_cons.2 ⟨fun z hz => by rw [List.mem_singleton.1 hz]; exact ⟨1, xy_diff⟩, List.pairwise_singleton _ _⟩⟩
theorem xy_split : splitN [x0, y0] = 1 := DiffAt.pair xy_diff
theorem xy_cut : CutF [x0, y0] [x0] [y0] 1 := by
  have h := xy_inc.cutF (by decide)
  rw [xy_split] at h
  rw [show zerosL [x0, y0] 1 = [x0] from by decide, show onesL [x0, y0] 1 = [y0] from by decide] at h
  exact h
theorem rootZ_of {l : List (List Int)} (h : IncL l) (hl : l.length ≤ 60) : rootZ l = (rootP l, 0) := by
  unfold rootZ; rw [if_pos (chk_of_inc h hl)]
theorem rootZ_nil : rootZ [] = (x0, 0) := by rw [rootZ_of IncL.nil (by decide), rootP_nil]; rfl
theorem xy_root : rootP [x0, y0] = ofL (nodeB 1 (rootP [x0]) (rootP [y0])) := xy_cut.root
theorem xy_ne : rootP [x0, y0] ≠ rootP [x0] := by
  rw [xy_root, rootP_one, rootP_one]
  decide +kernel
theorem xy_prove : proveZ [x0, y0] q0 = ⟨⟨[1], [rootP [y0]], x0, false⟩, false, 0⟩ := by
  unfold proveZ
  rw [if_neg (by rw [chk_of_inc xy_inc (by decide)]; simp), if_neg (by decide), provP_two xy_cut xy_split, if_neg (by decide), provP_one]
  rw [show decide (x0 = q0) = false by decide]
  rfl
theorem xy_lack : lackP [x0, y0] [x0] = [y0] := by decide
theorem xy_lack2 : lackP [x0] [x0, y0] = [] := by decide

end Go.Proofs.YtfabcdpmnbeflaaDoor

/- The chapter's examples hold. -/
namespace Go.Proofs.YtfabcdpmnbeflaaDoor
set_option linter.unusedSimpArgs false
set_option linter.unusedVariables false
set_option linter.unnecessarySimpa false
open Go.RowKit
set_option maxRecDepth 100000

theorem one_ids {x : List Int} {us : List Value} (hx : IdIn x) (hus : us = idC x) {w : World} {b : Nat} {t : TypeId} (h : Blk w b t us) : IdsIn w (some ⟨b, 0, none⟩) 1 [x] := ⟨by rw [idsC_single, ← hus]; exact h.cellsRow, fun z hz => by rw [List.mem_singleton.1 hz]; exact hx, Nat.le_refl _⟩
theorem two_ids {x y : List Int} {us vs : List Value} (hx : IdIn x) (hy : IdIn y) (hus : us = idC x) (hvs : vs = idC y) {w : World} {b : Nat} {t : TypeId} (h : Blk w b t (us ++ vs)) : IdsIn w (some ⟨b, 0, none⟩) 2 [x, y] := ⟨by
  rw [show [x, y] = [x] ++ [y] from rfl, idsC_append, idsC_single, idsC_single, ← hus, ← hvs]; exact h.cellsRow, fun z hz => by
  rcases List.mem_cons.1 hz with rfl | hz
  · exact hx
  · rw [List.mem_singleton.1 hz]; exact hy, Nat.le_refl _⟩
theorem fold_proof (v1 v2 : Value) (us : List Value) (hl : us.length = 32) : List.foldl (fun (cs : Array Value) (x : Value × Nat) => cs.setIfInBounds (2 + x.snd) x.fst) #[v1, v2, .int .u8 0, .int .u8 0, .int .u8 0, .int .u8 0, .int .u8 0, .int .u8 0, .int .u8 0, .int .u8 0, .int .u8 0, .int .u8 0, .int .u8 0, .int .u8 0, .int .u8 0, .int .u8 0, .int .u8 0, .int .u8 0, .int .u8 0, .int .u8 0, .int .u8 0, .int .u8 0, .int .u8 0, .int .u8 0, .int .u8 0, .int .u8 0, .int .u8 0, .int .u8 0, .int .u8 0, .int .u8 0, .int .u8 0, .int .u8 0, .int .u8 0, .int .u8 0, .bool false] us.zipIdx = (v1 :: v2 :: (us ++ [.bool false])).toArray := by
  rw [fold_setO 2 us 0 _ (by simp [hl]), hl]
  rfl
section
variable {ops : Array Oper} {rest : List Oper} {o : Oper} {a : Act} {w : World} {Q : Exit → Act → World → Prop}
theorem wpList_runG {P : Program} (hw : Region.wanted o (yielded ops a.tmps) = true) {v : Value} {w' : World} (hr : (execOp a.eval o).run P w = .ok (.value v) w')
    (h : wpList P ops Q rest (a.put o.dst v) w') : wpList P ops Q (o :: rest) a w := by
  refine wpList_want hw fun K hK => ?_
  unfold Oper.wp
  simp only [hr]
  exact hK _ _ h
theorem wpList_build_idG (hw : Region.wanted o (yielded ops a.tmps) = true) (x : Operand) (ho : o.op = .buildSlice 22 1 #[(0, x)]) (us : List Value) (hx : a.eval x = .agg us.toArray) (hl : us.length = 32)
    (h : wpList Tryd.prog ops Q rest (a.put o.dst (.slice (some ⟨w.heap.size, 0, none⟩) 1 1)) (w.alloc (.cells us.toArray 24))) : wpList Tryd.prog ops Q (o :: rest) a w :=
  wpList_runG hw (by
    have := run_build_id1 us hl w
    simp only [execOp, ho, List.map_toArray, List.map_cons, List.map_nil, hx, Sem.run_bind, this, Result.andThen]; rfl) h
end

set_option maxHeartbeats 8000000 in
theorem alive_any (w : World) (hT : TabK w) :
    Calls Tryd.prog 21 #[] w fun e w' =>
      e = .returned (.bool true) ∧ Below w.heap.size w w' := by
  have hra := rootP_id [x0]
  have hrb := rootP_id [y0]
  have hrd := rootP_id [x0, y0]
  obtain ⟨us, hus⟩ : ∃ v, v = idC (x0) := ⟨_, rfl⟩
  have husl := idC_len x0_id
  have husi := idC_info x0_id
  have huso := idC_one (x0)
  rw [← hus] at husl husi huso
  have husr : us.length = (List.replicate 32 (Value.int .u8 0)).length := by rw [husl]; rfl
  obtain ⟨vs, hvs⟩ : ∃ v, v = idC (y0) := ⟨_, rfl⟩
  have hvsl := idC_len y0_id
  have hvsi := idC_info y0_id
  have hvso := idC_one (y0)
  rw [← hvs] at hvsl hvsi hvso
  have hvsr : vs.length = (List.replicate 32 (Value.int .u8 0)).length := by rw [hvsl]; rfl
  obtain ⟨xa, hxa⟩ : ∃ v, v = idC (rootP [x0]) := ⟨_, rfl⟩
  have hxal := idC_len hra
  have hxai := idC_info hra
  have hxao := idC_one (rootP [x0])
  rw [← hxa] at hxal hxai hxao
  have hxar : xa.length = (List.replicate 32 (Value.int .u8 0)).length := by rw [hxal]; rfl
  obtain ⟨xb, hxb⟩ : ∃ v, v = idC (rootP [y0]) := ⟨_, rfl⟩
  have hxbl := idC_len hrb
  have hxbi := idC_info hrb
  have hxbo := idC_one (rootP [y0])
  rw [← hxb] at hxbl hxbi hxbo
  have hxbr : xb.length = (List.replicate 32 (Value.int .u8 0)).length := by rw [hxbl]; rfl
  obtain ⟨xd, hxd⟩ : ∃ v, v = idC (rootP [x0, y0]) := ⟨_, rfl⟩
  have hxdl := idC_len hrd
  have hxdi := idC_info hrd
  have hxdo := idC_one (rootP [x0, y0])
  rw [← hxd] at hxdl hxdi hxdo
  have hxdr : xd.length = (List.replicate 32 (Value.int .u8 0)).length := by rw [hxdl]; rfl
  have c1 : ∀ W, TabK W → Calls Tryd.prog 11 #[.slice none 0 0] W fun e w' => e = .returned (.tuple #[.agg us.toArray, .int .i64 0]) ∧ Below W.heap.size W w' := fun W h => by
    have := Root_any [] none 0 0 W (.nil _ _ _) rfl (by unfold maxLen; omega) h
    simp only [rootZ_nil, ← hus] at this; exact this
  have c2 : ∀ W b, IdsIn W b 1 [x0] → TabK W → Calls Tryd.prog 11 #[.slice b 1 1] W fun e w' => e = .returned (.tuple #[.agg xa.toArray, .int .i64 0]) ∧ Below W.heap.size W w' := fun W b hI h => by
    have := Root_any [x0] b 1 1 W hI rfl (by unfold maxLen; omega) h
    simp only [rootZ_of (inc_one x0_id) (by decide), ← hxa] at this; exact this
  have c3 : ∀ W, TabK W → Calls Tryd.prog 40 #[.agg us.toArray] W fun e w' => e = .returned (.tuple #[.agg xa.toArray, .int .i64 0]) ∧ Below W.heap.size W w' := fun W h => by
    have := lleaf_any x0 W x0_id h
    rw [← rootP_one] at this
    simp only [GivesId, ← hxa, ← hus] at this; exact this
  have c4 : ∀ W, TabK W → Calls Tryd.prog 40 #[.agg vs.toArray] W fun e w' => e = .returned (.tuple #[.agg xb.toArray, .int .i64 0]) ∧ Below W.heap.size W w' := fun W h => by
    have := lleaf_any y0 W y0_id h
    rw [← rootP_one] at this
    simp only [GivesId, ← hxb, ← hvs] at this; exact this
  have c5 : ∀ W b, IdsIn W b 2 [x0, y0] → TabK W → Calls Tryd.prog 11 #[.slice b 2 2] W fun e w' => e = .returned (.tuple #[.agg xd.toArray, .int .i64 0]) ∧ Below W.heap.size W w' := fun W b hI h => by
    have := Root_any [x0, y0] b 2 2 W hI rfl (by unfold maxLen; omega) h
    simp only [rootZ_of xy_inc (by decide), ← hxd] at this; exact this
  have c6 : ∀ W, TabK W → Calls Tryd.prog 25 #[.int .u8 1, .agg xa.toArray, .agg xb.toArray] W fun e w' => e = .returned (.tuple #[.agg xd.toArray, .int .i64 0]) ∧ Below W.heap.size W w' := fun W h => by
    have := lnode_any 1 (rootP [x0]) (rootP [y0]) W hra hrb (by omega) h
    have e : nodeB ((1 : Nat) : Int) (rootP [x0]) (rootP [y0]) = nodeB 1 (rootP [x0]) (rootP [y0]) := rfl
    rw [e, ← xy_root] at this
    simp only [GivesId, ← hxa, ← hxb, ← hxd] at this; exact this
  have c7 : ∀ W p q, IdsIn W (some p) 2 [x0, y0] → IdsIn W (some q) 1 [x0] → p.block < W.heap.size → q.block < W.heap.size → TabK W → Calls Tryd.prog 22 #[.slice (some p) 2 2, .slice (some q) 1 1] W fun e w' => (∃ la lc ra rc, e = .returned (.tuple #[.slice la 1 lc, .slice ra 0 rc, .int .i64 1, .int .i64 0]) ∧ IdsIn w' la lc [y0] ∧ IdsIn w' ra rc []) ∧ Below W.heap.size W w' := fun W p q h1 h2 h3 h4 h => by
    have hd := down_few [x0, y0] [x0] xy_inc (inc_one x0_id) (by decide) (by decide) xy_ne (.inr (by decide))
    rw [xy_lack, xy_lack2] at hd
    have := differ_ok [x0, y0] [x0] ⟨[y0], [], 1⟩ (some p) (some q) 2 2 1 1 W xy_inc (inc_one x0_id) rfl rfl (by omega) (by omega) h1 h2 h (fun x e => by cases e; exact h3) (fun x e => by cases e; exact h4) hd ⟨fun z hz => by rw [List.mem_singleton.1 hz]; exact y0_id, fun z hz => by cases hz⟩
    exact this
  have c8 : ∀ W b, IdsIn W b 2 [x0, y0] → TabK W → Calls Tryd.prog 15 #[.slice b 2 2, .agg #[.int .u8 128, .int .u8 0, .int .u8 0, .int .u8 0, .int .u8 0, .int .u8 0, .int .u8 0, .int .u8 0, .int .u8 0, .int .u8 0, .int .u8 0, .int .u8 0, .int .u8 0, .int .u8 0, .int .u8 0, .int .u8 0, .int .u8 0, .int .u8 0, .int .u8 0, .int .u8 0, .int .u8 0, .int .u8 0, .int .u8 0, .int .u8 0, .int .u8 0, .int .u8 0, .int .u8 0, .int .u8 0, .int .u8 0, .int .u8 0, .int .u8 0, .int .u8 0]] W fun e w' => (∃ ba bc da dc, e = .returned (.tuple #[.agg (prC ba 1 bc da 1 dc x0 false).toArray, .bool false, .int .i64 0]) ∧ ProofIn w' ⟨[1], [rootP [y0]], x0, false⟩ ba bc da dc) ∧ Below W.heap.size W w' := fun W b hI h => by
    have := prove_any [x0, y0] q0 b 2 2 W hI rfl (by unfold maxLen; omega) q0_id h
    rw [xy_prove] at this
    exact this
  have c9 : ∀ W a b c d, IdsIn W a c [y0] → IdsIn W b d [y0] → Calls Tryd.prog 19 #[.slice a 1 c, .slice b 1 d] W fun e w' => e = .returned (.bool true) ∧ Below W.heap.size W w' := fun W a b c d h1 h2 => by
    have := sameIds_any [y0] [y0] a b 1 1 c d W h1 h2 rfl rfl (by unfold maxLen; omega) (by unfold maxLen; omega)
    simp only [decide_true] at this; exact this
  have heqz : ∀ w, (Op.equalIn 10000 24 (.agg us.toArray) (.agg #[.int .u8 0, .int .u8 0, .int .u8 0, .int .u8 0, .int .u8 0, .int .u8 0, .int .u8 0, .int .u8 0, .int .u8 0, .int .u8 0, .int .u8 0, .int .u8 0, .int .u8 0, .int .u8 0, .int .u8 0, .int .u8 0, .int .u8 0, .int .u8 0, .int .u8 0, .int .u8 0, .int .u8 0, .int .u8 0, .int .u8 0, .int .u8 0, .int .u8 0, .int .u8 0, .int .u8 0, .int .u8 0, .int .u8 0, .int .u8 0, .int .u8 0, .int .u8 0])).run Tryd.prog w = .ok true w := fun w => by
    rw [hus]; have := eq_ids x0 x0 x0_id.len x0_id.len w; rw [beq_self_eq_true] at this; exact this
  have heqa : ∀ w, (Op.equalIn 10000 24 (.agg xa.toArray) (.agg xa.toArray)).run Tryd.prog w = .ok true w := fun w => by
    rw [hxa]; have := eq_ids _ _ hra.len hra.len w; rw [beq_self_eq_true] at this; exact this
  have heqd : ∀ w, (Op.equalIn 10000 24 (.agg xd.toArray) (.agg xd.toArray)).run Tryd.prog w = .ok true w := fun w => by
    rw [hxd]; have := eq_ids _ _ hrd.len hrd.len w; rw [beq_self_eq_true] at this; exact this
  have hN1 : Blk ((w.alloc (.cells (List.replicate 32 (Value.int .u8 0)).toArray 24)).alloc (.cells (List.replicate 32 (Value.int .u8 0)).toArray 24)) w.heap.size 24 (List.replicate 32 (Value.int .u8 0)) := (Blk.newA w w.heap.size _ _ _ rfl rfl).alloc _
  have hN2 : Blk ((w.alloc (.cells (List.replicate 32 (Value.int .u8 0)).toArray 24)).alloc (.cells (List.replicate 32 (Value.int .u8 0)).toArray 24)) (w.heap.size + 1) 24 (List.replicate 32 (Value.int .u8 0)) := Blk.newA _ _ _ _ _ (by simp) rfl
  have H_hra := Box.mk hra
  have H_hrb := Box.mk hrb
  have H_hrd := Box.mk hrd
  have H_hus := Box.mk hus
  have H_husl := Box.mk husl
  have H_husi := Box.mk husi
  have H_huso := Box.mk huso
  have H_husr := Box.mk husr
  have H_hvs := Box.mk hvs
  have H_hvsl := Box.mk hvsl
  have H_hvsi := Box.mk hvsi
  have H_hvso := Box.mk hvso
  have H_hvsr := Box.mk hvsr
  have H_hxa := Box.mk hxa
  have H_hxal := Box.mk hxal
  have H_hxai := Box.mk hxai
  have H_hxao := Box.mk hxao
  have H_hxar := Box.mk hxar
  have H_hxb := Box.mk hxb
  have H_hxbl := Box.mk hxbl
  have H_hxbi := Box.mk hxbi
  have H_hxbo := Box.mk hxbo
  have H_hxbr := Box.mk hxbr
  have H_hxd := Box.mk hxd
  have H_hxdl := Box.mk hxdl
  have H_hxdi := Box.mk hxdi
  have H_hxdo := Box.mk hxdo
  have H_hxdr := Box.mk hxdr
  have H_c1 := Box.mk c1
  have H_c2 := Box.mk c2
  have H_c3 := Box.mk c3
  have H_c4 := Box.mk c4
  have H_c5 := Box.mk c5
  have H_c6 := Box.mk c6
  have H_c7 := Box.mk c7
  have H_c8 := Box.mk c8
  have H_c9 := Box.mk c9
  have H_heqz := Box.mk heqz
  have H_heqa := Box.mk heqa
  have H_heqd := Box.mk heqd
  have H_hT := Box.mk hT
  clear hra hrb hrd hus husl husi huso husr hvs hvsl hvsi hvso hvsr hxa hxal hxai hxao hxar hxb hxbl hxbi hxbo hxbr hxd hxdl hxdi hxdo hxdr c1 c2 c3 c4 c5 c6 c7 c8 c9 heqz heqa heqd hT
  go_enter Tryd.func21, Tryd.ntmps21
  have hb0 := Below.refl w.heap.size w
  go_upto_region 2 with (first | (refine wpList_store_blk rfl 24 _ _ rfl (w.heap.size + 1) (by rfl) 24 _ vs (by rw [H_hvs.out]; rfl) hM2 H_hvsr.out H_hvsi.out H_hvso.out ?_; intro w2 hY he2; have H2 := Box.mk he2; clear he2) | (refine wpList_store_blk rfl 24 _ _ rfl w.heap.size (by rfl) 24 _ us (by rw [H_hus.out]; rfl) hN1 H_husr.out H_husi.out H_huso.out ?_; intro w1 hX he1; have H1 := Box.mk he1; clear he1; have hM2 : Blk w1 (w.heap.size + 1) 24 (List.replicate 32 (Value.int .u8 0)) := H1.out ▸ Blk.setCellsFar (by omega) _ _ _ hN2))
  have hb1 : Below w.heap.size w w1 := H1.out ▸ below_setCells (Nat.le_refl _) _ _ _ (((Below.refl _ _).alloc (Nat.le_refl _) _).alloc (by simp) _)
  have hb2 : Below w.heap.size w w2 := H2.out ▸ below_setCells (by omega) _ _ _ hb1
  replace hX : Blk w2 w.heap.size 24 us := H2.out ▸ Blk.setCellsFar (by omega) _ _ _ hX
  clear H1 H2 hb1 hM2 hN1 hN2
  go_wp2_with fail
  with_reducible refine (H_c1.out _ (H_hT.out.later hb2)).mono ?_
  rintro e w3 ⟨rfl, hc3⟩
  have hb3 : Below w.heap.size w w3 := bchain (by repeat' (first | with_reducible exact hb2 | with_reducible refine Below.drew ?_ | with_reducible refine below_drewN ?_ _ | with_reducible refine Below.alloc ?_ (by have := hb2.size; first | (simp; done) | (simp; omega) | omega) _ | with_reducible refine Below.setCell ?_ (by first | (simp; done) | (simp; omega) | omega) _)) hc3
  have hst3 : Below w2.heap.size w2 w3 := bchain (by repeat' (first | with_reducible exact Below.refl _ _ | with_reducible refine Below.drew ?_ | with_reducible refine below_drewN ?_ _ | with_reducible refine Below.alloc ?_ (by first | (simp; done) | (simp; omega) | omega) _ | with_reducible refine Below.setCell ?_ (by first | (simp; done) | (simp; omega) | omega) _)) hc3
  replace hX := hX.later hst3
  replace hY := hY.later hst3
  clear hst3
  clear hc3
  have hN3 := Blk.newA w3 w3.heap.size _ 24 (List.replicate 32 (Value.int .u8 0)) rfl rfl
  go_upto_region 3 with (refine wpList_store_blk rfl 24 _ _ rfl w3.heap.size (by rfl) 24 _ us (by rfl) hN3 H_husr.out H_husi.out H_huso.out ?_; intro w4 hA he4; have H4 := Box.mk he4; clear he4)
  have hc4 : Below w3.heap.size w3 w4 := H4.out ▸ below_setCells (Nat.le_refl _) _ _ _ ((Below.refl _ _).alloc (Nat.le_refl _) _)
  have hb4 : Below w.heap.size w w4 := bchain (by repeat' (first | with_reducible exact hb3 | with_reducible refine Below.drew ?_ | with_reducible refine below_drewN ?_ _ | with_reducible refine Below.alloc ?_ (by have := hb3.size; first | (simp; done) | (simp; omega) | omega) _ | with_reducible refine Below.setCell ?_ (by first | (simp; done) | (simp; omega) | omega) _)) hc4
  have hst4 : Below w3.heap.size w3 w4 := bchain (by repeat' (first | with_reducible exact Below.refl _ _ | with_reducible refine Below.drew ?_ | with_reducible refine below_drewN ?_ _ | with_reducible refine Below.alloc ?_ (by first | (simp; done) | (simp; omega) | omega) _ | with_reducible refine Below.setCell ?_ (by first | (simp; done) | (simp; omega) | omega) _)) hc4
  replace hX := hX.later hst4
  replace hY := hY.later hst4
  clear hst4
  clear hc4 hN3 H4
  go_wp2_with (first | (refine wpList_load_blk rfl 24 _ rfl w.heap.size (by rfl) 24 us _ hX Tryd.underlying24 rfl H_husi.out ?_) | (refine wpList_build_id rfl _ rfl us (by rfl) H_husl.out ?_))
  with_reducible refine (H_c2.out _ _ (one_ids x0_id H_hus.out (Blk.newA w4 _ _ _ us rfl rfl)) (H_hT.out.later (by repeat' (first | with_reducible exact hb4 | with_reducible refine Below.drew ?_ | with_reducible refine below_drewN ?_ _ | with_reducible refine Below.alloc ?_ (by have := hb4.size; first | (simp; done) | (simp; omega) | omega) _ | with_reducible refine Below.setCell ?_ (by first | (simp; done) | (simp; omega) | omega) _)))).mono ?_
  rintro e w5 ⟨rfl, hc5⟩
  have hb5 : Below w.heap.size w w5 := bchain (by repeat' (first | with_reducible exact hb4 | with_reducible refine Below.drew ?_ | with_reducible refine below_drewN ?_ _ | with_reducible refine Below.alloc ?_ (by have := hb4.size; first | (simp; done) | (simp; omega) | omega) _ | with_reducible refine Below.setCell ?_ (by first | (simp; done) | (simp; omega) | omega) _)) hc5
  have hst5 : Below w4.heap.size w4 w5 := bchain (by repeat' (first | with_reducible exact Below.refl _ _ | with_reducible refine Below.drew ?_ | with_reducible refine below_drewN ?_ _ | with_reducible refine Below.alloc ?_ (by first | (simp; done) | (simp; omega) | omega) _ | with_reducible refine Below.setCell ?_ (by first | (simp; done) | (simp; omega) | omega) _)) hc5
  replace hX := hX.later hst5
  replace hY := hY.later hst5
  replace hA := hA.later hst5
  clear hst5
  clear hc5
  have hN5 := Blk.newA w5 w5.heap.size _ 24 (List.replicate 32 (Value.int .u8 0)) rfl rfl
  go_upto_region 4 with (refine wpList_store_blk rfl 24 _ _ rfl w5.heap.size (by rfl) 24 _ xa (by rfl) hN5 H_hxar.out H_hxai.out H_hxao.out ?_; intro w6 hB he6; have H6 := Box.mk he6; clear he6)
  have hc6 : Below w5.heap.size w5 w6 := H6.out ▸ below_setCells (Nat.le_refl _) _ _ _ ((Below.refl _ _).alloc (Nat.le_refl _) _)
  have hb6 : Below w.heap.size w w6 := bchain (by repeat' (first | with_reducible exact hb5 | with_reducible refine Below.drew ?_ | with_reducible refine below_drewN ?_ _ | with_reducible refine Below.alloc ?_ (by have := hb5.size; first | (simp; done) | (simp; omega) | omega) _ | with_reducible refine Below.setCell ?_ (by first | (simp; done) | (simp; omega) | omega) _)) hc6
  have hst6 : Below w5.heap.size w5 w6 := bchain (by repeat' (first | with_reducible exact Below.refl _ _ | with_reducible refine Below.drew ?_ | with_reducible refine below_drewN ?_ _ | with_reducible refine Below.alloc ?_ (by first | (simp; done) | (simp; omega) | omega) _ | with_reducible refine Below.setCell ?_ (by first | (simp; done) | (simp; omega) | omega) _)) hc6
  replace hX := hX.later hst6
  replace hY := hY.later hst6
  replace hA := hA.later hst6
  clear hst6
  clear hc6 hN5 H6
  go_wp2_with (refine wpList_load_blk rfl 24 _ rfl w.heap.size (by rfl) 24 us _ hX Tryd.underlying24 rfl H_husi.out ?_)
  with_reducible refine (H_c3.out _ (H_hT.out.later hb6)).mono ?_
  rintro e w7 ⟨rfl, hc7⟩
  have hb7 : Below w.heap.size w w7 := bchain (by repeat' (first | with_reducible exact hb6 | with_reducible refine Below.drew ?_ | with_reducible refine below_drewN ?_ _ | with_reducible refine Below.alloc ?_ (by have := hb6.size; first | (simp; done) | (simp; omega) | omega) _ | with_reducible refine Below.setCell ?_ (by first | (simp; done) | (simp; omega) | omega) _)) hc7
  have hst7 : Below w6.heap.size w6 w7 := bchain (by repeat' (first | with_reducible exact Below.refl _ _ | with_reducible refine Below.drew ?_ | with_reducible refine below_drewN ?_ _ | with_reducible refine Below.alloc ?_ (by first | (simp; done) | (simp; omega) | omega) _ | with_reducible refine Below.setCell ?_ (by first | (simp; done) | (simp; omega) | omega) _)) hc7
  replace hX := hX.later hst7
  replace hY := hY.later hst7
  replace hA := hA.later hst7
  replace hB := hB.later hst7
  clear hst7
  clear hc7
  have hN7 := Blk.newA w7 w7.heap.size _ 24 (List.replicate 32 (Value.int .u8 0)) rfl rfl
  go_upto_region 5 with (refine wpList_store_blk rfl 24 _ _ rfl w7.heap.size (by rfl) 24 _ xa (by rfl) hN7 H_hxar.out H_hxai.out H_hxao.out ?_; intro w8 hC he8; have H8 := Box.mk he8; clear he8)
  have hc8 : Below w7.heap.size w7 w8 := H8.out ▸ below_setCells (Nat.le_refl _) _ _ _ ((Below.refl _ _).alloc (Nat.le_refl _) _)
  have hb8 : Below w.heap.size w w8 := bchain (by repeat' (first | with_reducible exact hb7 | with_reducible refine Below.drew ?_ | with_reducible refine below_drewN ?_ _ | with_reducible refine Below.alloc ?_ (by have := hb7.size; first | (simp; done) | (simp; omega) | omega) _ | with_reducible refine Below.setCell ?_ (by first | (simp; done) | (simp; omega) | omega) _)) hc8
  have hst8 : Below w7.heap.size w7 w8 := bchain (by repeat' (first | with_reducible exact Below.refl _ _ | with_reducible refine Below.drew ?_ | with_reducible refine below_drewN ?_ _ | with_reducible refine Below.alloc ?_ (by first | (simp; done) | (simp; omega) | omega) _ | with_reducible refine Below.setCell ?_ (by first | (simp; done) | (simp; omega) | omega) _)) hc8
  replace hX := hX.later hst8
  replace hY := hY.later hst8
  replace hA := hA.later hst8
  replace hB := hB.later hst8
  clear hst8
  clear hc8 hN7 H8
  go_wp2_with (refine wpList_load_blk rfl 24 _ rfl (w.heap.size + 1) (by rfl) 24 vs _ hY Tryd.underlying24 rfl H_hvsi.out ?_)
  with_reducible refine (H_c4.out _ (H_hT.out.later hb8)).mono ?_
  rintro e w9 ⟨rfl, hc9⟩
  have hb9 : Below w.heap.size w w9 := bchain (by repeat' (first | with_reducible exact hb8 | with_reducible refine Below.drew ?_ | with_reducible refine below_drewN ?_ _ | with_reducible refine Below.alloc ?_ (by have := hb8.size; first | (simp; done) | (simp; omega) | omega) _ | with_reducible refine Below.setCell ?_ (by first | (simp; done) | (simp; omega) | omega) _)) hc9
  have hst9 : Below w8.heap.size w8 w9 := bchain (by repeat' (first | with_reducible exact Below.refl _ _ | with_reducible refine Below.drew ?_ | with_reducible refine below_drewN ?_ _ | with_reducible refine Below.alloc ?_ (by first | (simp; done) | (simp; omega) | omega) _ | with_reducible refine Below.setCell ?_ (by first | (simp; done) | (simp; omega) | omega) _)) hc9
  replace hX := hX.later hst9
  replace hY := hY.later hst9
  replace hA := hA.later hst9
  replace hB := hB.later hst9
  replace hC := hC.later hst9
  clear hst9
  clear hc9
  have hN9 := Blk.newA w9 w9.heap.size _ 24 (List.replicate 32 (Value.int .u8 0)) rfl rfl
  go_upto_region 6 with (refine wpList_store_blk rfl 24 _ _ rfl w9.heap.size (by rfl) 24 _ xb (by rfl) hN9 H_hxbr.out H_hxbi.out H_hxbo.out ?_; intro w10 hD he10; have H10 := Box.mk he10; clear he10)
  have hc10 : Below w9.heap.size w9 w10 := H10.out ▸ below_setCells (Nat.le_refl _) _ _ _ ((Below.refl _ _).alloc (Nat.le_refl _) _)
  have hb10 : Below w.heap.size w w10 := bchain (by repeat' (first | with_reducible exact hb9 | with_reducible refine Below.drew ?_ | with_reducible refine below_drewN ?_ _ | with_reducible refine Below.alloc ?_ (by have := hb9.size; first | (simp; done) | (simp; omega) | omega) _ | with_reducible refine Below.setCell ?_ (by first | (simp; done) | (simp; omega) | omega) _)) hc10
  have hst10 : Below w9.heap.size w9 w10 := bchain (by repeat' (first | with_reducible exact Below.refl _ _ | with_reducible refine Below.drew ?_ | with_reducible refine below_drewN ?_ _ | with_reducible refine Below.alloc ?_ (by first | (simp; done) | (simp; omega) | omega) _ | with_reducible refine Below.setCell ?_ (by first | (simp; done) | (simp; omega) | omega) _)) hc10
  replace hX := hX.later hst10
  replace hY := hY.later hst10
  replace hA := hA.later hst10
  replace hB := hB.later hst10
  replace hC := hC.later hst10
  clear hst10
  clear hc10 hN9 H10
  go_wp2_with (first | (refine wpList_load_blk rfl 24 _ rfl w.heap.size (by rfl) 24 us _ hX Tryd.underlying24 rfl H_husi.out ?_) | (refine wpList_load_blk rfl 24 _ rfl (w.heap.size + 1) (by rfl) 24 vs _ hY Tryd.underlying24 rfl H_hvsi.out ?_) | (refine wpList_build_id2 rfl _ _ rfl us vs (by rfl) (by rfl) H_husl.out H_hvsl.out ?_))
  with_reducible refine (H_c5.out _ _ (two_ids x0_id y0_id H_hus.out H_hvs.out (Blk.newA w10 _ _ _ (us ++ vs) rfl rfl)) (H_hT.out.later (by repeat' (first | with_reducible exact hb10 | with_reducible refine Below.drew ?_ | with_reducible refine below_drewN ?_ _ | with_reducible refine Below.alloc ?_ (by have := hb10.size; first | (simp; done) | (simp; omega) | omega) _ | with_reducible refine Below.setCell ?_ (by first | (simp; done) | (simp; omega) | omega) _)))).mono ?_
  rintro e w11 ⟨rfl, hc11⟩
  have hb11 : Below w.heap.size w w11 := bchain (by repeat' (first | with_reducible exact hb10 | with_reducible refine Below.drew ?_ | with_reducible refine below_drewN ?_ _ | with_reducible refine Below.alloc ?_ (by have := hb10.size; first | (simp; done) | (simp; omega) | omega) _ | with_reducible refine Below.setCell ?_ (by first | (simp; done) | (simp; omega) | omega) _)) hc11
  have hst11 : Below w10.heap.size w10 w11 := bchain (by repeat' (first | with_reducible exact Below.refl _ _ | with_reducible refine Below.drew ?_ | with_reducible refine below_drewN ?_ _ | with_reducible refine Below.alloc ?_ (by first | (simp; done) | (simp; omega) | omega) _ | with_reducible refine Below.setCell ?_ (by first | (simp; done) | (simp; omega) | omega) _)) hc11
  replace hX := hX.later hst11
  replace hY := hY.later hst11
  replace hA := hA.later hst11
  replace hB := hB.later hst11
  replace hC := hC.later hst11
  replace hD := hD.later hst11
  clear hst11
  clear hc11
  have hN11 := Blk.newA w11 w11.heap.size _ 24 (List.replicate 32 (Value.int .u8 0)) rfl rfl
  go_upto_region 7 with (refine wpList_store_blk rfl 24 _ _ rfl w11.heap.size (by rfl) 24 _ xd (by rfl) hN11 H_hxdr.out H_hxdi.out H_hxdo.out ?_; intro w12 hE he12; have H12 := Box.mk he12; clear he12)
  have hc12 : Below w11.heap.size w11 w12 := H12.out ▸ below_setCells (Nat.le_refl _) _ _ _ ((Below.refl _ _).alloc (Nat.le_refl _) _)
  have hb12 : Below w.heap.size w w12 := bchain (by repeat' (first | with_reducible exact hb11 | with_reducible refine Below.drew ?_ | with_reducible refine below_drewN ?_ _ | with_reducible refine Below.alloc ?_ (by have := hb11.size; first | (simp; done) | (simp; omega) | omega) _ | with_reducible refine Below.setCell ?_ (by first | (simp; done) | (simp; omega) | omega) _)) hc12
  have hst12 : Below w11.heap.size w11 w12 := bchain (by repeat' (first | with_reducible exact Below.refl _ _ | with_reducible refine Below.drew ?_ | with_reducible refine below_drewN ?_ _ | with_reducible refine Below.alloc ?_ (by first | (simp; done) | (simp; omega) | omega) _ | with_reducible refine Below.setCell ?_ (by first | (simp; done) | (simp; omega) | omega) _)) hc12
  replace hX := hX.later hst12
  replace hY := hY.later hst12
  replace hA := hA.later hst12
  replace hB := hB.later hst12
  replace hC := hC.later hst12
  replace hD := hD.later hst12
  clear hst12
  clear hc12 hN11 H12
  go_wp2_with (first | (refine wpList_load_blk rfl 24 _ rfl w7.heap.size (by rfl) 24 xa _ hC Tryd.underlying24 rfl H_hxai.out ?_) | (refine wpList_load_blk rfl 24 _ rfl w9.heap.size (by rfl) 24 xb _ hD Tryd.underlying24 rfl H_hxbi.out ?_))
  with_reducible refine (H_c6.out _ (H_hT.out.later hb12)).mono ?_
  rintro e w13 ⟨rfl, hc13⟩
  have hb13 : Below w.heap.size w w13 := bchain (by repeat' (first | with_reducible exact hb12 | with_reducible refine Below.drew ?_ | with_reducible refine below_drewN ?_ _ | with_reducible refine Below.alloc ?_ (by have := hb12.size; first | (simp; done) | (simp; omega) | omega) _ | with_reducible refine Below.setCell ?_ (by first | (simp; done) | (simp; omega) | omega) _)) hc13
  have hst13 : Below w12.heap.size w12 w13 := bchain (by repeat' (first | with_reducible exact Below.refl _ _ | with_reducible refine Below.drew ?_ | with_reducible refine below_drewN ?_ _ | with_reducible refine Below.alloc ?_ (by first | (simp; done) | (simp; omega) | omega) _ | with_reducible refine Below.setCell ?_ (by first | (simp; done) | (simp; omega) | omega) _)) hc13
  replace hX := hX.later hst13
  replace hY := hY.later hst13
  replace hA := hA.later hst13
  replace hB := hB.later hst13
  replace hC := hC.later hst13
  replace hD := hD.later hst13
  replace hE := hE.later hst13
  clear hst13
  clear hc13
  have hN13 := Blk.newA w13 w13.heap.size _ 24 (List.replicate 32 (Value.int .u8 0)) rfl rfl
  go_upto_region 8 with (refine wpList_store_blk rfl 24 _ _ rfl w13.heap.size (by rfl) 24 _ xd (by rfl) hN13 H_hxdr.out H_hxdi.out H_hxdo.out ?_; intro w14 hF he14; have H14 := Box.mk he14; clear he14)
  have hc14 : Below w13.heap.size w13 w14 := H14.out ▸ below_setCells (Nat.le_refl _) _ _ _ ((Below.refl _ _).alloc (Nat.le_refl _) _)
  have hb14 : Below w.heap.size w w14 := bchain (by repeat' (first | with_reducible exact hb13 | with_reducible refine Below.drew ?_ | with_reducible refine below_drewN ?_ _ | with_reducible refine Below.alloc ?_ (by have := hb13.size; first | (simp; done) | (simp; omega) | omega) _ | with_reducible refine Below.setCell ?_ (by first | (simp; done) | (simp; omega) | omega) _)) hc14
  have hst14 : Below w13.heap.size w13 w14 := bchain (by repeat' (first | with_reducible exact Below.refl _ _ | with_reducible refine Below.drew ?_ | with_reducible refine below_drewN ?_ _ | with_reducible refine Below.alloc ?_ (by first | (simp; done) | (simp; omega) | omega) _ | with_reducible refine Below.setCell ?_ (by first | (simp; done) | (simp; omega) | omega) _)) hc14
  replace hX := hX.later hst14
  replace hY := hY.later hst14
  replace hA := hA.later hst14
  replace hB := hB.later hst14
  replace hC := hC.later hst14
  replace hD := hD.later hst14
  replace hE := hE.later hst14
  clear hst14
  clear hc14 hN13 H14
  go_wp2_with (first | (refine wpList_load_blk rfl 24 _ rfl w.heap.size (by rfl) 24 us _ hX Tryd.underlying24 rfl H_husi.out ?_) | (refine wpList_load_blk rfl 24 _ rfl (w.heap.size + 1) (by rfl) 24 vs _ hY Tryd.underlying24 rfl H_hvsi.out ?_) | (refine wpList_build_id2 rfl _ _ rfl us vs (by rfl) (by rfl) H_husl.out H_hvsl.out ?_) | (refine wpList_load_blk rfl 24 _ rfl w.heap.size (by rfl) 24 us _ (hX.alloc _) Tryd.underlying24 rfl H_husi.out ?_) | (refine wpList_build_id rfl _ rfl us (by rfl) H_husl.out ?_))
  with_reducible refine (H_c7.out _ _ _ ((two_ids x0_id y0_id H_hus.out H_hvs.out (Blk.newA w14 _ _ _ (us ++ vs) rfl rfl)).later ((Below.refl _ _).alloc (Nat.le_refl _) _)) (one_ids x0_id H_hus.out (Blk.newA (w14.alloc (.cells (us ++ vs).toArray 24)) (w14.heap.size + 1) _ 24 us (by simp) rfl)) (by simp; omega) (by simp) (H_hT.out.later (by repeat' (first | with_reducible exact hb14 | with_reducible refine Below.drew ?_ | with_reducible refine below_drewN ?_ _ | with_reducible refine Below.alloc ?_ (by have := hb14.size; first | (simp; done) | (simp; omega) | omega) _ | with_reducible refine Below.setCell ?_ (by first | (simp; done) | (simp; omega) | omega) _)))).mono ?_
  rintro e w15 ⟨⟨la, lc, ra, rc, rfl, hL, -⟩, hc15⟩
  have hb15 : Below w.heap.size w w15 := bchain (by repeat' (first | with_reducible exact hb14 | with_reducible refine Below.drew ?_ | with_reducible refine below_drewN ?_ _ | with_reducible refine Below.alloc ?_ (by have := hb14.size; first | (simp; done) | (simp; omega) | omega) _ | with_reducible refine Below.setCell ?_ (by first | (simp; done) | (simp; omega) | omega) _)) hc15
  have hst15 : Below w14.heap.size w14 w15 := bchain (by repeat' (first | with_reducible exact Below.refl _ _ | with_reducible refine Below.drew ?_ | with_reducible refine below_drewN ?_ _ | with_reducible refine Below.alloc ?_ (by first | (simp; done) | (simp; omega) | omega) _ | with_reducible refine Below.setCell ?_ (by first | (simp; done) | (simp; omega) | omega) _)) hc15
  replace hX := hX.later hst15
  replace hY := hY.later hst15
  replace hA := hA.later hst15
  replace hB := hB.later hst15
  replace hC := hC.later hst15
  replace hD := hD.later hst15
  replace hE := hE.later hst15
  replace hF := hF.later hst15
  clear hst15
  clear hc15
  go_wp2_with (first | (refine wpList_load_blk rfl 24 _ rfl w.heap.size (by rfl) 24 us _ hX Tryd.underlying24 rfl H_husi.out ?_) | (refine wpList_load_blk rfl 24 _ rfl (w.heap.size + 1) (by rfl) 24 vs _ hY Tryd.underlying24 rfl H_hvsi.out ?_) | (refine wpList_build_id2 rfl _ _ rfl us vs (by rfl) (by rfl) H_husl.out H_hvsl.out ?_))
  with_reducible refine (H_c8.out _ _ (two_ids x0_id y0_id H_hus.out H_hvs.out (Blk.newA w15 _ _ _ (us ++ vs) rfl rfl)) (H_hT.out.later (by repeat' (first | with_reducible exact hb15 | with_reducible refine Below.drew ?_ | with_reducible refine below_drewN ?_ _ | with_reducible refine Below.alloc ?_ (by have := hb15.size; first | (simp; done) | (simp; omega) | omega) _ | with_reducible refine Below.setCell ?_ (by first | (simp; done) | (simp; omega) | omega) _)))).mono ?_
  rintro e w16 ⟨⟨ba, bc, da, dc, rfl, hp⟩, hc16⟩
  have hb16 : Below w.heap.size w w16 := bchain (by repeat' (first | with_reducible exact hb15 | with_reducible refine Below.drew ?_ | with_reducible refine below_drewN ?_ _ | with_reducible refine Below.alloc ?_ (by have := hb15.size; first | (simp; done) | (simp; omega) | omega) _ | with_reducible refine Below.setCell ?_ (by first | (simp; done) | (simp; omega) | omega) _)) hc16
  have hst16 : Below w15.heap.size w15 w16 := bchain (by repeat' (first | with_reducible exact Below.refl _ _ | with_reducible refine Below.drew ?_ | with_reducible refine below_drewN ?_ _ | with_reducible refine Below.alloc ?_ (by first | (simp; done) | (simp; omega) | omega) _ | with_reducible refine Below.setCell ?_ (by first | (simp; done) | (simp; omega) | omega) _)) hc16
  replace hX := hX.later hst16
  replace hY := hY.later hst16
  replace hA := hA.later hst16
  replace hB := hB.later hst16
  replace hC := hC.later hst16
  replace hD := hD.later hst16
  replace hE := hE.later hst16
  replace hF := hF.later hst16
  replace hL := hL.later hst16
  clear hst16
  clear hc16
  obtain ⟨PV, hPV⟩ : ∃ PV, PV = prC ba 1 bc da 1 dc x0 false := ⟨_, rfl⟩
  have hPVl : PV.length = 35 := by rw [hPV]; exact prC_len x0_id
  have hPVi : (Tryd.prog.info? 41).map (·.size) = some PV.length := by rw [hPVl]; exact info35
  have hPV1 : ∀ u ∈ PV, u.oneCell' = true := by rw [hPV]; exact prC_one _ _ _ _ _ _ _ _
  rw [← hPV]
  have c10 : ∀ W ba' da', ProofIn W ⟨[1], [rootP [y0]], x0, false⟩ ba bc da dc → ProofIn W ⟨[1], [rootP [y0]], x0, false⟩ ba' 1 da' 1 → Calls Tryd.prog 20 #[.agg PV.toArray, .agg (.slice ba' 1 1 :: .slice da' 1 1 :: (us ++ [.bool false])).toArray] W fun e w' => e = .returned (.bool true) ∧ Below W.heap.size W w' := fun W ba' da' h1 h2 => by
    rw [hPV, H_hus.out]; exact sameProof_self ⟨[1], [rootP [y0]], x0, false⟩ ba ba' bc 1 da da' dc 1 W h1 h2 x0_id (by decide) (by decide)
  have H_hPV := Box.mk hPV
  have H_hPVl := Box.mk hPVl
  have H_hPVi := Box.mk hPVi
  have H_hPV1 := Box.mk hPV1
  have H_c10 := Box.mk c10
  clear hPV hPVl hPVi hPV1 c10
  have hN16 := newPr w16 w16.heap.size rfl
  go_upto_region 10 with (refine wpList_store_blk rfl 41 _ _ rfl w16.heap.size (by rfl) 41 _ PV (by rfl) hN16 (by rw [H_hPVl.out]; rfl) H_hPVi.out H_hPV1.out ?_; intro w17 hP he17; have H17 := Box.mk he17; clear he17)
  have hc17 : Below w16.heap.size w16 w17 := H17.out ▸ below_setCells (Nat.le_refl _) _ _ _ ((Below.refl _ _).alloc (Nat.le_refl _) _)
  have hb17 : Below w.heap.size w w17 := bchain (by repeat' (first | with_reducible exact hb16 | with_reducible refine Below.drew ?_ | with_reducible refine below_drewN ?_ _ | with_reducible refine Below.alloc ?_ (by have := hb16.size; first | (simp; done) | (simp; omega) | omega) _ | with_reducible refine Below.setCell ?_ (by first | (simp; done) | (simp; omega) | omega) _)) hc17
  have hst17 : Below w16.heap.size w16 w17 := bchain (by repeat' (first | with_reducible exact Below.refl _ _ | with_reducible refine Below.drew ?_ | with_reducible refine below_drewN ?_ _ | with_reducible refine Below.alloc ?_ (by first | (simp; done) | (simp; omega) | omega) _ | with_reducible refine Below.setCell ?_ (by first | (simp; done) | (simp; omega) | omega) _)) hc17
  replace hX := hX.later hst17
  replace hY := hY.later hst17
  replace hA := hA.later hst17
  replace hB := hB.later hst17
  replace hC := hC.later hst17
  replace hD := hD.later hst17
  replace hE := hE.later hst17
  replace hF := hF.later hst17
  replace hL := hL.later hst17
  replace hp := hp.later hst17
  clear hst17
  clear hc17 hN16 H17
  simp only [List.append]
  have heqz' := H_heqz.out
  have heqa' := H_heqa.out
  have heqd' := H_heqd.out
  go_wp2_with (first | (refine wpList_load_blkG (by first | rfl | (simp [Region.wanted]; done)) 24 _ rfl w3.heap.size (by rfl) 24 us _ hA Tryd.underlying24 rfl H_husi.out ?_) | (refine wpList_load_blkG (by first | rfl | (simp [Region.wanted]; done)) 24 _ rfl w5.heap.size (by rfl) 24 xa _ hB Tryd.underlying24 rfl H_hxai.out ?_) | (refine wpList_load_blkG (by first | rfl | (simp [Region.wanted]; done)) 24 _ rfl w7.heap.size (by rfl) 24 xa _ hC Tryd.underlying24 rfl H_hxai.out ?_) | (refine wpList_load_blkG (by first | rfl | (simp [Region.wanted]; done)) 24 _ rfl w11.heap.size (by rfl) 24 xd _ hE Tryd.underlying24 rfl H_hxdi.out ?_) | (refine wpList_load_blkG (by first | rfl | (simp [Region.wanted]; done)) 24 _ rfl w13.heap.size (by rfl) 24 xd _ hF Tryd.underlying24 rfl H_hxdi.out ?_) | (refine wpList_load_blkG (by first | rfl | (simp [Region.wanted]; done)) 24 _ rfl (w.heap.size + 1) (by rfl) 24 vs _ hY Tryd.underlying24 rfl H_hvsi.out ?_) | (refine wpList_build_idG (by first | rfl | (simp [Region.wanted]; done)) _ rfl vs (by rfl) H_hvsl.out ?_))
  clear heqz' heqa' heqd'
  with_reducible refine (H_c9.out _ _ _ _ _ (hL.later ((Below.refl _ _).alloc (Nat.le_refl _) _)) (one_ids y0_id H_hvs.out (Blk.newA w17 _ _ _ vs rfl rfl))).mono ?_
  rintro e w18 ⟨rfl, hc18⟩
  have hb18 : Below w.heap.size w w18 := bchain (by repeat' (first | with_reducible exact hb17 | with_reducible refine Below.drew ?_ | with_reducible refine below_drewN ?_ _ | with_reducible refine Below.alloc ?_ (by have := hb17.size; first | (simp; done) | (simp; omega) | omega) _ | with_reducible refine Below.setCell ?_ (by first | (simp; done) | (simp; omega) | omega) _)) hc18
  have hst18 : Below w17.heap.size w17 w18 := bchain (by repeat' (first | with_reducible exact Below.refl _ _ | with_reducible refine Below.drew ?_ | with_reducible refine below_drewN ?_ _ | with_reducible refine Below.alloc ?_ (by first | (simp; done) | (simp; omega) | omega) _ | with_reducible refine Below.setCell ?_ (by first | (simp; done) | (simp; omega) | omega) _)) hc18
  replace hX := hX.later hst18
  replace hY := hY.later hst18
  replace hA := hA.later hst18
  replace hB := hB.later hst18
  replace hC := hC.later hst18
  replace hD := hD.later hst18
  replace hE := hE.later hst18
  replace hF := hF.later hst18
  replace hL := hL.later hst18
  replace hp := hp.later hst18
  replace hP := hP.later hst18
  clear hst18
  clear hc18
  have hl32 := H_husl.out
  go_wp2_with (first | (refine wpList_load_blkG (by first | rfl | (simp [Region.wanted]; done)) 41 _ rfl w16.heap.size (by rfl) 41 PV _ hP Tryd.underlying41 rfl H_hPVi.out ?_) | (refine wpList_load_blkG (by first | rfl | (simp [Region.wanted]; done)) 24 _ rfl w9.heap.size (by rfl) 24 xb _ (hD.alloc _) Tryd.underlying24 rfl H_hxbi.out ?_) | (refine wpList_build_idG (by first | rfl | (simp [Region.wanted]; done)) _ rfl xb (by rfl) H_hxbl.out ?_) | (refine wpList_load_blkG (by first | rfl | (simp [Region.wanted]; done)) 24 _ rfl w.heap.size (by rfl) 24 us _ ((hX.alloc _).alloc _) Tryd.underlying24 rfl H_husi.out ?_))
  rw [fold_proof _ _ us H_husl.out]
  clear hl32
  with_reducible refine (H_c10.out _ _ _ (hp.later (((Below.refl _ _).alloc (Nat.le_refl _) _).alloc (by simp) _)) ⟨(Blk.cellsRow (Blk.newA w18 _ _ _ [.int .u8 1] rfl rfl)).alloc _, one_ids H_hrb.out H_hxb.out (Blk.newA (w18.alloc (.cells #[.int .u8 1] 5)) (w18.heap.size + 1) _ _ xb (by simp) rfl)⟩).mono ?_
  rintro e w19 ⟨rfl, hc19⟩
  have hb19 : Below w.heap.size w w19 := bchain (by repeat' (first | with_reducible exact hb18 | with_reducible refine Below.drew ?_ | with_reducible refine below_drewN ?_ _ | with_reducible refine Below.alloc ?_ (by have := hb18.size; first | (simp; done) | (simp; omega) | omega) _ | with_reducible refine Below.setCell ?_ (by first | (simp; done) | (simp; omega) | omega) _)) hc19
  have hst19 : Below w18.heap.size w18 w19 := bchain (by repeat' (first | with_reducible exact Below.refl _ _ | with_reducible refine Below.drew ?_ | with_reducible refine below_drewN ?_ _ | with_reducible refine Below.alloc ?_ (by first | (simp; done) | (simp; omega) | omega) _ | with_reducible refine Below.setCell ?_ (by first | (simp; done) | (simp; omega) | omega) _)) hc19
  replace hX := hX.later hst19
  replace hY := hY.later hst19
  replace hA := hA.later hst19
  replace hB := hB.later hst19
  replace hC := hC.later hst19
  replace hD := hD.later hst19
  replace hE := hE.later hst19
  replace hF := hF.later hst19
  replace hL := hL.later hst19
  replace hp := hp.later hst19
  replace hP := hP.later hst19
  clear hst19
  clear hc19
  go_wp2_with fail
  go_ret
  exact ⟨rfl, hb19⟩

end Go.Proofs.YtfabcdpmnbeflaaDoor

/- The split of increasing ids: the bits before it are the same, the split bit tells zeros and ones. -/
namespace Go.Proofs.YtfabcdpmnbeflaaDoor
open Go.RowKit
set_option linter.unusedVariables false

theorem pc_append (a b : List (List Int)) (k : Nat) : pc (a ++ b) k = if k < a.length then pc a k else pc b (k - a.length) := by
  unfold pc
  by_cases h : k < a.length
  · rw [if_pos h, List.getElem?_append_left h]
  · rw [if_neg h, List.getElem?_append_right (by omega)]
theorem split_bits {l : List (List Int)} (h : IncL l) (h2 : 2 ≤ l.length) {i k : Nat} (hi : i < splitN l) (hk : k < l.length) : bitB (pc l 0) i = bitB (pc l k) i :=
  (h.split h2).1.2.1 i hi _ (pc_mem (by omega)) _ (pc_mem hk)
theorem split_tells {l z o : List (List Int)} {N : Nat} (hF : CutF l z o N) {k : Nat} (hk : k < l.length) : bitB (pc l k) N = decide (z.length ≤ k) := by
  have hcat : z ++ o = l := by rw [← hF.hz, ← hF.ho]; exact hF.cat
  rw [← hcat, pc_append]
  by_cases h : k < z.length
  · rw [if_pos h]
    have h1 : pc z k ∈ zerosL l N := by rw [hF.hz]; exact pc_mem h
    have h3 := (List.mem_filter.1 h1).2
    have h4 : bitB (pc z k) N = false := by simpa using h3
    rw [h4]
    have : decide (z.length ≤ k) = false := by simp; omega
    rw [this]
  · rw [if_neg h]
    have hs := hF.sum
    have h1 : pc o (k - z.length) ∈ onesL l N := by rw [hF.ho]; exact pc_mem (by omega)
    have h3 := (List.mem_filter.1 h1).2
    have h4 : bitB (pc o (k - z.length)) N = true := h3
    rw [h4]
    have : decide (z.length ≤ k) = true := by simp; omega
    rw [this]

end Go.Proofs.YtfabcdpmnbeflaaDoor

/- The law TrieSplits. -/
namespace Go.Proofs.YtfabcdpmnbeflaaDoor
set_option linter.unusedSimpArgs false
set_option linter.unusedVariables false
set_option linter.unnecessarySimpa false
open Go.RowKit
set_option maxRecDepth 100000

section
variable {P : Program}
theorem wpList_append_xG {ops : Array Oper} {rest : List Oper} {o : Oper} {a : Act} {w : World} {Q : Exit → Act → World → Prop} (hw : Region.wanted o (yielded ops a.tmps) = true) (s x : Operand) (t : TypeId)
    (ho : o.op = .call { callee := .builtin .append, args := #[s, x], argTypes := #[t, t] })
    (base : Nat) (e : TypeId) (i : TypeInfo) (z : Value) (size bytes : Nat) (ht : P.underlying t = some (.slice e)) (hi : P.info? e = some i) (hz : i.zero = some z)
    (hsize : i.size = size) (hby : i.bytes = bytes) (hzs : z.cells.size = size) (hsz : 0 < size)
    (v : Value) (n : Nat) (xs : List Value) (hs : a.eval s = v) (hown : OwnX w base e size v n xs)
    (bo : Option Addr) (m c : Nat) (news : List Value) (hx : a.eval x = .slice bo m c) (hl : news.length = m * size) (hnews : CellsAt w bo news) (h1 : ∀ u ∈ news, u.oneCell' = true)
    (h63 : n + m ≤ maxLen) (hbytes : (n + m) * bytes ≤ 140737488355328) (hbase : base ≤ w.heap.size)
    (h : ∀ a' c' w', OwnX w' base e size (.slice a' (n + m) c') (n + m) (xs ++ news) → w.grownBy w' v.ownBlock → (∀ k, (Value.slice a' (n + m) c').ownBlock = some k → v.ownBlock = some k ∨ k = w.heap.size) → wpList P ops Q rest (a.put o.dst (.slice a' (n + m) c')) w') : wpList P ops Q (o :: rest) a w := by
  refine wpList_want hw fun K hK => ?_
  obtain ⟨a', c', w', hr, h2, h3, h4⟩ := run_append_x (P := P) w base t o.type e i z size bytes ht hi hz hsize hby hzs hsz v n xs hown bo m c news hl hnews h1 h63 hbytes hbase
  unfold Oper.wp
  simp [execOp, ho, resolve, invoke, builtin, hs, hx, hr, Result.andThen]
  exact hK _ _ (h a' c' w' h2 h3 h4)
end
theorem wf_nat {n : Nat} (h : n < 1000000) : (Lit.int .i64 (n : Int)).wf = true := (Lit.wf_int_iff _ _).2 ⟨by show (-9223372036854775808 : Int) ≤ _; omega, by show _ ≤ (9223372036854775807 : Int); omega⟩
theorem bitZ_nat {x : List Int} {i : Nat} (h : i < 256) : bitZ x (i : Int) = (bitB x i, 0) := by
  unfold bitZ; rw [if_neg (by omega)]; simp
theorem splits_big (l : List (List Int)) (a : Option Addr) (n c : Nat) (w : World) (h16 : (16 : Int) < n) (hT : TabK w) :
    Calls Tryd.prog 5 #[.slice a n c] w fun e w' =>
      e = .returned (.bool true) ∧ Below w.heap.size w w' := by
  have hal := fun W (h : TabK W) => alive_any W h
  have H_hal := Box.mk hal
  have H_hT := Box.mk hT
  clear hal hT
  go_enter Tryd.func5, Tryd.ntmps5
  have hb0 := Below.refl w.heap.size w
  go_wp2_with fail
  with_reducible refine (H_hal.out _ H_hT.out).mono ?_
  rintro e w1 ⟨rfl, hc1⟩
  have hb1 : Below w.heap.size w w1 := bchain (by repeat' (first | with_reducible exact hb0 | with_reducible refine Below.drew ?_ | with_reducible refine below_drewN ?_ _ | with_reducible refine Below.alloc ?_ (by have := hb0.size; first | (simp; done) | (simp; omega) | omega) _ | with_reducible refine Below.setCell ?_ (by first | (simp; done) | (simp; omega) | omega) _)) hc1
  clear hc1 hb0
  go_wp2_with fail
  go_ret
  exact ⟨rfl, by repeat' (first | with_reducible exact hb1 | with_reducible refine Below.drew ?_ | with_reducible refine below_drewN ?_ _ | with_reducible refine Below.alloc ?_ (by have := hb1.size; first | (simp; done) | (simp; omega) | omega) _ | with_reducible refine Below.setCell ?_ (by first | (simp; done) | (simp; omega) | omega) _)⟩
theorem splits_bad (l : List (List Int)) (a : Option Addr) (n c : Nat) (w : World) (h : IdsIn w a c l) (hn : n = l.length) (h16 : n ≤ 16) (hz : chkZ l ≠ 0) (hT : TabK w) :
    Calls Tryd.prog 5 #[.slice a n c] w fun e w' =>
      e = .returned (.bool true) ∧ Below w.heap.size w w' := by
  have hck := fun W (hI : IdsIn W a c l) => rcheck_any l a n c W hI hn (by unfold maxLen; omega)
  obtain ⟨er, her⟩ : ∃ er, chkZ l = er := ⟨_, rfl⟩
  rw [her] at hz
  simp only [her] at hck
  have hzb : (er == 0) = false := by simpa using hz
  have hzn : (er != 0) = true := by simpa using hz
  have h16I : (n : Int) ≤ 16 := by omega
  have H_hck := Box.mk hck
  have H_hn := Box.mk hn
  have H_her := Box.mk her
  have H_h := Box.mk h
  have H_hz := Box.mk hz
  clear hck hn her h hz
  have hal := fun W (h : TabK W) => alive_any W h
  have H_hal := Box.mk hal
  have H_hT := Box.mk hT
  clear hal hT
  go_enter Tryd.func5, Tryd.ntmps5
  have hb0 := Below.refl w.heap.size w
  go_wp2_with fail
  with_reducible refine (H_hal.out _ H_hT.out).mono ?_
  rintro e w1 ⟨rfl, hc1⟩
  have hb1 : Below w.heap.size w w1 := bchain (by repeat' (first | with_reducible exact hb0 | with_reducible refine Below.drew ?_ | with_reducible refine below_drewN ?_ _ | with_reducible refine Below.alloc ?_ (by have := hb0.size; first | (simp; done) | (simp; omega) | omega) _ | with_reducible refine Below.setCell ?_ (by first | (simp; done) | (simp; omega) | omega) _)) hc1
  clear hc1 hb0
  go_wp2_with fail
  with_reducible refine (H_hck.out _ (H_h.out.later hb1)).mono ?_
  rintro e w2 ⟨rfl, hc2⟩
  have hb2 : Below w.heap.size w w2 := bchain (by repeat' (first | with_reducible exact hb1 | with_reducible refine Below.drew ?_ | with_reducible refine below_drewN ?_ _ | with_reducible refine Below.alloc ?_ (by have := hb1.size; first | (simp; done) | (simp; omega) | omega) _ | with_reducible refine Below.setCell ?_ (by first | (simp; done) | (simp; omega) | omega) _)) hc2
  clear hc2 hb1
  go_wp2_with fail
  go_ret
  exact ⟨rfl, by repeat' (first | with_reducible exact hb2 | with_reducible refine Below.drew ?_ | with_reducible refine below_drewN ?_ _ | with_reducible refine Below.alloc ?_ (by have := hb2.size; first | (simp; done) | (simp; omega) | omega) _ | with_reducible refine Below.setCell ?_ (by first | (simp; done) | (simp; omega) | omega) _)⟩
theorem splits_few (l : List (List Int)) (a : Option Addr) (n c : Nat) (w : World) (h : IdsIn w a c l) (hn : n = l.length) (h16 : n < 2) (hinc : IncL l) (hT : TabK w) :
    Calls Tryd.prog 5 #[.slice a n c] w fun e w' =>
      e = .returned (.bool true) ∧ Below w.heap.size w w' := by
  have hck := fun W (hI : IdsIn W a c l) => rcheck_any l a n c W hI hn (by unfold maxLen; omega)
  have hsp := fun W (hI : IdsIn W a c l) => Split_any l a n c W hI hn (by unfold maxLen; omega)
  have hro := fun W (hI : IdsIn W a c l) hT => Root_any l a n c W hI hn (by unfold maxLen; omega) hT
  rw [chk_of_inc hinc (by omega)] at hck
  rw [rootZ_of hinc (by omega)] at hro
  rw [show splitZ l = ⟨0, [], [], 6⟩ from by unfold splitZ; rw [if_neg (by rw [chk_of_inc hinc (by omega)]; simp), if_pos (by omega)]] at hsp
  simp only [SplitR] at hsp
  obtain ⟨xr, hxr⟩ : ∃ v, v = idC (rootP l) := ⟨_, rfl⟩
  have hxrl := idC_len (rootP_id l)
  have hxri := idC_info (rootP_id l)
  have hxro := idC_one (rootP l)
  rw [← hxr] at hxrl hxri hxro
  have hxrr : xr.length = (List.replicate 32 (Value.int .u8 0)).length := by rw [hxrl]; rfl
  simp only [← hxr] at hro
  have h16I : (n : Int) < 2 := by omega
  have H_hck := Box.mk hck
  have H_hn := Box.mk hn
  have H_h := Box.mk h
  have H_hinc := Box.mk hinc
  have H_hsp := Box.mk hsp
  have H_hro := Box.mk hro
  have H_hxr := Box.mk hxr
  have H_hxrl := Box.mk hxrl
  have H_hxri := Box.mk hxri
  have H_hxro := Box.mk hxro
  have H_hxrr := Box.mk hxrr
  clear hck hn h hinc hsp hro hxr hxrl hxri hxro hxrr
  have hal := fun W (h : TabK W) => alive_any W h
  have H_hal := Box.mk hal
  have H_hT := Box.mk hT
  clear hal hT
  go_enter Tryd.func5, Tryd.ntmps5
  have hb0 := Below.refl w.heap.size w
  go_wp2_with fail
  with_reducible refine (H_hal.out _ H_hT.out).mono ?_
  rintro e w1 ⟨rfl, hc1⟩
  have hb1 : Below w.heap.size w w1 := bchain (by repeat' (first | with_reducible exact hb0 | with_reducible refine Below.drew ?_ | with_reducible refine below_drewN ?_ _ | with_reducible refine Below.alloc ?_ (by have := hb0.size; first | (simp; done) | (simp; omega) | omega) _ | with_reducible refine Below.setCell ?_ (by first | (simp; done) | (simp; omega) | omega) _)) hc1
  clear hc1 hb0
  go_wp2_with fail
  with_reducible refine (H_hck.out _ (H_h.out.later hb1)).mono ?_
  rintro e w2 ⟨rfl, hc2⟩
  have hb2 : Below w.heap.size w w2 := bchain (by repeat' (first | with_reducible exact hb1 | with_reducible refine Below.drew ?_ | with_reducible refine below_drewN ?_ _ | with_reducible refine Below.alloc ?_ (by have := hb1.size; first | (simp; done) | (simp; omega) | omega) _ | with_reducible refine Below.setCell ?_ (by first | (simp; done) | (simp; omega) | omega) _)) hc2
  clear hc2 hb1
  go_wp2_with fail
  with_reducible refine (H_hsp.out _ (H_h.out.later hb2)).mono ?_
  rintro e w3 ⟨⟨a1, c1, a2, c2, rfl, -, -⟩, hc3⟩
  have hb3 : Below w.heap.size w w3 := bchain (by repeat' (first | with_reducible exact hb2 | with_reducible refine Below.drew ?_ | with_reducible refine below_drewN ?_ _ | with_reducible refine Below.alloc ?_ (by have := hb2.size; first | (simp; done) | (simp; omega) | omega) _ | with_reducible refine Below.setCell ?_ (by first | (simp; done) | (simp; omega) | omega) _)) hc3
  clear hc3
  go_wp2_with fail
  with_reducible refine (H_hro.out _ (H_h.out.later hb3) (H_hT.out.later hb3)).mono ?_
  rintro e w4 ⟨rfl, hc4⟩
  have hb4 : Below w.heap.size w w4 := bchain (by repeat' (first | with_reducible exact hb3 | with_reducible refine Below.drew ?_ | with_reducible refine below_drewN ?_ _ | with_reducible refine Below.alloc ?_ (by have := hb3.size; first | (simp; done) | (simp; omega) | omega) _ | with_reducible refine Below.setCell ?_ (by first | (simp; done) | (simp; omega) | omega) _)) hc4
  clear hc4
  have hN4 := Blk.newA w4 w4.heap.size _ 24 (List.replicate 32 (Value.int .u8 0)) rfl rfl
  go_upto_region 6 with (refine wpList_store_blk rfl 24 _ _ rfl w4.heap.size (by rfl) 24 _ xr (by rfl) hN4 H_hxrr.out H_hxri.out H_hxro.out ?_; intro w5 hR he5; have H5 := Box.mk he5; clear he5)
  have hc5 : Below w4.heap.size w4 w5 := H5.out ▸ below_setCells (Nat.le_refl _) _ _ _ ((Below.refl _ _).alloc (Nat.le_refl _) _)
  have hb5 : Below w.heap.size w w5 := bchain (by repeat' (first | with_reducible exact hb4 | with_reducible refine Below.drew ?_ | with_reducible refine below_drewN ?_ _ | with_reducible refine Below.alloc ?_ (by have := hb4.size; first | (simp; done) | (simp; omega) | omega) _ | with_reducible refine Below.setCell ?_ (by first | (simp; done) | (simp; omega) | omega) _)) hc5
  clear hc5 hN4 H5
  go_wp2_with fail
  go_ret
  exact ⟨rfl, by repeat' (first | with_reducible exact hb5 | with_reducible refine Below.drew ?_ | with_reducible refine below_drewN ?_ _ | with_reducible refine Below.alloc ?_ (by have := hb5.size; first | (simp; done) | (simp; omega) | omega) _ | with_reducible refine Below.setCell ?_ (by first | (simp; done) | (simp; omega) | omega) _)⟩
set_option maxHeartbeats 8000000 in
theorem splits_main (l z o : List (List Int)) (a : Option Addr) (n c N nz no : Nat) (w : World) (h : IdsIn w a c l) (hn : n = l.length) (h16 : n ≤ 16) (h2 : 2 ≤ n) (hinc : IncL l) (hF : CutF l z o N) (hsN : splitN l = N) (hT : TabK w) (hnz : z.length = nz) (hno : o.length = no) :
    Calls Tryd.prog 5 #[.slice a n c] w fun e w' =>
      e = .returned (.bool true) ∧ Below w.heap.size w w' := by
  obtain ⟨j0, jif, jz0, jz1, jz2⟩ := info_parts info_id32
  have hck := fun W (hI : IdsIn W a c l) => rcheck_any l a n c W hI hn (by unfold maxLen; omega)
  have hsp := fun W (hI : IdsIn W a c l) => Split_any l a n c W hI hn (by unfold maxLen; omega)
  have hro := fun W (hI : IdsIn W a c l) hT => Root_any l a n c W hI hn (by unfold maxLen; omega) hT
  have hsum := hF.sum
  have hrz := fun W a c (hI : IdsIn W a c z) hT => Root_any z a z.length c W hI rfl (by unfold maxLen; omega) hT
  have hr1 := fun W a c (hI : IdsIn W a c o) hT => Root_any o a o.length c W hI rfl (by unfold maxLen; omega) hT
  have hnd := fun W hT => lnode_any N (rootP z) (rootP o) W (rootP_id z) (rootP_id o) hF.hN hT
  rw [← hF.root] at hnd
  rw [chk_of_inc hinc (by omega)] at hck
  rw [rootZ_of hinc (by omega)] at hro
  rw [rootZ_of hF.iz (by omega), hnz] at hrz
  rw [rootZ_of hF.io (by omega), hno] at hr1
  rw [show splitZ l = ⟨N, z, o, 0⟩ from by unfold splitZ; rw [if_neg (by rw [chk_of_inc hinc (by omega)]; simp), if_neg (by omega), hsN, hF.hz, hF.ho]] at hsp
  simp only [SplitR, hnz, hno] at hsp
  obtain ⟨xr, hxr⟩ : ∃ v, v = idC (rootP l) := ⟨_, rfl⟩
  have hxrl := idC_len (rootP_id l)
  have hxri := idC_info (rootP_id l)
  have hxro := idC_one (rootP l)
  rw [← hxr] at hxrl hxri hxro
  have hxrr : xr.length = (List.replicate 32 (Value.int .u8 0)).length := by rw [hxrl]; rfl
  obtain ⟨xz, hxz⟩ : ∃ v, v = idC (rootP z) := ⟨_, rfl⟩
  have hxzl := idC_len (rootP_id z)
  have hxzi := idC_info (rootP_id z)
  have hxzo := idC_one (rootP z)
  rw [← hxz] at hxzl hxzi hxzo
  have hxzr : xz.length = (List.replicate 32 (Value.int .u8 0)).length := by rw [hxzl]; rfl
  obtain ⟨xo, hxo⟩ : ∃ v, v = idC (rootP o) := ⟨_, rfl⟩
  have hxol := idC_len (rootP_id o)
  have hxoi := idC_info (rootP_id o)
  have hxoo := idC_one (rootP o)
  rw [← hxo] at hxol hxoi hxoo
  have hxor : xo.length = (List.replicate 32 (Value.int .u8 0)).length := by rw [hxol]; rfl
  simp only [← hxr] at hro
  simp only [← hxz] at hrz
  simp only [← hxo] at hr1
  simp only [GivesId, ← hxr, ← hxz, ← hxo] at hnd
  have heq : ∀ w, (Op.equalIn 10000 24 (.agg xr.toArray) (.agg xr.toArray)).run Tryd.prog w = .ok true w := fun w => by
    rw [hxr]; have := eq_ids _ _ (rootP_id l).len (rootP_id l).len w; rw [beq_self_eq_true] at this; exact this
  have hsm := fun W p q (h1 : IdsIn W p q (z ++ o)) (h2 : IdsIn W a c l) => sameIds_any (z ++ o) l p a (nz + no) n q c W h1 h2 (by rw [List.length_append, hnz, hno]) hn (by unfold maxLen; omega) (by unfold maxLen; omega)
  have hcat : z ++ o = l := by rw [← hF.hz, ← hF.ho]; exact hF.cat
  rw [show decide (z ++ o = l) = true by simpa using hcat] at hsm
  have hz32 := idsC_len hF.iz.ids
  have ho32 := idsC_len hF.io.ids
  have hzoid : ∀ q ∈ z ++ o, IdIn q := fun q hq => by rw [hcat] at hq; exact hinc.ids q hq
  have hN256 := hF.hN
  have hzp := hF.zl
  have hop := hF.ol
  rw [hnz, hno] at hsum
  rw [hnz] at hzp hz32
  rw [hno] at hop ho32
  have hzpI : (0 : Int) < nz := by omega
  have hopI : (0 : Int) < no := by omega
  have hnze : ((nz : Int) == 0) = false := by simp; omega
  have hnoe : ((no : Int) == 0) = false := by simp; omega
  have hN0 : (0 : Int) ≤ N := by omega
  have hNI : (N : Int) ≤ 255 := by omega
  have hNw : IntKind.u8.wrap (N : Int) = (N : Int) := by rw [IntKind.wrap_u8]; omega
  have hz16 : nz ≤ 16 := by omega
  have ho16 : no ≤ 16 := by omega
  have h16I : (n : Int) ≤ 16 := by omega
  have h2I : (2 : Int) ≤ n := by omega
  have hb1 := fun (i k : Nat) (hi : i < N) (hk : k < l.length) => split_bits hinc (show 2 ≤ l.length by omega) (show i < splitN l by rw [hsN]; exact hi) hk
  have hb2 := fun (k : Nat) (hk : k < l.length) => split_tells hF hk
  rw [hnz] at hb2
  obtain ⟨b, of, rfl, hbl, hr⟩ := h.row (by omega)
  have hids := fun (k : Nat) (hk : k < l.length) => hinc.at hk
  have H_hck := Box.mk hck
  have H_hn := Box.mk hn
  have H_h := Box.mk h
  have H_hinc := Box.mk hinc
  have H_hsp := Box.mk hsp
  have H_hro := Box.mk hro
  have H_hrz := Box.mk hrz
  have H_hr1 := Box.mk hr1
  have H_hnd := Box.mk hnd
  have H_hxr := Box.mk hxr
  have H_hxrl := Box.mk hxrl
  have H_hxri := Box.mk hxri
  have H_hxro := Box.mk hxro
  have H_hxrr := Box.mk hxrr
  have H_hxz := Box.mk hxz
  have H_hxzl := Box.mk hxzl
  have H_hxzi := Box.mk hxzi
  have H_hxzo := Box.mk hxzo
  have H_hxzr := Box.mk hxzr
  have H_hxo := Box.mk hxo
  have H_hxol := Box.mk hxol
  have H_hxoi := Box.mk hxoi
  have H_hxoo := Box.mk hxoo
  have H_hxor := Box.mk hxor
  have H_heq := Box.mk heq
  have H_hsm := Box.mk hsm
  have H_hz32 := Box.mk hz32
  have H_ho32 := Box.mk ho32
  have H_hzoid := Box.mk hzoid
  have H_hcat := Box.mk hcat
  have H_hb1 := Box.mk hb1
  have H_hb2 := Box.mk hb2
  have H_hF := Box.mk hF
  have H_hsN := Box.mk hsN
  have H_jif := Box.mk jif
  have H_jz0 := Box.mk jz0
  have H_jz1 := Box.mk jz1
  have H_jz2 := Box.mk jz2
  have H_hr := Box.mk hr
  have H_hids := Box.mk hids
  have H_hNw := Box.mk hNw
  have H_hsum := Box.mk hsum
  have H_hnz := Box.mk hnz
  have H_hno := Box.mk hno
  clear hck hn h hinc hsp hro hrz hr1 hnd hxr hxrl hxri hxro hxrr hxz hxzl hxzi hxzo hxzr hxo hxol hxoi hxoo hxor heq hsm hz32 ho32 hzoid hcat hb1 hb2 hF hsN jif jz0 jz1 jz2 hr hids hNw hsum hnz hno
  have hal := fun W (h : TabK W) => alive_any W h
  have H_hal := Box.mk hal
  have H_hT := Box.mk hT
  clear hal hT
  go_enter Tryd.func5, Tryd.ntmps5
  have hb0 := Below.refl w.heap.size w
  go_wp2_with fail
  with_reducible refine (H_hal.out _ H_hT.out).mono ?_
  rintro e w1 ⟨rfl, hc1⟩
  have hb1 : Below w.heap.size w w1 := bchain (by repeat' (first | with_reducible exact hb0 | with_reducible refine Below.drew ?_ | with_reducible refine below_drewN ?_ _ | with_reducible refine Below.alloc ?_ (by have := hb0.size; first | (simp; done) | (simp; omega) | omega) _ | with_reducible refine Below.setCell ?_ (by first | (simp; done) | (simp; omega) | omega) _)) hc1
  clear hc1 hb0
  go_wp2_with fail
  with_reducible refine (H_hck.out _ (H_h.out.later hb1)).mono ?_
  rintro e w2 ⟨rfl, hc2⟩
  have hb2 : Below w.heap.size w w2 := bchain (by repeat' (first | with_reducible exact hb1 | with_reducible refine Below.drew ?_ | with_reducible refine below_drewN ?_ _ | with_reducible refine Below.alloc ?_ (by have := hb1.size; first | (simp; done) | (simp; omega) | omega) _ | with_reducible refine Below.setCell ?_ (by first | (simp; done) | (simp; omega) | omega) _)) hc2
  clear hc2 hb1
  go_wp2_with fail
  with_reducible refine (H_hsp.out _ (H_h.out.later hb2)).mono ?_
  rintro e w3 ⟨⟨a1, c1, a2, c2, rfl, hZ, hO⟩, hc3⟩
  have hb3 : Below w.heap.size w w3 := bchain (by repeat' (first | with_reducible exact hb2 | with_reducible refine Below.drew ?_ | with_reducible refine below_drewN ?_ _ | with_reducible refine Below.alloc ?_ (by have := hb2.size; first | (simp; done) | (simp; omega) | omega) _ | with_reducible refine Below.setCell ?_ (by first | (simp; done) | (simp; omega) | omega) _)) hc3
  clear hc3
  go_wp2_with fail
  with_reducible refine (H_hro.out _ (H_h.out.later hb3) (H_hT.out.later hb3)).mono ?_
  rintro e w4 ⟨rfl, hc4⟩
  have hb4 : Below w.heap.size w w4 := bchain (by repeat' (first | with_reducible exact hb3 | with_reducible refine Below.drew ?_ | with_reducible refine below_drewN ?_ _ | with_reducible refine Below.alloc ?_ (by have := hb3.size; first | (simp; done) | (simp; omega) | omega) _ | with_reducible refine Below.setCell ?_ (by first | (simp; done) | (simp; omega) | omega) _)) hc4
  have hst4 : Below w3.heap.size w3 w4 := bchain (by repeat' (first | with_reducible exact Below.refl _ _ | with_reducible refine Below.drew ?_ | with_reducible refine below_drewN ?_ _ | with_reducible refine Below.alloc ?_ (by first | (simp; done) | (simp; omega) | omega) _ | with_reducible refine Below.setCell ?_ (by first | (simp; done) | (simp; omega) | omega) _)) hc4
  replace hZ := hZ.later hst4
  replace hO := hO.later hst4
  clear hst4
  clear hc4
  have hN4 := Blk.newA w4 w4.heap.size _ 24 (List.replicate 32 (Value.int .u8 0)) rfl rfl
  go_upto_region 6 with (refine wpList_store_blk rfl 24 _ _ rfl w4.heap.size (by rfl) 24 _ xr (by rfl) hN4 H_hxrr.out H_hxri.out H_hxro.out ?_; intro w5 hR he5; have H5 := Box.mk he5; clear he5)
  have hc5 : Below w4.heap.size w4 w5 := H5.out ▸ below_setCells (Nat.le_refl _) _ _ _ ((Below.refl _ _).alloc (Nat.le_refl _) _)
  have hb5 : Below w.heap.size w w5 := bchain (by repeat' (first | with_reducible exact hb4 | with_reducible refine Below.drew ?_ | with_reducible refine below_drewN ?_ _ | with_reducible refine Below.alloc ?_ (by have := hb4.size; first | (simp; done) | (simp; omega) | omega) _ | with_reducible refine Below.setCell ?_ (by first | (simp; done) | (simp; omega) | omega) _)) hc5
  have hst5 : Below w4.heap.size w4 w5 := bchain (by repeat' (first | with_reducible exact Below.refl _ _ | with_reducible refine Below.drew ?_ | with_reducible refine below_drewN ?_ _ | with_reducible refine Below.alloc ?_ (by first | (simp; done) | (simp; omega) | omega) _ | with_reducible refine Below.setCell ?_ (by first | (simp; done) | (simp; omega) | omega) _)) hc5
  replace hZ := hZ.later hst5
  replace hO := hO.later hst5
  clear hst5
  clear hc5 hN4 H5
  go_wp2_with (at_builtin; refine stop ?_)
  refine Stop.go ?_
  refine wpList_append_xG (by first | rfl | (simp [Region.wanted, yielded]; done) | (simp [Region.wanted, yielded]; omega)) _ _ 22 rfl w5.heap.size 24 j0 _ 32 32 Tryd.underlying22 H_jif.out H_jz0.out H_jz1.out H_jz2.out oneCell_idz (by decide) _ 0 [] rfl (OwnX.made _ [] _ _ 0 _ (Nat.le_refl _) (by simp [maxLen]) rfl) a1 nz c1 (idsC z) rfl H_hz32.out (hZ.cells.alloc _) (idsC_one _) (by unfold maxLen; omega) (by omega) (by simp) ?_
  intro a6 c6 w6 o6 hg6 _
  rw [Nat.zero_add, List.nil_append] at o6
  have hb56 : Below w5.heap.size w5 w6 := below_grownX ((Below.refl w5.heap.size w5).alloc (Nat.le_refl _) _) hg6 (by simp) (fun k hk => ((OwnX.made w5 [] _ 0 0 32 (Nat.le_refl _) (by simp [maxLen]) rfl).lt k hk).1)
  clear hg6
  go_wp2_with (at_builtin; refine stop ?_)
  refine Stop.go ?_
  refine wpList_append_xG (by first | rfl | (simp [Region.wanted, yielded]; done) | (simp [Region.wanted, yielded]; omega)) _ _ 22 rfl w5.heap.size 24 j0 _ 32 32 Tryd.underlying22 H_jif.out H_jz0.out H_jz1.out H_jz2.out oneCell_idz (by decide) (.slice a6 nz c6) nz _ rfl o6 a2 no c2 (idsC o) rfl H_ho32.out (hO.later hb56).cells (idsC_one _) (by unfold maxLen; omega) (by omega) hb56.size ?_
  intro a7 c7 w7 o7 hg7 _
  rw [← idsC_append] at o7
  have hc7 : Below w5.heap.size w5 w7 := below_grownX hb56 hg7 hb56.size (fun k hk => (o6.lt k hk).1)
  have hb7 := bchain hb5 hc7
  have hI7 : IdsIn w7 a7 c7 (z ++ o) := o7.idsIn (by rw [List.length_append, H_hnz.out, H_hno.out]) H_hzoid.out
  replace hZ := hZ.later hc7
  replace hO := hO.later hc7
  replace hR := hR.later hc7
  clear hg7 o6 o7 hb56 hc7
  go_wp2_with fail
  with_reducible refine (H_hsm.out _ _ _ hI7 (H_h.out.later hb7)).mono ?_
  rintro e w8 ⟨rfl, hc8⟩
  have hb8 : Below w.heap.size w w8 := bchain (by repeat' (first | with_reducible exact hb7 | with_reducible refine Below.drew ?_ | with_reducible refine below_drewN ?_ _ | with_reducible refine Below.alloc ?_ (by have := hb7.size; first | (simp; done) | (simp; omega) | omega) _ | with_reducible refine Below.setCell ?_ (by first | (simp; done) | (simp; omega) | omega) _)) hc8
  have hst8 : Below w7.heap.size w7 w8 := bchain (by repeat' (first | with_reducible exact Below.refl _ _ | with_reducible refine Below.drew ?_ | with_reducible refine below_drewN ?_ _ | with_reducible refine Below.alloc ?_ (by first | (simp; done) | (simp; omega) | omega) _ | with_reducible refine Below.setCell ?_ (by first | (simp; done) | (simp; omega) | omega) _)) hc8
  replace hZ := hZ.later hst8
  replace hO := hO.later hst8
  replace hR := hR.later hst8
  clear hst8
  clear hc8 hI7
  go_wp2_with fail
  go_loopw [10] (fun q wr => ∃ i : Nat, i ≤ N + 1 ∧ q = .int .i64 i ∧ Below w.heap.size w wr ∧ IdsIn wr a1 c1 z ∧ IdsIn wr a2 c2 o ∧ Blk wr w4.heap.size 24 xr) (fun q _ => N + 1 - (intOf q).toNat)
  case atStart => exact ⟨0, Nat.zero_le _, rfl, hb8, hZ, hO, hR⟩
  case round =>
    clear hZ hO hR hb8
    obtain ⟨i, hi, rfl, hbw, hZ, hO, hR⟩ := hrel
    by_cases hlt : i ≤ N
    · have hltI : (i : Int) ≤ (N : Int) := by omega
      have h0l : 0 < l.length := by have := H_hn.out; omega
      have h0I : (0 : Int) < (n : Int) := by omega
      have hcb := fun (k : Nat) (hk : k < l.length) W => Bit_any (pc l k) (i : Int) W (H_hids.out k hk) (wf_nat (by omega))
      simp only [bitZ_nat (show i < 256 by omega)] at hcb
      have hc0 := hcb 0 h0l
      have hr0 := rangeAt_later (H_hr.out 0 h0l) hbw
      rw [Nat.zero_mul, Nat.add_zero] at hr0
      have hx0 := H_hids.out 0 h0l
      obtain ⟨us, hus⟩ : ∃ v, v = idC (pc l 0) := ⟨_, rfl⟩
      have husl := idC_len hx0
      have husi := idC_info hx0
      have huso := idC_one (pc l 0)
      rw [← hus] at husl husi huso
      have husr : us.length = (List.replicate 32 (Value.int .u8 0)).length := by rw [husl]; rfl
      obtain ⟨y, hy⟩ : ∃ y, bitB (pc l 0) i = y := ⟨_, rfl⟩
      simp only [← hus, hy] at hc0 hr0
      have H_hcb := Box.mk hcb
      have H_hc0 := Box.mk hc0
      have H_hus := Box.mk hus
      have H_husl := Box.mk husl
      have H_husi := Box.mk husi
      have H_huso := Box.mk huso
      have H_husr := Box.mk husr
      have H_hy := Box.mk hy
      have H_hx0 := Box.mk hx0
      clear hcb hc0 hus husl husi huso husr hy hx0
      go_wp2_with (refine wpList_load_mid rfl 24 _ rfl b of (by rfl) us _ hr0 Tryd.underlying24 rfl H_husi.out ?_)
      with_reducible refine (H_hc0.out _).mono ?_
      rintro e w11 ⟨rfl, hc11⟩
      have hb11 : Below w.heap.size w w11 := bchain (by repeat' (first | with_reducible exact hbw | with_reducible refine Below.drew ?_ | with_reducible refine below_drewN ?_ _ | with_reducible refine Below.alloc ?_ (by have := hbw.size; first | (simp; done) | (simp; omega) | omega) _ | with_reducible refine Below.setCell ?_ (by first | (simp; done) | (simp; omega) | omega) _)) hc11
      have hst11 : Below wr.heap.size wr w11 := bchain (by repeat' (first | with_reducible exact Below.refl _ _ | with_reducible refine Below.drew ?_ | with_reducible refine below_drewN ?_ _ | with_reducible refine Below.alloc ?_ (by first | (simp; done) | (simp; omega) | omega) _ | with_reducible refine Below.setCell ?_ (by first | (simp; done) | (simp; omega) | omega) _)) hc11
      replace hZ := hZ.later hst11
      replace hO := hO.later hst11
      replace hR := hR.later hst11
      clear hst11
      clear hc11
      clear hr0
      go_wp2_with fail
      go_loopw [13] (fun q wq => ∃ k : Nat, k ≤ n ∧ q = .int .i64 k ∧ Below w.heap.size w wq ∧ IdsIn wq a1 c1 z ∧ IdsIn wq a2 c2 o ∧ Blk wq w4.heap.size 24 xr) (fun q _ => n - (intOf q).toNat)
      case atStart => exact ⟨0, Nat.zero_le _, rfl, hb11, hZ, hO, hR⟩
      case round =>
        clear hZ hO hR hb11
        obtain ⟨k, hk, rfl, hbq, hZ, hO, hR⟩ := hrel
        by_cases hkn : k < n
        · have hknI : (k : Int) < (n : Int) := by omega
          have hkl : k < l.length := by have := H_hn.out; omega
          have hck := H_hcb.out k hkl
          have hrk := rangeAt_later (H_hr.out k hkl) hbq
          have hxk := H_hids.out k hkl
          obtain ⟨vs, hvs⟩ : ∃ v, v = idC (pc l k) := ⟨_, rfl⟩
          have hvsl := idC_len hxk
          have hvsi := idC_info hxk
          have hvso := idC_one (pc l k)
          rw [← hvs] at hvsl hvsi hvso
          have hvsr : vs.length = (List.replicate 32 (Value.int .u8 0)).length := by rw [hvsl]; rfl
          obtain ⟨x, hx⟩ : ∃ x, bitB (pc l k) i = x := ⟨_, rfl⟩
          simp only [← hvs, hx] at hck hrk
          by_cases hiN : i < N
          · have hiNI : (i : Int) < (N : Int) := by omega
            have hxy : y = x := by rw [← hx, ← H_hy.out]; exact H_hb1.out i k hiN hkl
            subst hxy
            have hiNe : ((i : Int) == (N : Int)) = false := by simp; omega
            have H_hck := Box.mk hck
            have H_hvs := Box.mk hvs
            have H_hvsl := Box.mk hvsl
            have H_hvsi := Box.mk hvsi
            have H_hvso := Box.mk hvso
            have H_hvsr := Box.mk hvsr
            have H_hx := Box.mk hx
            have H_hxk := Box.mk hxk
            clear hck hvs hvsl hvsi hvso hvsr hx hxk
            go_wp2_with (refine wpList_load_mid rfl 24 _ rfl b (of + k * 32) (by rfl) vs _ hrk Tryd.underlying24 rfl H_hvsi.out ?_)
            with_reducible refine (H_hck.out _).mono ?_
            rintro e w21 ⟨rfl, hc21⟩
            have hb21 : Below w.heap.size w w21 := bchain (by repeat' (first | with_reducible exact hbq | with_reducible refine Below.drew ?_ | with_reducible refine below_drewN ?_ _ | with_reducible refine Below.alloc ?_ (by have := hbq.size; first | (simp; done) | (simp; omega) | omega) _ | with_reducible refine Below.setCell ?_ (by first | (simp; done) | (simp; omega) | omega) _)) hc21
            have hst21 : Below wr.heap.size wr w21 := bchain (by repeat' (first | with_reducible exact Below.refl _ _ | with_reducible refine Below.drew ?_ | with_reducible refine below_drewN ?_ _ | with_reducible refine Below.alloc ?_ (by first | (simp; done) | (simp; omega) | omega) _ | with_reducible refine Below.setCell ?_ (by first | (simp; done) | (simp; omega) | omega) _)) hc21
            replace hZ := hZ.later hst21
            replace hO := hO.later hst21
            replace hR := hR.later hst21
            clear hst21
            clear hc21
            clear hrk
            go_wp2_with fail
            go_roundw
            case rel => exact ⟨k + 1, by omega, by go_num, hb21, hZ, hO, hR⟩
            case measure => simp [intOf]; omega
          · have hxz : x = decide (nz ≤ k) := by rw [← hx, show i = N by omega]; exact H_hb2.out k hkl
            obtain rfl : N = i := by omega
            by_cases hzk : nz ≤ k
            · obtain rfl : x = true := by rw [hxz]; simpa using hzk
              have hzkI : (nz : Int) ≤ (k : Int) := by omega
              have H_hck := Box.mk hck
              have H_hvs := Box.mk hvs
              have H_hvsl := Box.mk hvsl
              have H_hvsi := Box.mk hvsi
              have H_hvso := Box.mk hvso
              have H_hvsr := Box.mk hvsr
              have H_hx := Box.mk hx
              have H_hxk := Box.mk hxk
              have H_hxz := Box.mk hxz
              clear hck hvs hvsl hvsi hvso hvsr hx hxk hxz
              go_wp2_with (refine wpList_load_mid rfl 24 _ rfl b (of + k * 32) (by rfl) vs _ hrk Tryd.underlying24 rfl H_hvsi.out ?_)
              with_reducible refine (H_hck.out _).mono ?_
              rintro e w21 ⟨rfl, hc21⟩
              have hb21 : Below w.heap.size w w21 := bchain (by repeat' (first | with_reducible exact hbq | with_reducible refine Below.drew ?_ | with_reducible refine below_drewN ?_ _ | with_reducible refine Below.alloc ?_ (by have := hbq.size; first | (simp; done) | (simp; omega) | omega) _ | with_reducible refine Below.setCell ?_ (by first | (simp; done) | (simp; omega) | omega) _)) hc21
              have hst21 : Below wr.heap.size wr w21 := bchain (by repeat' (first | with_reducible exact Below.refl _ _ | with_reducible refine Below.drew ?_ | with_reducible refine below_drewN ?_ _ | with_reducible refine Below.alloc ?_ (by first | (simp; done) | (simp; omega) | omega) _ | with_reducible refine Below.setCell ?_ (by first | (simp; done) | (simp; omega) | omega) _)) hc21
              replace hZ := hZ.later hst21
              replace hO := hO.later hst21
              replace hR := hR.later hst21
              clear hst21
              clear hc21
              clear hrk
              go_wp2_with fail
              go_roundw
              case rel => exact ⟨k + 1, by omega, by go_num, hb21, hZ, hO, hR⟩
              case measure => simp [intOf]; omega
            · obtain rfl : x = false := by rw [hxz]; simpa using hzk
              have hzkI : (k : Int) < (nz : Int) := by omega
              have H_hck := Box.mk hck
              have H_hvs := Box.mk hvs
              have H_hvsl := Box.mk hvsl
              have H_hvsi := Box.mk hvsi
              have H_hvso := Box.mk hvso
              have H_hvsr := Box.mk hvsr
              have H_hx := Box.mk hx
              have H_hxk := Box.mk hxk
              have H_hxz := Box.mk hxz
              clear hck hvs hvsl hvsi hvso hvsr hx hxk hxz
              go_wp2_with (refine wpList_load_mid rfl 24 _ rfl b (of + k * 32) (by rfl) vs _ hrk Tryd.underlying24 rfl H_hvsi.out ?_)
              with_reducible refine (H_hck.out _).mono ?_
              rintro e w21 ⟨rfl, hc21⟩
              have hb21 : Below w.heap.size w w21 := bchain (by repeat' (first | with_reducible exact hbq | with_reducible refine Below.drew ?_ | with_reducible refine below_drewN ?_ _ | with_reducible refine Below.alloc ?_ (by have := hbq.size; first | (simp; done) | (simp; omega) | omega) _ | with_reducible refine Below.setCell ?_ (by first | (simp; done) | (simp; omega) | omega) _)) hc21
              have hst21 : Below wr.heap.size wr w21 := bchain (by repeat' (first | with_reducible exact Below.refl _ _ | with_reducible refine Below.drew ?_ | with_reducible refine below_drewN ?_ _ | with_reducible refine Below.alloc ?_ (by first | (simp; done) | (simp; omega) | omega) _ | with_reducible refine Below.setCell ?_ (by first | (simp; done) | (simp; omega) | omega) _)) hc21
              replace hZ := hZ.later hst21
              replace hO := hO.later hst21
              replace hR := hR.later hst21
              clear hst21
              clear hc21
              clear hrk
              go_wp2_with fail
              go_roundw
              case rel => exact ⟨k + 1, by omega, by go_num, hb21, hZ, hO, hR⟩
              case measure => simp [intOf]; omega
        · have hge : (n : Int) ≤ (k : Int) := by omega
          clear hkn
          go_wp2_with fail
          go_roundw
          case rel => exact ⟨i + 1, by omega, by go_num, hbq, hZ, hO, hR⟩
          case measure => simp [intOf]; omega
    · have hgt : (N : Int) < (i : Int) := by omega
      clear hlt
      go_wp2_with fail
      with_reducible refine (H_hrz.out _ _ _ hZ (H_hT.out.later hbw)).mono ?_
      rintro e w11 ⟨rfl, hc11⟩
      have hb11 : Below w.heap.size w w11 := bchain (by repeat' (first | with_reducible exact hbw | with_reducible refine Below.drew ?_ | with_reducible refine below_drewN ?_ _ | with_reducible refine Below.alloc ?_ (by have := hbw.size; first | (simp; done) | (simp; omega) | omega) _ | with_reducible refine Below.setCell ?_ (by first | (simp; done) | (simp; omega) | omega) _)) hc11
      have hst11 : Below wr.heap.size wr w11 := bchain (by repeat' (first | with_reducible exact Below.refl _ _ | with_reducible refine Below.drew ?_ | with_reducible refine below_drewN ?_ _ | with_reducible refine Below.alloc ?_ (by first | (simp; done) | (simp; omega) | omega) _ | with_reducible refine Below.setCell ?_ (by first | (simp; done) | (simp; omega) | omega) _)) hc11
      replace hZ := hZ.later hst11
      replace hO := hO.later hst11
      replace hR := hR.later hst11
      clear hst11
      clear hc11
      have hN11 := Blk.newA w11 w11.heap.size _ 24 (List.replicate 32 (Value.int .u8 0)) rfl rfl
      go_upto_region 23 with (refine wpList_store_blk rfl 24 _ _ rfl w11.heap.size (by rfl) 24 _ xz (by rfl) hN11 H_hxzr.out H_hxzi.out H_hxzo.out ?_; intro w12 hA he12; have H12 := Box.mk he12; clear he12)
      have hc12 : Below w11.heap.size w11 w12 := H12.out ▸ below_setCells (Nat.le_refl _) _ _ _ ((Below.refl _ _).alloc (Nat.le_refl _) _)
      have hb12 : Below w.heap.size w w12 := bchain (by repeat' (first | with_reducible exact hb11 | with_reducible refine Below.drew ?_ | with_reducible refine below_drewN ?_ _ | with_reducible refine Below.alloc ?_ (by have := hb11.size; first | (simp; done) | (simp; omega) | omega) _ | with_reducible refine Below.setCell ?_ (by first | (simp; done) | (simp; omega) | omega) _)) hc12
      have hst12 : Below w11.heap.size w11 w12 := bchain (by repeat' (first | with_reducible exact Below.refl _ _ | with_reducible refine Below.drew ?_ | with_reducible refine below_drewN ?_ _ | with_reducible refine Below.alloc ?_ (by first | (simp; done) | (simp; omega) | omega) _ | with_reducible refine Below.setCell ?_ (by first | (simp; done) | (simp; omega) | omega) _)) hc12
      replace hZ := hZ.later hst12
      replace hO := hO.later hst12
      replace hR := hR.later hst12
      clear hst12
      clear hc12 hN11 H12
      go_wp2_with fail
      with_reducible refine (H_hr1.out _ _ _ hO (H_hT.out.later hb12)).mono ?_
      rintro e w13 ⟨rfl, hc13⟩
      have hb13 : Below w.heap.size w w13 := bchain (by repeat' (first | with_reducible exact hb12 | with_reducible refine Below.drew ?_ | with_reducible refine below_drewN ?_ _ | with_reducible refine Below.alloc ?_ (by have := hb12.size; first | (simp; done) | (simp; omega) | omega) _ | with_reducible refine Below.setCell ?_ (by first | (simp; done) | (simp; omega) | omega) _)) hc13
      have hst13 : Below w12.heap.size w12 w13 := bchain (by repeat' (first | with_reducible exact Below.refl _ _ | with_reducible refine Below.drew ?_ | with_reducible refine below_drewN ?_ _ | with_reducible refine Below.alloc ?_ (by first | (simp; done) | (simp; omega) | omega) _ | with_reducible refine Below.setCell ?_ (by first | (simp; done) | (simp; omega) | omega) _)) hc13
      replace hZ := hZ.later hst13
      replace hO := hO.later hst13
      replace hR := hR.later hst13
      replace hA := hA.later hst13
      clear hst13
      clear hc13
      have hN13 := Blk.newA w13 w13.heap.size _ 24 (List.replicate 32 (Value.int .u8 0)) rfl rfl
      go_upto_region 24 with (refine wpList_store_blk rfl 24 _ _ rfl w13.heap.size (by rfl) 24 _ xo (by rfl) hN13 H_hxor.out H_hxoi.out H_hxoo.out ?_; intro w14 hB he14; have H14 := Box.mk he14; clear he14)
      have hc14 : Below w13.heap.size w13 w14 := H14.out ▸ below_setCells (Nat.le_refl _) _ _ _ ((Below.refl _ _).alloc (Nat.le_refl _) _)
      have hb14 : Below w.heap.size w w14 := bchain (by repeat' (first | with_reducible exact hb13 | with_reducible refine Below.drew ?_ | with_reducible refine below_drewN ?_ _ | with_reducible refine Below.alloc ?_ (by have := hb13.size; first | (simp; done) | (simp; omega) | omega) _ | with_reducible refine Below.setCell ?_ (by first | (simp; done) | (simp; omega) | omega) _)) hc14
      have hst14 : Below w13.heap.size w13 w14 := bchain (by repeat' (first | with_reducible exact Below.refl _ _ | with_reducible refine Below.drew ?_ | with_reducible refine below_drewN ?_ _ | with_reducible refine Below.alloc ?_ (by first | (simp; done) | (simp; omega) | omega) _ | with_reducible refine Below.setCell ?_ (by first | (simp; done) | (simp; omega) | omega) _)) hc14
      replace hZ := hZ.later hst14
      replace hO := hO.later hst14
      replace hR := hR.later hst14
      replace hA := hA.later hst14
      clear hst14
      clear hc14 hN13 H14
      have hNw' := H_hNw.out
      go_wp2_with (first | (refine wpList_load_blk rfl 24 _ rfl w11.heap.size (by rfl) 24 xz _ hA Tryd.underlying24 rfl H_hxzi.out ?_) | (refine wpList_load_blk rfl 24 _ rfl w13.heap.size (by rfl) 24 xo _ hB Tryd.underlying24 rfl H_hxoi.out ?_))
      clear hNw'
      with_reducible refine (H_hnd.out _ (H_hT.out.later hb14)).mono ?_
      rintro e w15 ⟨rfl, hc15⟩
      have hb15 : Below w.heap.size w w15 := bchain (by repeat' (first | with_reducible exact hb14 | with_reducible refine Below.drew ?_ | with_reducible refine below_drewN ?_ _ | with_reducible refine Below.alloc ?_ (by have := hb14.size; first | (simp; done) | (simp; omega) | omega) _ | with_reducible refine Below.setCell ?_ (by first | (simp; done) | (simp; omega) | omega) _)) hc15
      have hst15 : Below w14.heap.size w14 w15 := bchain (by repeat' (first | with_reducible exact Below.refl _ _ | with_reducible refine Below.drew ?_ | with_reducible refine below_drewN ?_ _ | with_reducible refine Below.alloc ?_ (by first | (simp; done) | (simp; omega) | omega) _ | with_reducible refine Below.setCell ?_ (by first | (simp; done) | (simp; omega) | omega) _)) hc15
      replace hZ := hZ.later hst15
      replace hO := hO.later hst15
      replace hR := hR.later hst15
      replace hA := hA.later hst15
      replace hB := hB.later hst15
      clear hst15
      clear hc15
      have hN15 := Blk.newA w15 w15.heap.size _ 24 (List.replicate 32 (Value.int .u8 0)) rfl rfl
      go_upto_region 25 with (refine wpList_store_blk rfl 24 _ _ rfl w15.heap.size (by rfl) 24 _ xr (by rfl) hN15 H_hxrr.out H_hxri.out H_hxro.out ?_; intro w16 hC he16; have H16 := Box.mk he16; clear he16)
      have hc16 : Below w15.heap.size w15 w16 := H16.out ▸ below_setCells (Nat.le_refl _) _ _ _ ((Below.refl _ _).alloc (Nat.le_refl _) _)
      have hb16 : Below w.heap.size w w16 := bchain (by repeat' (first | with_reducible exact hb15 | with_reducible refine Below.drew ?_ | with_reducible refine below_drewN ?_ _ | with_reducible refine Below.alloc ?_ (by have := hb15.size; first | (simp; done) | (simp; omega) | omega) _ | with_reducible refine Below.setCell ?_ (by first | (simp; done) | (simp; omega) | omega) _)) hc16
      have hst16 : Below w15.heap.size w15 w16 := bchain (by repeat' (first | with_reducible exact Below.refl _ _ | with_reducible refine Below.drew ?_ | with_reducible refine below_drewN ?_ _ | with_reducible refine Below.alloc ?_ (by first | (simp; done) | (simp; omega) | omega) _ | with_reducible refine Below.setCell ?_ (by first | (simp; done) | (simp; omega) | omega) _)) hc16
      replace hZ := hZ.later hst16
      replace hO := hO.later hst16
      replace hR := hR.later hst16
      replace hA := hA.later hst16
      replace hB := hB.later hst16
      clear hst16
      clear hc16 hN15 H16
      have heq' := H_heq.out
      go_wp2_with (first | (refine wpList_load_blkG (by first | rfl | (simp [Region.wanted]; done)) 24 _ rfl w15.heap.size (by rfl) 24 xr _ hC Tryd.underlying24 rfl H_hxri.out ?_) | (refine wpList_load_blkG (by first | rfl | (simp [Region.wanted]; done)) 24 _ rfl w4.heap.size (by rfl) 24 xr _ hR Tryd.underlying24 rfl H_hxri.out ?_))
      go_ret
      exact ⟨rfl, hb16⟩
theorem splits_full (l : List (List Int)) (a : Option Addr) (c : Nat) (w : World) (h : IdsIn w a c l ∧ l.length ≤ maxLen) (hK : CellsAt w (some ⟨1, 0, none⟩) (kcs.map (Value.int .u32)) ∧ 1 < w.heap.size) :
    Calls Tryd.prog 5 #[.slice a l.length c] w fun e w' =>
      e = .returned (.bool true) ∧ Below w.heap.size w w' := by
  have hT : TabK w := ⟨hK.1, hK.2⟩
  by_cases h16 : l.length ≤ 16
  · by_cases hz : chkZ l = 0
    · obtain ⟨hinc, hl⟩ := inc_of_chk h.1.ids hz
      by_cases h2 : l.length < 2
      · exact splits_few l a _ c w h.1 rfl h2 hinc hT
      · exact splits_main l _ _ a _ c _ _ _ w h.1 rfl h16 (by omega) hinc (hinc.cutF (by omega)) rfl hT rfl rfl
    · exact splits_bad l a _ c w h.1 rfl h16 hz hT
  · exact splits_big l a _ c w (by omega) hT

end Go.Proofs.YtfabcdpmnbeflaaDoor
