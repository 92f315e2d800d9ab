/- TrieE: TrieRProve, TrieRProve2, TrieSameP. -/
import Derived.Test.YtfabcdpmnbeflaaDoorTrieD
/- Prove: of the reference. -/
namespace Go.Proofs.YtfabcdpmnbeflaaDoor
set_option linter.unusedSimpArgs false
set_option linter.unusedVariables false
set_option linter.unnecessarySimpa false
open Go.RowKit Go.Sort
set_option maxRecDepth 100000

set_option maxHeartbeats 1000000 in
theorem rprove_err (l : List (List Int)) (id : List Int) (a : Option Addr) (n c : Nat) (w : World) (h : IdsIn w a c l) (hn : n = l.length) (hm : n ≤ maxLen) (hid : IdIn id) (hz : chkZ l ≠ 0) :
    Calls Tryd.prog 16 #[.slice a n c, .agg (idC id).toArray] w fun e w' =>
      ProveR w' (proveZ l id) e ∧ Below w.heap.size w w' := by
  have hck := fun W (hI : IdsIn W a c l) => rcheck_any l a n c W hI hn hm
  rw [show proveZ l id = ⟨proof0, false, chkZ l⟩ from by unfold proveZ; rw [if_pos hz]]
  obtain ⟨er, her⟩ : ∃ er, chkZ l = er := ⟨_, rfl⟩
  rw [her] at hz
  simp only [her] at hck ⊢
  obtain ⟨ids, hids⟩ : ∃ ids, ids = idC id := ⟨_, rfl⟩
  rw [← hids]
  have hP1 : Blk ((w.alloc (.cells ids.toArray 24)).alloc (.cells (prC none 0 0 none 0 0 (List.replicate 32 0) false).toArray 41)) (w.heap.size + 1) 41 (prC none 0 0 none 0 0 (List.replicate 32 0) false) := newPr _ _ (by simp)
  have hal : Below w.heap.size w ((w.alloc (.cells ids.toArray 24)).alloc (.cells (prC none 0 0 none 0 0 (List.replicate 32 0) false).toArray 41)) := ((Below.refl _ _).alloc (Nat.le_refl _) _).alloc (by simp) _
  have hzb : (er == 0) = false := by simpa using hz
  have H_hck := Box.mk hck
  have H_h := Box.mk h
  have H_hn := Box.mk hn
  have H_her := Box.mk her
  have H_hids := Box.mk hids
  have H_hid := Box.mk hid
  have H_hal := Box.mk hal
  clear hck h hn her hids hid hal
  clear hm
  go_enter Tryd.func16, Tryd.ntmps16
  have hb0 := Below.refl w.heap.size w
  go_wp2_with fail
  refine (H_hck.out _ (H_h.out.later H_hal.out)).mono ?_
  rintro e w1 ⟨rfl, hc1⟩
  have hP2 := hP1.later hc1
  have hb1 : Below w.heap.size w w1 := bchain H_hal.out hc1
  clear hc1 hP1
  go_wp2_with (refine wpList_store_blk rfl 41 _ _ rfl (w.heap.size + 1) (by rfl) 41 _ (prC none 0 0 none 0 0 (List.replicate 32 0) false) (by rfl) hP2 (by rfl) (by rfl) (prC_one _ _ _ _ _ _ _ _) ?_; intro wz hBz hez; have Hz := Box.mk hez; clear hez)
  go_wp2_with fail
  have hbz : Below w.heap.size w wz := Hz.out ▸ below_setCells (by omega) _ _ _ hb1
  exact bodyPost_ret (results_blk3 (by rfl) _ _ (w.heap.size + 1) 41 _ _ (.bool false) (.int .i64 er) rfl rfl rfl hBz Tryd.underlying41 rfl (by rfl)) rfl ⟨⟨none, 0, none, 0, rfl, .inl rfl, .nil _ _ _⟩, hbz⟩


set_option maxHeartbeats 2000000 in
theorem rprove_nil (id : List Int) (a : Option Addr) (c : Nat) (w : World) (hid : IdIn id) :
    Calls Tryd.prog 16 #[.slice a 0 c, .agg (idC id).toArray] w fun e w' =>
      ProveR w' (proveZ [] id) e ∧ Below w.heap.size w w' := by
  have hck := fun W => rcheck_any [] a 0 c W (.nil _ _ _) rfl (by simp [maxLen])
  have hcz : chkZ [] = 0 := rfl
  rw [hcz] at hck
  rw [show proveZ [] id = ⟨proofE, false, 0⟩ from by unfold proveZ; rw [if_neg (by rw [hcz]; decide)]; rfl]
  obtain ⟨ids, hids⟩ : ∃ ids, ids = idC id := ⟨_, rfl⟩
  rw [← hids]
  have hP1 : Blk ((w.alloc (.cells ids.toArray 24)).alloc (.cells (prC none 0 0 none 0 0 (List.replicate 32 0) false).toArray 41)) (w.heap.size + 1) 41 (prC none 0 0 none 0 0 (List.replicate 32 0) false) := newPr _ _ (by simp)
  have hal : Below w.heap.size w ((w.alloc (.cells ids.toArray 24)).alloc (.cells (prC none 0 0 none 0 0 (List.replicate 32 0) false).toArray 41)) := ((Below.refl _ _).alloc (Nat.le_refl _) _).alloc (by simp) _
  have H_hck := Box.mk hck
  have H_hids := Box.mk hids
  have H_hid := Box.mk hid
  have H_hal := Box.mk hal
  clear hck hids hid hal
  go_enter Tryd.func16, Tryd.ntmps16
  have hb0 := Below.refl w.heap.size w
  go_wp2_with fail
  refine (H_hck.out _).mono ?_
  rintro e w1 ⟨rfl, hc1⟩
  have hP2 := hP1.later hc1
  have hb1 : Below w.heap.size w w1 := bchain H_hal.out hc1
  clear hc1 hP1
  go_upto_region 5 with fail
  have hPp : Blk (w1.alloc (.cells (prC none 0 0 none 0 0 (List.replicate 32 0) false).toArray 41)) w1.heap.size 41 (prC none 0 0 none 0 0 (List.replicate 32 0) false) := newPr _ _ rfl
  refine wp_gen fun w2 hc2 => ?_
  have hPp2 := hPp.later hc2
  have hc1' : Below w1.heap.size w1 (w1.alloc (.cells (prC none 0 0 none 0 0 (List.replicate 32 0) false).toArray 41)) := (Below.refl _ _).alloc (Nat.le_refl _) _
  have hP3 := hP2.later (bchain hc1' hc2)
  have hb2 := bchain hb1 (bchain hc1' hc2)
  have z1 := hP2.lt
  obtain ⟨pb, hpb⟩ : ∃ pb, w1.heap.size = pb := ⟨_, rfl⟩
  rw [hpb] at hPp2 z1 ⊢
  clear hc2 hc1' hPp hP2 hpb hb1
  have r0 := Below.refl w2.heap.size w2
  go_wp2_with fail
  go_loopw [9] (fun q wr => q = .slice a 0 c ∧ Below w2.heap.size w2 wr) (fun _ _ => 0)
  case atStart => exact ⟨rfl, r0⟩
  case round =>
    obtain ⟨rfl, hbw⟩ := hrel
    have hP4 := hP3.later hbw
    have hPp4 := hPp2.later hbw
    have hb4 := bchain hb2 hbw
    have P_34 := hPp4.cell (j := 34) (v := .bool false) rfl
    have P_f := hPp4.free 34
    have wp := hPp4.set 34 (.bool true)
    have e34 : (prC none 0 0 none 0 0 (List.replicate 32 0) false).set 34 (.bool true) = prC none 0 0 none 0 0 (List.replicate 32 0) true := rfl
    rw [e34] at wp
    have hR := hP4.setFar (p := ⟨pb, 34, none⟩) (by simp; omega) (.bool true)
    have hb5 := hb4.setCell (p := ⟨pb, 34, none⟩) (by simp; omega) (.bool true)
    obtain ⟨PV, hPV⟩ : ∃ PV, PV = prC none 0 0 none 0 0 (List.replicate 32 0) true := ⟨_, rfl⟩
    have hPVl : PV.length = 35 := by rw [hPV]; rfl
    have hPVi : (Tryd.prog.info? 41).map (·.size) = some PV.length := by rw [hPVl]; exact info35
    have hPV1 : ∀ u ∈ PV, u.oneCell' = true := by rw [hPV]; exact prC_one _ _ _ _ _ _ _ _
    rw [← hPV] at wp
    have H_hPV := Box.mk hPV
    have H_hPVl := Box.mk hPVl
    have H_hPVi := Box.mk hPVi
    have H_hPV1 := Box.mk hPV1
    have H_e34 := Box.mk e34
    have H_hPp2 := Box.mk hPp2
    have H_hP3 := Box.mk hP3
    have H_hPp4 := Box.mk hPp4
    have H_hP4 := Box.mk hP4
    clear hPV hPVl hPVi hPV1 e34 hPp2 hP3 hPp4 hP4
    clear hb4 hbw r0 hb2
    go_wp2_with (first | (refine wpList_load_blk rfl 41 _ rfl pb (by rfl) 41 PV _ wp Tryd.underlying41 rfl H_hPVi.out ?_) | (refine wpList_store_blk rfl 41 _ _ rfl (w.heap.size + 1) (by rfl) 41 _ PV (by rfl) hR (by rw [H_hPVl.out]; rfl) H_hPVi.out H_hPV1.out ?_; intro wz hBz hez; have Hz := Box.mk hez; clear hez))
    go_wp2_with fail
    have hbz : Below w.heap.size w wz := Hz.out ▸ below_setCells (by omega) _ _ _ hb5
    refine bodyPost_ret (results_blk3 (by rfl) _ _ (w.heap.size + 1) 41 _ _ (.bool false) (.int .i64 0) rfl rfl rfl hBz Tryd.underlying41 rfl H_hPVi.out) rfl ⟨⟨none, 0, none, 0, ?_, .inl rfl, .nil _ _ _⟩, hbz⟩
    rw [H_hPV.out]
    rfl

end Go.Proofs.YtfabcdpmnbeflaaDoor

/- Prove: of the reference: lists that are not empty. -/
namespace Go.Proofs.YtfabcdpmnbeflaaDoor
set_option linter.unusedSimpArgs false
set_option linter.unusedVariables false
set_option linter.unnecessarySimpa false
open Go.RowKit Go.Sort
set_option maxRecDepth 100000

/-- The loop's state: what holds of the memory. -/
structure RLoopW (w wr : World) (B pb : Nat) (ids : List Value) (a' : Option Addr) (c' : Nat) (l' : List (List Int)) (ba : Option Addr) (nb bc : Nat) (bits : List Int) (da : Option Addr) (md dc : Nat) (bes : List (List Int)) : Prop where
  bel : Below w.heap.size w wr
  size : B ≤ wr.heap.size
  l : IdsIn wr a' c' l'
  adl : ∀ x, a' = some x → x.block < wr.heap.size
  ad : ∀ x, a' = some x → x.block ≠ pb ∧ x.block ≠ w.heap.size + 1 ∧ (∀ k, (Value.slice ba nb bc).ownBlock = some k → k ≠ x.block) ∧ (∀ k, (Value.slice da md dc).ownBlock = some k → k ≠ x.block)
  p : Blk wr pb 41 (prC ba nb bc da md dc (List.replicate 32 0) false)
  d : Blk wr w.heap.size 24 ids
  r : Blk wr (w.heap.size + 1) 41 (prC none 0 0 none 0 0 (List.replicate 32 0) false)
  a : OwnX wr B 5 1 (.slice ba nb bc) nb (bits.map (Value.int .u8))
  b : OwnX wr B 24 32 (.slice da md dc) md (idsC bes)
theorem RLoopW.later {w wr w' : World} {B pb : Nat} {ids : List Value} {a' : Option Addr} {c' : Nat} {l' : List (List Int)} {ba : Option Addr} {nb bc : Nat} {bits : List Int} {da : Option Addr} {md dc : Nat} {bes : List (List Int)} (h : RLoopW w wr B pb ids a' c' l' ba nb bc bits da md dc bes) (hb : Below wr.heap.size wr w') : RLoopW w w' B pb ids a' c' l' ba nb bc bits da md dc bes :=
  ⟨bchain h.bel hb, Nat.le_trans h.size hb.size, h.l.later hb, fun x hx => Nat.lt_of_lt_of_le (h.adl x hx) hb.size, h.ad, h.p.later hb, h.d.later hb, h.r.later hb, h.a.later hb, h.b.later hb⟩
theorem IdsIn.grown {w w' : World} {a : Option Addr} {c : Nat} {l : List (List Int)} {r : Option Nat} (h : IdsIn w a c l) (hg : w.grownBy w' r) (hr : ∀ ad, a = some ad → r ≠ some ad.block) : IdsIn w' a c l := ⟨h.cells.grown hg hr, h.ids, h.cap⟩
/-- Behind an append on the row of bits, and its store. -/
theorem RLoopW.appA {w wr w' : World} {B pb : Nat} {ids : List Value} {a' : Option Addr} {c' : Nat} {l' : List (List Int)} {ba a5 : Option Addr} {nb bc c5 : Nat} {bits : List Int} {da : Option Addr} {md dc : Nat} {bes : List (List Int)} {N : Int} (h : RLoopW w wr B pb ids a' c' l' ba nb bc bits da md dc bes) (hpw : w.heap.size + 1 < pb) (hpB : pb < B)
    (o : OwnX w' B 5 1 (.slice a5 (nb + 1) c5) (nb + 1) (bits.map (Value.int .u8) ++ [.int .u8 N])) (hg : wr.grownBy w' (Value.slice ba nb bc).ownBlock) (hk : ∀ k, (Value.slice a5 (nb + 1) c5).ownBlock = some k → (Value.slice ba nb bc).ownBlock = some k ∨ wr.heap.size ≤ k) :
    RLoopW w (w'.setCell ⟨pb, 0, none⟩ (.slice a5 (nb + 1) c5)) B pb ids a' c' l' a5 (nb + 1) c5 (bits ++ [N]) da md dc bes := by
  have hA : ∀ k, (Value.slice ba nb bc).ownBlock = some k → B ≤ k ∧ k < wr.heap.size := fun k hk => h.a.lt k hk
  have hB : ∀ k, (Value.slice da md dc).ownBlock = some k → B ≤ k ∧ k < wr.heap.size := fun k hk => h.b.lt k hk
  have hne := h.a.ne_type h.b u8_ne_id
  refine ⟨(below_grownX h.bel hg (by have := h.size; omega) fun k hk => by have := hA k hk; omega).setCell (by simp; omega) _, by have := hg.size; have := h.size; simp; omega, ?_, (fun x hx => by have := h.adl x hx; have := hg.size; simp; omega), ?_, (h.p.grown hg fun e => by have := (hA _ e).1; omega).set 0 _, (h.d.grown hg fun e => by have := (hA _ e).1; omega).setFar (by simp; omega) _, (h.r.grown hg fun e => by have := (hA _ e).1; omega).setFar (by simp; omega) _, ?_, ?_⟩
  · have h1 := h.l.grown hg fun ad e e2 => (h.ad ad e).2.2.1 _ e2 rfl
    exact ⟨h1.cells.setFarG (fun ad e => by have := (h.ad ad e).1; simpa using this) _, h1.ids, h1.cap⟩
  · intro x hx
    obtain ⟨h1, h2, h3, h4⟩ := h.ad x hx
    have h5 := h.adl x hx
    refine ⟨h1, h2, fun k hk5 => ?_, h4⟩
    rcases hk k hk5 with h6 | h6
    · exact h3 k h6
    · omega
  · rw [List.map_append]
    exact o.setFar (a := ⟨pb, 0, none⟩) (fun e => by rcases hk _ e with h1 | h1; have := (hA _ h1).1; simp at this; omega; simp at h1; have := h.p.lt; omega) _
  · exact (h.b.kept hg (by
      cases e : (Value.slice da md dc).ownBlock with
      | none => exact .inl rfl
      | some k => exact .inr fun e2 => hne k e2.symm e)).setFar (a := ⟨pb, 0, none⟩) (fun e => by have := (hB _ e).1; simp at this; omega) _

/-- The worlds of the region in which the row of digests grows. -/
structure RGrowC (w0 : World) (B pb K : Nat) (P ids : List Value) (ba : Option Addr) (na bc : Nat) (bs : List Value) (da : Option Addr) (md dc : Nat) (es : List Value) (a' : Option Addr) (c' : Nat) (l' : List (List Int)) (w : World) : Prop where
  bel : Below B w0 w
  size : w0.heap.size ≤ w.heap.size
  p : Blk w pb 41 P
  d : Blk w K 24 ids
  a : OwnX w B 5 1 (.slice ba na bc) na bs
  b : OwnX w B 24 32 (.slice da md dc) md es
  l : IdsIn w a' c' l'
section
variable {w0 : World} {B pb K : Nat} {P ids : List Value} {ba : Option Addr} {na bc : Nat} {bs : List Value} {da : Option Addr} {md dc : Nat} {es : List Value} {a' : Option Addr} {c' : Nat} {l' : List (List Int)} {w w' : World}
theorem RGrowC.later (h : RGrowC w0 B pb K P ids ba na bc bs da md dc es a' c' l' w) (hB : B ≤ w0.heap.size) (hb : Below w.heap.size w w') : RGrowC w0 B pb K P ids ba na bc bs da md dc es a' c' l' w' :=
  ⟨h.bel.trans (hb.mono (Nat.le_trans hB h.size)), Nat.le_trans h.size hb.size, h.p.later hb, h.d.later hb, h.a.later hb, h.b.later hb, h.l.later hb⟩
theorem RGrowC.app (h : RGrowC w0 B pb K P ids ba na bc bs da md dc es a' c' l' w) (hB : B ≤ w0.heap.size) (hpb : pb < B) (hK : K < B) (hg : w.grownBy w' (Value.slice da md dc).ownBlock) (hb : OwnX w' B 24 32 (.slice da md dc) md es) (hne : ∀ x, a' = some x → ∀ k, (Value.slice da md dc).ownBlock = some k → k ≠ x.block) : RGrowC w0 B pb K P ids ba na bc bs da md dc es a' c' l' w' :=
  ⟨below_grownX h.bel hg (Nat.le_trans hB h.size) fun k hk => (h.b.lt k hk).1, Nat.le_trans h.size hg.size, h.p.grown hg fun e => by have := (h.b.lt _ e).1; omega, h.d.grown hg fun e => by have := (h.b.lt _ e).1; omega,
    h.a.kept hg (by
      cases e : (Value.slice ba na bc).ownBlock with
      | none => exact .inl rfl
      | some k => exact .inr fun e2 => h.a.ne_type h.b u8_ne_id k e e2.symm), hb, h.l.grown hg fun ad e e2 => hne ad e _ e2 rfl⟩
end
/-- Behind an append on the row of digests, and its store. -/
theorem RLoopW.appB {w w0 w' : World} {B pb : Nat} {ids : List Value} {a' : Option Addr} {c' : Nat} {l' : List (List Int)} {ba : Option Addr} {nb bc : Nat} {bits : List Int} {da a11 : Option Addr} {md dc c11 : Nat} {bes : List (List Int)} {d : List Int} {P : List Value} (h : RLoopW w w0 B pb ids a' c' l' ba nb bc bits da md dc bes) (hpw : w.heap.size + 1 < pb) (hpB : pb < B) (hP : P = prC ba nb bc da md dc (List.replicate 32 0) false)
    (hG : RGrowC w0 B pb w.heap.size P ids ba nb bc (bits.map (Value.int .u8)) da md dc (idsC bes) a' c' l' w')
    (o : OwnX w' B 24 32 (.slice a11 (md + 1) c11) (md + 1) (idsC bes ++ idC d)) (hk : ∀ k, (Value.slice a11 (md + 1) c11).ownBlock = some k → (Value.slice da md dc).ownBlock = some k ∨ w0.heap.size ≤ k) :
    RLoopW w (w'.setCell ⟨pb, 1, none⟩ (.slice a11 (md + 1) c11)) B pb ids a' c' l' ba nb bc bits a11 (md + 1) c11 (bes ++ [d]) := by
  have hlp := h.p.lt
  have hBl : ∀ k, (Value.slice da md dc).ownBlock = some k → B ≤ k ∧ k < w0.heap.size := fun k hk => h.b.lt k hk
  refine ⟨(h.bel.trans (hG.bel.mono (by omega))).setCell (by simp; omega) _, by have := hG.size; have := h.size; simp; omega, ⟨hG.l.cells.setFarG (fun ad e => by have := (h.ad ad e).1; simpa using this) _, hG.l.ids, hG.l.cap⟩, (fun x hx => by have := h.adl x hx; have := hG.size; simp; omega), ?_, ?_, hG.d.setFar (by simp; omega) _, (h.r.below hG.bel (by omega)).setFar (by simp; omega) _, ?_, ?_⟩
  · intro x hx
    obtain ⟨h1, h2, h3, h4⟩ := h.ad x hx
    have h5 := h.adl x hx
    refine ⟨h1, h2, h3, fun k hk5 => ?_⟩
    rcases hk k hk5 with h6 | h6
    · exact h4 k h6
    · omega
  · have := hG.p.set 1 (.slice a11 (md + 1) c11)
    rw [hP] at this
    exact this
  · exact hG.a.setFar (a := ⟨pb, 1, none⟩) (fun e => by have := (hG.a.lt _ e).1; simp at this; omega) _
  · rw [idsC_append, idsC_single]
    exact o.setFar (a := ⟨pb, 1, none⟩) (fun e => by rcases hk _ e with h1 | h1; have := (hBl _ h1).1; simp at this; omega; simp at h1; omega) _
/-- Ids in a row that was made in the region. -/
def VFarI (L : Nat) (l : List (List Int)) : Value → World → Prop := fun v w => ∃ a c, v = .slice a l.length c ∧ IdsIn w a c l ∧ ∀ ad, a = some ad → L ≤ ad.block
theorem VFarI.last {L : Nat} {l : List (List Int)} (v : Value) (w w' : World) (h : VFarI L l v w) (hb : Below w.heap.size w w') : VFarI L l v w' :=
  let ⟨a, c, hv, h, hl⟩ := h
  ⟨a, c, hv, h.later hb, hl⟩
theorem VFarI.grown {L : Nat} {l : List (List Int)} {r : Option Nat} (hr : ∀ k, r = some k → k < L) (v : Value) (w w' : World) (h : VFarI L l v w) (hg : w.grownBy w' r) : VFarI L l v w' :=
  let ⟨a, c, hv, h, hl⟩ := h
  ⟨a, c, hv, h.grown hg fun ad ha e => by have := hr _ e; have := hl ad ha; omega, hl⟩
theorem vis_last {x : Value} (v : Value) (w w' : World) (h : VIs x v w) (_ : Below w.heap.size w w') : VIs x v w' := h
theorem vis_grown {x : Value} {r : Option Nat} (v : Value) (w w' : World) (h : VIs x v w) (_ : w.grownBy w' r) : VIs x v w' := h
set_option maxHeartbeats 4000000 in
theorem rprove_ok (l : List (List Int)) (id : List Int) (a : Option Addr) (n c : Nat) (w : World) (h : IdsIn w a c l) (hinc : IncL l) (hn : n = l.length) (h0 : 0 < n) (h60 : n ≤ 60) (hid : IdIn id) :
    Calls Tryd.prog 16 #[.slice a n c, .agg (idC id).toArray] w fun e w' =>
      ProveR w' (proveZ l id) e ∧ Below w.heap.size w w' := by
  obtain ⟨i0, hif, hz0, hz1, hz2⟩ := info_parts info_u8
  obtain ⟨j0, jif, jz0, jz1, jz2⟩ := info_parts info_id32
  have hck := fun W (hI : IdsIn W a c l) => rcheck_any l a n c W hI hn (by unfold maxLen; omega)
  have hcz := chk_of_inc hinc (by omega)
  rw [hcz] at hck
  rw [show proveZ l id = ⟨provP l id, decide ((provP l id).only = id), 0⟩ from by unfold proveZ; rw [if_neg (by rw [hcz]; decide), if_neg (by omega)]]
  obtain ⟨ids, hids⟩ : ∃ v, v = idC (id) := ⟨_, rfl⟩
  have hidsl := idC_len hid
  have hidsi := idC_info hid
  have hidso := idC_one (id)
  rw [← hids] at hidsl hidsi hidso
  have hidsr : ids.length = (List.replicate 32 (Value.int .u8 0)).length := by rw [hidsl]; rfl
  rw [← hids]
  obtain ⟨A, hA⟩ : ∃ A, provP l id = A := ⟨_, rfl⟩
  rw [hA]
  have hP1 : Blk ((w.alloc (.cells ids.toArray 24)).alloc (.cells (prC none 0 0 none 0 0 (List.replicate 32 0) false).toArray 41)) (w.heap.size + 1) 41 (prC none 0 0 none 0 0 (List.replicate 32 0) false) := newPr _ _ (by simp)
  have hD1 : Blk ((w.alloc (.cells ids.toArray 24)).alloc (.cells (prC none 0 0 none 0 0 (List.replicate 32 0) false).toArray 41)) w.heap.size 24 ids := (Blk.newA w _ _ _ ids rfl rfl).alloc _
  have hal : Below w.heap.size w ((w.alloc (.cells ids.toArray 24)).alloc (.cells (prC none 0 0 none 0 0 (List.replicate 32 0) false).toArray 41)) := ((Below.refl _ _).alloc (Nat.le_refl _) _).alloc (by simp) _
  have hnI : (n : Int) ≤ 60 := by omega
  obtain ⟨b, of, ha, hbl, _⟩ := h.row (by omega)
  have hab : ∀ ad, a = some ad → ad.block < w.heap.size := fun ad e => by rw [ha] at e; cases e; exact hbl
  have H_hif := Box.mk hif
  have H_hz0 := Box.mk hz0
  have H_hz1 := Box.mk hz1
  have H_hz2 := Box.mk hz2
  have H_jif := Box.mk jif
  have H_jz0 := Box.mk jz0
  have H_jz1 := Box.mk jz1
  have H_jz2 := Box.mk jz2
  have H_hck := Box.mk hck
  have H_hcz := Box.mk hcz
  have H_hn := Box.mk hn
  have H_hid := Box.mk hid
  have H_hal := Box.mk hal
  have H_hA := Box.mk hA
  have H_hab := Box.mk hab
  have H_ha := Box.mk ha
  have H_hidsl := Box.mk hidsl
  have H_hidsi := Box.mk hidsi
  have H_hidso := Box.mk hidso
  have H_hidsr := Box.mk hidsr
  have H_hids := Box.mk hids
  have H_hinc := Box.mk hinc
  have H_h := Box.mk h
  clear hif hz0 hz1 hz2 jif jz0 jz1 jz2 hck hcz hn hid hal hA hab ha hidsl hidsi hidso hidsr hids hinc h
  go_enter Tryd.func16, Tryd.ntmps16
  have hb0 := Below.refl w.heap.size w
  go_wp2_with fail
  refine (H_hck.out _ (H_h.out.later H_hal.out)).mono ?_
  rintro e w1 ⟨rfl, hc1⟩
  have hR1 := hP1.later hc1
  have hD2 := hD1.later hc1
  have hb1 : Below w.heap.size w w1 := bchain H_hal.out hc1
  clear hc1 hP1 hD1
  go_upto_region 5 with fail
  have hPp : Blk (w1.alloc (.cells (prC none 0 0 none 0 0 (List.replicate 32 0) false).toArray 41)) w1.heap.size 41 (prC none 0 0 none 0 0 (List.replicate 32 0) false) := newPr _ _ rfl
  refine wp_gen fun w2 hc2 => ?_
  have hPp2 := hPp.later hc2
  have hc1' : Below w1.heap.size w1 (w1.alloc (.cells (prC none 0 0 none 0 0 (List.replicate 32 0) false).toArray 41)) := (Below.refl _ _).alloc (Nat.le_refl _) _
  have hc12 := bchain hc1' hc2
  have hR2 := hR1.later hc12
  have hD3 := hD2.later hc12
  have hb2 := bchain hb1 hc12
  have z2 : w1.heap.size + 1 ≤ w2.heap.size := hPp2.lt
  obtain ⟨pb, hpb⟩ : ∃ pb, w1.heap.size = pb := ⟨_, rfl⟩
  have hpw : w.heap.size + 1 < pb := by have := hR1.lt; omega
  rw [hpb] at z2 hPp2 ⊢
  have hLF : LoopF id A n l n 0 [] [] := ⟨H_hinc.out, H_hn.out, h0, rfl, rfl, by omega, by rw [← H_hA.out, behind_nil], fun x hx => by simp at hx⟩
  have hLW : RLoopW w w2 (pb + 1) pb ids a c l none 0 0 [] none 0 0 [] := ⟨hb2, z2, H_h.out.later hb2, fun x hx => by have := H_hab.out x hx; omega, fun x hx => by have := H_hab.out x hx; exact ⟨by omega, by omega, fun k hk => by simp [Value.ownBlock] at hk, fun k hk => by simp [Value.ownBlock] at hk⟩, hPp2, hD3, hR2, OwnX.nil _ _ _ _, OwnX.nil _ _ _ _⟩
  clear hc2 hc1' hc12 hPp hR1 hR2 hD2 hD3 hb1 hPp2 hb2 hpb hb0
  go_wp2_with fail
  go_loopw [9] (fun q wr => ∃ (a' : Option Addr) (n' c' : Nat) (l' : List (List Int)) (bits : List Int) (bes : List (List Int)) (ba : Option Addr) (nb bc : Nat) (da : Option Addr) (dc : Nat), q = .slice a' n' c' ∧ LoopF id A n l' n' nb bits bes ∧ RLoopW w wr (pb + 1) pb ids a' c' l' ba nb bc bits da nb dc bes) (fun q _ => match q with | .slice _ k _ => k | _ => 0)
  case atStart => exact ⟨a, n, c, l, [], [], none, 0, 0, none, 0, rfl, hLF, hLW⟩
  case round =>
    clear hLF hLW z2
    obtain ⟨a', n', c', l', bits, bes, ba, nb, bc, da, dc, rfl, hF, hW⟩ := hrel
    by_cases h1 : n' = 1
    · subst h1
      obtain ⟨x, rfl⟩ : ∃ x, l' = [x] := by
        match l', hF.hn with
        | [x], _ => exact ⟨x, rfl⟩
      obtain ⟨b1, of1, rfl, hbl1, hr1⟩ := hW.l.row (by simp)
      have hx : IdIn x := hW.l.ids x (by simp)
      have hr0 := hr1 0 (by simp)
      rw [Nat.zero_mul, Nat.add_zero] at hr0
      have hr0 : wr.rangeAt b1 of1 (idC x) := hr0
      have hAe := hF.eq
      rw [provP_one] at hAe
      have heq := fun w => eq_ids x id hx.len H_hid.out.len w
      obtain ⟨us, hus⟩ : ∃ v, v = idC (x) := ⟨_, rfl⟩
      have husl := idC_len hx
      have husi := idC_info hx
      have huso := idC_one (x)
      rw [← hus] at husl husi huso
      have husr : us.length = (List.replicate 32 (Value.int .u8 0)).length := by rw [husl]; rfl
      rw [← hus] at hr0
      have heq' : ∀ w, (Op.equalIn 10000 24 (.agg us.toArray) (.agg ids.toArray)).run Tryd.prog w = .ok (decide (x = id)) w := fun w => by
        have e1 : (x == id) = decide (x = id) := by
          by_cases h : x = id
          · simp [h]
          · simp [h]
        have := heq w
        rw [e1] at this
        rw [hus, H_hids.out]
        exact this
      obtain ⟨is, his⟩ : ∃ is, decide (x = id) = is := ⟨_, rfl⟩
      simp only [his] at heq'
      have hpl : w.heap.size + 1 < pb := hpw
      have H_hus := Box.mk hus
      have H_husl := Box.mk husl
      have H_husi := Box.mk husi
      have H_huso := Box.mk huso
      have H_husr := Box.mk husr
      have H_heq := Box.mk heq
      have H_hAe := Box.mk hAe
      have H_hx := Box.mk hx
      have H_his := Box.mk his
      have H_hr1 := Box.mk hr1
      clear hus husl husi huso husr heq hAe hx his hr1
      have hWb := hW.bel
      have hx4 : wr.there pb 2 us.length := fun j hj => by
        have h1 : 2 + j < (prC ba nb bc da nb dc (List.replicate 32 0) false).length := by rw [prC_len zeroIdIn]; have := H_husl.out; omega
        exact ⟨by rw [hW.p.cell (List.getElem?_eq_getElem h1)]; rfl, hW.p.free _⟩
      go_upto_region 15 with (first | (refine wpList_load_mid rfl 24 _ rfl b1 of1 (by rfl) us _ hr0 Tryd.underlying24 rfl H_husi.out ?_) | (refine wpList_store_mid rfl 24 _ _ rfl pb 2 us.toArray (by rfl) (by rfl) (by simpa using hx4) (by simpa using H_husi.out) (all_oneCell_toArray H_huso.out) ?_))
      simp only [Act.put]
      refine wp_gen fun w11 hc11 => ?_
      have hPp : Blk (wr.setCells pb 2 us) pb 41 (prC ba nb bc da nb dc x false) := by
        have h1 := Blk.setCellsAt us _ 2 wr hW.p (by rw [prC_len zeroIdIn]; have := H_husl.out; omega)
        have h2 : (prC ba nb bc da nb dc (List.replicate 32 0) false).take 2 ++ us ++ (prC ba nb bc da nb dc (List.replicate 32 0) false).drop (2 + us.length) = prC ba nb bc da nb dc x false := by
          rw [H_husl.out, H_hus.out]
          unfold prC
          rw [show (2 : Nat) + 32 = 34 from rfl]
          simp only [List.take_succ_cons, List.take_zero, List.drop_succ_cons]
          rw [List.drop_append, List.drop_of_length_le (by rw [idC_len zeroIdIn]; omega), idC_len zeroIdIn]
          rfl
        rw [h2] at h1
        exact h1
      have hbs : Below w.heap.size w (wr.setCells pb 2 us) := below_setCells (by omega) _ _ _ hW.bel
      have hL0 : LastC w w.heap.size pb (pb + 1) (prC ba nb bc da nb dc x false) ids ba nb bc (bits.map (Value.int .u8)) da dc (idsC bes) (wr.setCells pb 2 us) := ⟨hbs, hPp, hW.d.setCellsFar (by omega) _ _ _, ⟨_, hW.r.setCellsFar (by omega) _ _ _, prC_len zeroIdIn⟩, OwnX.setCellsFar (w := wr) (fun e => by have := (hW.a.lt _ e).1; omega) _ _ _ hW.a, OwnX.setCellsFar (w := wr) (fun e => by have := (hW.b.lt _ e).1; omega) _ _ _ hW.b⟩
      have hL1 := hL0.later hc11
      have hrr : (wr.setCells pb 2 us).rangeAt b1 of1 us := World.rangeAt_setCells_apart hr0 pb 2 us (.inl (hW.ad _ rfl).1)
      have hb1r : b1 ≠ w.heap.size + 1 := (hW.ad _ rfl).2.1
      have hrr1 := rangeAt_later hrr hc11
      obtain ⟨C, hCd⟩ : ∃ C : World → Prop, ∀ v, C v ↔ (LastC w w.heap.size pb (pb + 1) (prC ba nb bc da nb dc x false) ids ba nb bc (bits.map (Value.int .u8)) da dc (idsC bes) v ∧ v.rangeAt b1 of1 us) := ⟨_, fun _ => Iff.rfl⟩
      obtain ⟨PV, hPV⟩ : ∃ PV, PV = prC ba nb bc da nb dc x false := ⟨_, rfl⟩
      have hPVl : PV.length = 35 := by rw [hPV, prC_len H_hx.out]
      have hPVi : (Tryd.prog.info? 41).map (·.size) = some PV.length := by rw [hPVl]; exact info35
      have hPV1 : ∀ u ∈ PV, u.oneCell' = true := by rw [hPV]; exact prC_one _ _ _ _ _ _ _ _
      refine Rel.wp_region_rel C [(6, fun u v => v = u.setCells (w.heap.size + 1) 0 PV)] [(6, [], fun _ _ v => Blk v (w.heap.size + 1) 41 PV)] [(6, [])] (by kernel_rfl) (by kernel_rfl) rfl (by kernel_rfl) ⟨⟨fun _ _ _ _ h hb => h.later hb, fun h => absurd rfl h, trivial⟩, trivial⟩ ((hCd _).2 ⟨hL1.later (Below.drew (Below.refl _ _)), rangeAt_drew hrr1⟩) ?_
      haveI hinh : Nonempty (Rel.WIn C) := ⟨⟨w11, (hCd _).2 ⟨hL1, hrr1⟩⟩⟩
      have hpP : ∀ p : Rel.WIn C, (Rel.wOf p).rangeAt pb 0 PV := fun p => by rw [hPV]; exact ((hCd _).1 (Rel.wOf_in p)).1.p.rangeAt
      have hpX : ∀ p : Rel.WIn C, (Rel.wOf p).rangeAt b1 of1 us := fun p => ((hCd _).1 (Rel.wOf_in p)).2
      have hpI : ∀ p : Rel.WIn C, (Rel.wOf p).rangeAt w.heap.size 0 ids := fun p => ((hCd _).1 (Rel.wOf_in p)).1.d.rangeAt
      have H_hPp := Box.mk hPp
      have H_hbs := Box.mk hbs
      have H_hL0 := Box.mk hL0
      have H_hL1 := Box.mk hL1
      have H_hCd := Box.mk hCd
      have H_hPV := Box.mk hPV
      have H_hPVl := Box.mk hPVl
      have H_hPVi := Box.mk hPVi
      have H_hPV1 := Box.mk hPV1
      have H_hpP := Box.mk hpP
      have H_hpX := Box.mk hpX
      have H_hpI := Box.mk hpI
      have H_hrr := Box.mk hrr
      have H_hrr1 := Box.mk hrr1
      clear hPp hbs hL0 hL1 hCd hPV hPVl hPVi hPV1 hpP hpX hpI hrr hrr1
      clear hc11
      refine Rel.wpSpec_quiet 6 (by kernel_rfl) (by kernel_rfl) ?_
      simp only [List.take_succ_cons, List.take_zero, List.drop_succ_cons, List.drop_zero]
      repeat (first | (refine wpQuiet_load_midC (by first | rfl | (simp [Region.wanted]; done)) 41 _ rfl pb 0 (by rfl) PV _ H_hpP.out Tryd.underlying41 rfl H_hPVi.out ?_; simp only [Act.put, List.setIfInBounds_toArray, List.set_cons_succ, List.set_cons_zero]) | (refine wpQuiet_load_midC (by first | rfl | (simp [Region.wanted]; done)) 24 _ rfl b1 of1 (by rfl) us _ H_hpX.out Tryd.underlying24 rfl H_husi.out ?_; simp only [Act.put, List.setIfInBounds_toArray, List.set_cons_succ, List.set_cons_zero]) | (refine wpQuiet_load_midC (by first | rfl | (simp [Region.wanted]; done)) 24 _ rfl w.heap.size 0 (by rfl) ids _ H_hpI.out Tryd.underlying24 rfl H_hidsi.out ?_; simp only [Act.put, List.setIfInBounds_toArray, List.set_cons_succ, List.set_cons_zero]) | (go_big_quiet_step (fail)))
      refine wpQuiet_nil ?_
      show Rel.wpSpec _ _ _ _ _ _ _ _ _ _ _
      refine Rel.wpSpec_atR [] (fun _ v => Blk v (w.heap.size + 1) 41 PV) (fun u v => v = u.setCells (w.heap.size + 1) 0 PV) rfl (by first | rfl | (simp [viewS, Act.eval]; done)) rfl (by first | rfl | (simp [Region.wanted]; done)) ?_ rfl ?_
      · intro wq hq hfq
        clear hfq
        have hG0 := (H_hCd.out _).1 hq
        have hG := hG0.1
        obtain ⟨h1, h2⟩ := hG.put (Nat.le_refl _) hpl (by omega) PV H_hPVl.out
        obtain ⟨cs, k1, k2⟩ := hG.r
        exact gives_store_blk 41 _ _ rfl (w.heap.size + 1) (by rfl) 41 cs PV (by rfl) k1 (by rw [H_hPVl.out, k2]) H_hPVi.out H_hPV1.out fun _ => ⟨(H_hCd.out _).2 ⟨h1, World.rangeAt_setCells_apart hG0.2 _ _ _ (.inl hb1r)⟩, rfl, h2⟩
      rintro x6 -
      simp only [Act.put, List.setIfInBounds_toArray, List.set_cons_succ, List.set_cons_zero]
      refine Rel.wpSpec_quiet 2 (by kernel_rfl) (by kernel_rfl) ?_
      simp only [List.take_succ_cons, List.take_zero, List.drop_succ_cons, List.drop_zero]
      repeat (go_big_quiet_step (fail))
      refine wpQuiet_nil ?_
      show Rel.wpSpec _ _ _ _ _ _ _ _ _ _ _
      intro w18 hq18 hfq
      have f5 := hfq 6
      simp only [upd, Nat.beq, cond] at f5
      clear hfq
      have hG := ((H_hCd.out _).1 hq18).1
      clear hq18
      go_wp2_with fail
      refine bodyPost_ret (results_blk3 (by rfl) _ _ (w.heap.size + 1) 41 _ _ (.bool is) (.int .i64 0) rfl rfl rfl f5 Tryd.underlying41 rfl H_hPVi.out) rfl ⟨⟨ba, bc, da, dc, ?_, ?_⟩, hG.bel⟩
      · rw [H_hPV.out, ← H_his.out, H_hAe.out]
        simp [ProofA.behind, hF.lb, hF.ld]
      · rw [H_hAe.out]
        refine ⟨?_, ?_⟩
        · simp [ProofA.behind]; exact hG.a.cellsAt
        · have := hG.b.idsIn hF.ld.symm hF.ids
          simp [ProofA.behind]; exact this
    · have hs := (hF.inc.split (by have := hF.hn; have := hF.pos; omega)).1
      have hC := hF.inc.cutF (by have := hF.hn; have := hF.pos; omega)
      obtain ⟨z, hz⟩ : ∃ z, zerosL l' (splitN l') = z := ⟨_, rfl⟩
      obtain ⟨o, ho⟩ : ∃ o, onesL l' (splitN l') = o := ⟨_, rfl⟩
      obtain ⟨N, hNN⟩ : ∃ N, splitN l' = N := ⟨_, rfl⟩
      rw [hz, ho, hNN] at hC
      rw [hNN] at hs
      have hpr := provP_two hC hNN id
      obtain ⟨hN, cat, ez, eo, zl, ol, sum, iz, io, ap, root⟩ := hC
      have hn' := hF.hn
      have hpos := hF.pos
      have hsum := hF.sum
      have hsp := fun W (hI : IdsIn W a' c' l') => rsplit_any l' a' n' c' N W hI hn' (by omega) hs
      have hbit := fun W => rbit_any id N W H_hid.out hN
      rw [← H_hids.out] at hbit
      have hn2 : (1 : Int) < (n' : Int) := by omega
      have hnN : 1 < n' := by omega
      have hNI : (N : Int) < 256 := by omega
      have hnb : nb ≤ 60 := by omega
      have hrz := rof_ok z.length z (Nat.le_refl _) (by omega) iz
      have hro := rof_ok o.length o (Nat.le_refl _) (by omega) io
      have hcz' := fun W (hI : IdsIn W a' c' l') => rcut_any l' a' n' c' N false W hI hn' (by omega) hN
      have hco' := fun W (hI : IdsIn W a' c' l') => rcut_any l' a' n' c' N true W hI hn' (by omega) hN
      rw [cutL_zeros, ez] at hcz'
      rw [cutL_ones, eo] at hco'
      unfold ROfOk at hrz hro
      have hWb := hW.bel
      cases hbb : bitB id N with
      | true =>
        rw [hbb] at hpr
        simp only [hbb] at hbit
        rw [if_pos rfl] at hpr
        obtain ⟨ds, hds⟩ : ∃ v, v = idC (rootP z) := ⟨_, rfl⟩
        have hdsl := idC_len (rootP_id z)
        have hdsi := idC_info (rootP_id z)
        have hdso := idC_one (rootP z)
        rw [← hds] at hdsl hdsi hdso
        have hdsr : ds.length = (List.replicate 32 (Value.int .u8 0)).length := by rw [hdsl]; rfl
        simp only [← hds] at hrz
        have H_hds := Box.mk hds
        have H_hdsl := Box.mk hdsl
        have H_hdsi := Box.mk hdsi
        have H_hdso := Box.mk hdso
        have H_hdsr := Box.mk hdsr
        have H_hsp := Box.mk hsp
        have H_hbit := Box.mk hbit
        have H_hrz := Box.mk hrz
        have H_hro := Box.mk hro
        have H_hn' := Box.mk hn'
        have H_hpos := Box.mk hpos
        have H_hsum := Box.mk hsum
        have H_cat := Box.mk cat
        have H_ez := Box.mk ez
        have H_eo := Box.mk eo
        have H_zl := Box.mk zl
        have H_ol := Box.mk ol
        have H_sum := Box.mk sum
        have H_iz := Box.mk iz
        have H_io := Box.mk io
        have H_ap := Box.mk ap
        have H_root := Box.mk root
        have H_hpr := Box.mk hpr
        have H_hz := Box.mk hz
        have H_ho := Box.mk ho
        have H_hNN := Box.mk hNN
        have H_hbb := Box.mk hbb
        have H_hs := Box.mk hs
        have H_hcz' := Box.mk hcz'
        have H_hco' := Box.mk hco'
        clear hds hdsl hdsi hdso hdsr hsp hbit hrz hro hn' hpos hsum cat ez eo zl ol sum iz io ap root hpr hz ho hNN hbb hs hcz' hco'
        clear h1
        go_wp2_with fail
        with_reducible refine (H_hsp.out _ hW.l).mono ?_
        rintro e w11 ⟨rfl, hc11⟩
        have hW := hW.later hc11
        have hb11 : Below w.heap.size w w11 := bchain (by repeat' (first | with_reducible exact hWb | with_reducible refine Below.drew ?_ | with_reducible refine below_drewN ?_ _ | with_reducible refine Below.alloc ?_ (by have := hWb.size; first | (simp; done) | (simp; omega) | omega) _ | with_reducible refine Below.setCell ?_ (by first | (simp; done) | (simp; omega) | omega) _)) hc11
        clear hc11
        have P_0 := hW.p.cell (j := 0) rfl
        have P_f0 := hW.p.free 0
        go_wp2_with (at_builtin; refine stop ?_)
        refine Stop.go ?_
        refine wpList_append_x _ rfl _ _ 39 rfl (pb + 1) 5 i0 (.int .u8 0) 1 1 Tryd.underlying39 H_hif.out H_hz0.out H_hz1.out H_hz2.out rfl (by decide) (.slice ba nb bc) nb _ rfl (hW.a.alloc _) (some ⟨w11.heap.size, 0, none⟩) 1 1 [.int .u8 N] rfl rfl (cellsAt_one w11 _ _) (oneCell_int _ _) (by unfold maxLen; omega) (by omega) (by have := hW.size; simp; omega) ?_
        intro a5 c5 w5 o5 hg5 hk5
        have hWa := hW.later ((Below.refl w11.heap.size w11).alloc (Nat.le_refl _) (.cells #[.int .u8 N] 5))
        have hp5 := (hWa.p.grown hg5 fun e => by have := (hWa.a.lt _ e).1; omega).cell (j := 0) rfl
        have hf5 := (hWa.p.grown hg5 fun e => by have := (hWa.a.lt _ e).1; omega).free 0
        have hWs := hWa.appA hpw (Nat.lt_succ_self _) o5 hg5 fun k hk => (hk5 k hk).imp (fun e => e) fun e => by rw [e]; exact Nat.le_refl _
        clear hW hWa o5 hg5 hk5 P_0 P_f0
        go_wp2_with fail
        refine wp_gen fun w17 hc17 => ?_
        have hW := hWs.later hc17
        have hb17 := hW.bel
        clear hWs hc17 hp5 hf5 hb11
        obtain ⟨PV, hPV⟩ : ∃ PV, PV = prC a5 (nb + 1) c5 da nb dc (List.replicate 32 0) false := ⟨_, rfl⟩
        have hWp := hW.p
        rw [← hPV] at hWp
        have hBs := hW.size
        have hlb : ∀ k, (Value.slice da nb dc).ownBlock = some k → k < w17.heap.size := fun k hk => (hW.b.lt k hk).2
        obtain ⟨C, hCd⟩ : ∃ C : World → Prop, ∀ v, C v ↔ RGrowC w17 (pb + 1) pb w.heap.size PV ids a5 (nb + 1) c5 ((bits ++ [(N : Int)]).map (Value.int .u8)) da nb dc (idsC bes) a' c' l' v := ⟨_, fun _ => Iff.rfl⟩
        have hC0 : RGrowC w17 (pb + 1) pb w.heap.size PV ids a5 (nb + 1) c5 ((bits ++ [(N : Int)]).map (Value.int .u8)) da nb dc (idsC bes) a' c' l' w17 := ⟨Below.refl _ _, Nat.le_refl _, hWp, hW.d, hW.a, hW.b, hW.l⟩
        have hpI : ∀ p : Rel.WIn C, (Rel.wOf p).rangeAt w.heap.size 0 ids := fun p => ((hCd _).1 (Rel.wOf_in p)).d.rangeAt
        have hp1 : ∀ p : Rel.WIn C, (Rel.wOf p).cell? ⟨pb, 1, none⟩ = some (.slice da nb dc) := fun p => ((hCd _).1 (Rel.wOf_in p)).p.cell (by rw [hPV]; rfl)
        refine Rel.wp_region_rel_tail C [(11, fun u v => u.grownBy v (Value.slice da nb dc).ownBlock)]
          [(6, [], fun _ => VIs (.bool true)), (8, [], fun _ => VFarI w17.heap.size z), (9, [], fun _ => VIs (.agg ds.toArray)), (10, [], fun _ => VFar w17.heap.size 1 ds), (11, [], fun _ => VRowE (pb + 1) 24 32 (nb + 1) (idsC bes ++ ds) (Value.slice da nb dc).ownBlock w17.heap.size)]
          [(6, []), (8, []), (9, []), (10, []), (11, [])] 12 (by kernel_rfl) (by kernel_rfl) rfl (by kernel_rfl) ⟨⟨fun _ => vis_last, ⟨fun _ _ => vis_grown, trivial⟩⟩, ⟨fun _ => VFarI.last, ⟨fun _ _ => VFarI.grown hlb, trivial⟩⟩, ⟨fun _ => vis_last, ⟨fun _ _ => vis_grown, trivial⟩⟩, ⟨fun _ => VFar.last, ⟨fun _ _ => VFar.grown hlb, trivial⟩⟩, ⟨fun _ => VRowE.last, ⟨fun h => absurd rfl h, trivial⟩⟩, trivial⟩ ((hCd _).2 (hC0.later hBs (Below.drew (Below.refl _ _)))) ?_
        simp only [List.take_succ_cons, List.take_zero, List.drop_succ_cons, List.drop_zero]
        haveI hinh : Nonempty (Rel.WIn C) := ⟨⟨w17, (hCd _).2 hC0⟩⟩
        have H_hC0 := Box.mk hC0
        have H_hCd := Box.mk hCd
        have H_hpI := Box.mk hpI
        have H_hlb := Box.mk hlb
        have H_hPV := Box.mk hPV
        have H_hWp := Box.mk hWp
        clear hC0 hCd hpI hlb hPV hWp
        refine Rel.wpSpec_quiet 6 (by kernel_rfl) (by kernel_rfl) ?_
        simp only [List.take_succ_cons, List.take_zero, List.drop_succ_cons, List.drop_zero]
        repeat (first | (refine wpQuiet_load_midC (by first | rfl | (simp [Region.wanted]; done)) 24 _ rfl w.heap.size 0 (by rfl) ids _ H_hpI.out Tryd.underlying24 rfl H_hidsi.out ?_; simp only [Act.put, List.setIfInBounds_toArray, List.set_cons_succ, List.set_cons_zero]) | (go_big_quiet_step (fail)))
        refine wpQuiet_nil ?_
        show Rel.wpSpec _ _ _ _ _ _ _ _ _ _ _
        refine Rel.wpSpec_atR [] (VIs (.bool true)) Rel.LateR rfl (by first | rfl | (simp [viewS, Act.eval]; done)) rfl (by first | rfl | (simp [Region.wanted]; done)) ?_ rfl ?_
        · intro wq hq hfq
          clear hfq
          have hG := (H_hCd.out _).1 hq
          refine gives_call 31 _ _ #[.agg ids.toArray, .int .i64 N] rfl (by kernel_rfl) (by simp [Act.eval]) ((H_hbit.out _).mono ?_)
          rintro e w' ⟨rfl, hb⟩
          exact ⟨_, rfl, (H_hCd.out _).2 (hG.later hBs hb), hb, rfl⟩
        rintro x6 ⟨_, ⟨rfl⟩⟩
        simp only [Act.put, List.setIfInBounds_toArray, List.set_cons_succ, List.set_cons_zero]
        refine Rel.wpSpec_quiet 1 (by kernel_rfl) (by kernel_rfl) ?_
        simp only [List.take_succ_cons, List.take_zero, List.drop_succ_cons, List.drop_zero]
        repeat (go_big_quiet_step (fail))
        refine wpQuiet_nil ?_
        show Rel.wpSpec _ _ _ _ _ _ _ _ _ _ _
        refine Rel.wpSpec_atR [] (VFarI w17.heap.size z) Rel.LateR rfl (by first | rfl | (simp [viewS, Act.eval]; done)) rfl (by first | rfl | (simp [Region.wanted]; done)) ?_ rfl ?_
        · intro wq hq hfq
          clear hfq
          have hG := (H_hCd.out _).1 hq
          refine gives_call 38 _ _ #[.slice a' n' c', .int .i64 N, .bool false] rfl (by kernel_rfl) (by simp [Act.eval]) ((H_hcz'.out _ hG.l).mono ?_)
          rintro e w' ⟨⟨a', c', rfl, ho⟩, hb⟩
          exact ⟨_, rfl, (H_hCd.out _).2 (hG.later hBs hb), hb, a', c', rfl, ho.idsIn rfl H_iz.out.ids, fun ad e => Nat.le_trans hG.size (ho.addr ad e).1⟩
        rintro x8 ⟨_, ⟨a8, c8, rfl, _⟩⟩
        simp only [Act.put, List.setIfInBounds_toArray, List.set_cons_succ, List.set_cons_zero]
        refine Rel.wpSpec_atR [] (VIs (.agg ds.toArray)) Rel.LateR rfl (by first | rfl | (simp [viewS, Act.eval]; done)) rfl (by first | rfl | (simp [Region.wanted]; done)) ?_ rfl ?_
        · intro wq hq hfq
          have f8 := hfq 8 (by kernel_rfl)
          simp only [upd, Nat.beq, cond] at f8
          clear hfq
          obtain ⟨a8', c8', e8, k8, l8⟩ := f8
          cases e8
          have hG := (H_hCd.out _).1 hq
          refine gives_call 33 _ _ #[.slice a8 z.length c8] rfl (by kernel_rfl) (by simp [Act.eval]) ((H_hrz.out _ _ _ k8).mono ?_)
          rintro e w' ⟨rfl, hb⟩
          exact ⟨_, rfl, (H_hCd.out _).2 (hG.later hBs hb), hb, rfl⟩
        rintro x9 ⟨_, ⟨rfl⟩⟩
        simp only [Act.put, List.setIfInBounds_toArray, List.set_cons_succ, List.set_cons_zero]
        refine Rel.wpSpec_atR [] (VFar w17.heap.size 1 ds) Rel.LateR rfl (by first | rfl | (simp [viewS, Act.eval]; done)) rfl (by first | rfl | (simp [Region.wanted]; done)) ?_ rfl ?_
        · intro wq hq hfq
          clear hfq
          have hG := (H_hCd.out _).1 hq
          refine gives_build_id _ rfl ds (by rfl) H_hdsl.out ?_
          exact ⟨(H_hCd.out _).2 (hG.later hBs ((Below.refl _ _).alloc (Nat.le_refl _) _)), (Below.refl _ _).alloc (Nat.le_refl _) _, _, _, rfl, Blk.cellsRow (Blk.newA wq _ _ _ ds rfl rfl), fun ad e => by cases e; exact hG.size⟩
        rintro x10 ⟨_, ⟨a10, c10, rfl, _⟩⟩
        simp only [Act.put, List.setIfInBounds_toArray, List.set_cons_succ, List.set_cons_zero]
        refine Rel.wpSpec_atR [] (VRowE (pb + 1) 24 32 (nb + 1) (idsC bes ++ ds) (Value.slice da nb dc).ownBlock w17.heap.size) (fun u v => u.grownBy v (Value.slice da nb dc).ownBlock) rfl (by first | rfl | (simp [viewS, Act.eval]; done)) rfl (by first | rfl | (simp [Region.wanted]; done)) ?_ rfl ?_
        · intro wq hq hfq
          have f9 := hfq 10 (by kernel_rfl)
          simp only [upd, Nat.beq, cond] at f9
          clear hfq
          obtain ⟨a9', c9', e9, k9, l9⟩ := f9
          cases e9
          have hG := (H_hCd.out _).1 hq
          obtain ⟨a', c', w', hr, h2, h3, h4, h5⟩ := run_append_y (P := Tryd.prog) wq (pb + 1) 22 22 24 j0 _ 32 32 Tryd.underlying22 H_jif.out H_jz0.out H_jz1.out H_jz2.out oneCell_idz (by decide) (.slice da nb dc) nb _ hG.b a10 1 c10 ds (by rw [H_hdsl.out]) k9 H_hdso.out (by unfold maxLen; omega) (by omega) (Nat.le_trans hBs hG.size)
          exact gives_append _ _ _ _ rfl _ _ rfl rfl ⟨_, _, hr, (H_hCd.out _).2 (hG.app hBs (Nat.lt_succ_self _) (by omega) h3 h5 fun x hx => (hW.ad x hx).2.2.2), h3, _, _, rfl, h2, fun k hk => (h4 k hk).imp (fun e => e) fun e => by rw [e]; exact hG.size⟩
        rintro x11 ⟨_, ⟨a11, c11, rfl, _⟩⟩
        simp only [Act.put, List.setIfInBounds_toArray, List.set_cons_succ, List.set_cons_zero]
        show Rel.wpSpec _ _ _ _ _ _ _ _ _ _ _
        intro w18 hq18 hfq
        have f11 := hfq 11
        simp only [upd, Nat.beq, cond] at f11
        clear hfq hp1
        obtain ⟨a11', c11', e11, o11, l11⟩ := f11
        cases e11
        have hG := (H_hCd.out _).1 hq18
        rw [H_hds.out] at o11
        have hWs := hW.appB hpw (Nat.lt_succ_self _) H_hPV.out hG o11 l11
        have P_1 := hG.p.cell (j := 1) (v := .slice da nb dc) (by rw [H_hPV.out]; rfl)
        have P_f1 := hG.p.free 1
        clear hq18 hG o11 l11 hW
        go_wp2_with (refine wpList_load_blk rfl 24 _ rfl w.heap.size (by rfl) 24 ids _ hWs.d Tryd.underlying24 rfl H_hidsi.out ?_)
        with_reducible refine (H_hbit.out _).mono ?_
        rintro e w19 ⟨rfl, hc19⟩
        have hW := hWs.later hc19
        clear hc19 hWs P_1 P_f1
        go_wp2_with fail
        with_reducible refine (H_hco'.out _ hW.l).mono ?_
        rintro e w20 ⟨⟨a20, c20, rfl, ho20⟩, hc20⟩
        have hal20 := hW.a.lt
        have hbl20 := hW.b.lt
        have hpl20 := hW.p.lt
        have hrl20 := hW.r.lt
        have hW := hW.later hc20
        clear hc20
        go_wp2_with fail
        go_roundw
        case rel =>
          refine ⟨a20, o.length, c20, o, bits ++ [(N : Int)], bes ++ [rootP z], a5, nb + 1, c5, a11, c11, rfl, ?_, ?_⟩
          · refine ⟨H_io.out, rfl, H_ol.out, by rw [List.length_append, hF.lb]; rfl, by rw [List.length_append, hF.ld]; rfl, ?_, ?_, ?_⟩
            · have := H_sum.out; have := H_zl.out; have := H_hsum.out; have := H_hn'.out; omega
            · rw [hF.eq, H_hpr.out]
              exact behind_cons _ _ _ _ _ _ (provP_empty H_io.out H_ol.out _)
            · intro x hx
              rcases List.mem_append.1 hx with h | h
              · exact hF.ids x h
              · simp at h; subst h; exact rootP_id _
          · exact ⟨hW.bel, hW.size, ho20.idsIn rfl H_io.out.ids, fun x hx => (ho20.addr x hx).2, fun x hx => by have := (ho20.addr x hx).1; exact ⟨by omega, by omega, fun k hk => by have := (hal20 k hk).2; omega, fun k hk => by have := (hbl20 k hk).2; omega⟩, hW.p, hW.d, hW.r, hW.a, hW.b⟩
        case measure => have := H_sum.out; have := H_zl.out; have := H_hn'.out; simp; omega
      | false =>
        rw [hbb] at hpr
        simp only [hbb] at hbit
        rw [if_neg (by decide)] at hpr
        obtain ⟨ds, hds⟩ : ∃ v, v = idC (rootP o) := ⟨_, rfl⟩
        have hdsl := idC_len (rootP_id o)
        have hdsi := idC_info (rootP_id o)
        have hdso := idC_one (rootP o)
        rw [← hds] at hdsl hdsi hdso
        have hdsr : ds.length = (List.replicate 32 (Value.int .u8 0)).length := by rw [hdsl]; rfl
        simp only [← hds] at hro
        have H_hds := Box.mk hds
        have H_hdsl := Box.mk hdsl
        have H_hdsi := Box.mk hdsi
        have H_hdso := Box.mk hdso
        have H_hdsr := Box.mk hdsr
        have H_hsp := Box.mk hsp
        have H_hbit := Box.mk hbit
        have H_hrz := Box.mk hrz
        have H_hro := Box.mk hro
        have H_hn' := Box.mk hn'
        have H_hpos := Box.mk hpos
        have H_hsum := Box.mk hsum
        have H_cat := Box.mk cat
        have H_ez := Box.mk ez
        have H_eo := Box.mk eo
        have H_zl := Box.mk zl
        have H_ol := Box.mk ol
        have H_sum := Box.mk sum
        have H_iz := Box.mk iz
        have H_io := Box.mk io
        have H_ap := Box.mk ap
        have H_root := Box.mk root
        have H_hpr := Box.mk hpr
        have H_hz := Box.mk hz
        have H_ho := Box.mk ho
        have H_hNN := Box.mk hNN
        have H_hbb := Box.mk hbb
        have H_hs := Box.mk hs
        have H_hcz' := Box.mk hcz'
        have H_hco' := Box.mk hco'
        clear hds hdsl hdsi hdso hdsr hsp hbit hrz hro hn' hpos hsum cat ez eo zl ol sum iz io ap root hpr hz ho hNN hbb hs hcz' hco'
        clear h1
        go_wp2_with fail
        with_reducible refine (H_hsp.out _ hW.l).mono ?_
        rintro e w11 ⟨rfl, hc11⟩
        have hW := hW.later hc11
        have hb11 : Below w.heap.size w w11 := bchain (by repeat' (first | with_reducible exact hWb | with_reducible refine Below.drew ?_ | with_reducible refine below_drewN ?_ _ | with_reducible refine Below.alloc ?_ (by have := hWb.size; first | (simp; done) | (simp; omega) | omega) _ | with_reducible refine Below.setCell ?_ (by first | (simp; done) | (simp; omega) | omega) _)) hc11
        clear hc11
        have P_0 := hW.p.cell (j := 0) rfl
        have P_f0 := hW.p.free 0
        go_wp2_with (at_builtin; refine stop ?_)
        refine Stop.go ?_
        refine wpList_append_x _ rfl _ _ 39 rfl (pb + 1) 5 i0 (.int .u8 0) 1 1 Tryd.underlying39 H_hif.out H_hz0.out H_hz1.out H_hz2.out rfl (by decide) (.slice ba nb bc) nb _ rfl (hW.a.alloc _) (some ⟨w11.heap.size, 0, none⟩) 1 1 [.int .u8 N] rfl rfl (cellsAt_one w11 _ _) (oneCell_int _ _) (by unfold maxLen; omega) (by omega) (by have := hW.size; simp; omega) ?_
        intro a5 c5 w5 o5 hg5 hk5
        have hWa := hW.later ((Below.refl w11.heap.size w11).alloc (Nat.le_refl _) (.cells #[.int .u8 N] 5))
        have hp5 := (hWa.p.grown hg5 fun e => by have := (hWa.a.lt _ e).1; omega).cell (j := 0) rfl
        have hf5 := (hWa.p.grown hg5 fun e => by have := (hWa.a.lt _ e).1; omega).free 0
        have hWs := hWa.appA hpw (Nat.lt_succ_self _) o5 hg5 fun k hk => (hk5 k hk).imp (fun e => e) fun e => by rw [e]; exact Nat.le_refl _
        clear hW hWa o5 hg5 hk5 P_0 P_f0
        go_wp2_with fail
        refine wp_gen fun w17 hc17 => ?_
        have hW := hWs.later hc17
        have hb17 := hW.bel
        clear hWs hc17 hp5 hf5 hb11
        obtain ⟨PV, hPV⟩ : ∃ PV, PV = prC a5 (nb + 1) c5 da nb dc (List.replicate 32 0) false := ⟨_, rfl⟩
        have hWp := hW.p
        rw [← hPV] at hWp
        have hBs := hW.size
        have hlb : ∀ k, (Value.slice da nb dc).ownBlock = some k → k < w17.heap.size := fun k hk => (hW.b.lt k hk).2
        obtain ⟨C, hCd⟩ : ∃ C : World → Prop, ∀ v, C v ↔ RGrowC w17 (pb + 1) pb w.heap.size PV ids a5 (nb + 1) c5 ((bits ++ [(N : Int)]).map (Value.int .u8)) da nb dc (idsC bes) a' c' l' v := ⟨_, fun _ => Iff.rfl⟩
        have hC0 : RGrowC w17 (pb + 1) pb w.heap.size PV ids a5 (nb + 1) c5 ((bits ++ [(N : Int)]).map (Value.int .u8)) da nb dc (idsC bes) a' c' l' w17 := ⟨Below.refl _ _, Nat.le_refl _, hWp, hW.d, hW.a, hW.b, hW.l⟩
        have hpI : ∀ p : Rel.WIn C, (Rel.wOf p).rangeAt w.heap.size 0 ids := fun p => ((hCd _).1 (Rel.wOf_in p)).d.rangeAt
        have hp1 : ∀ p : Rel.WIn C, (Rel.wOf p).cell? ⟨pb, 1, none⟩ = some (.slice da nb dc) := fun p => ((hCd _).1 (Rel.wOf_in p)).p.cell (by rw [hPV]; rfl)
        refine Rel.wp_region_rel_tail C [(11, fun u v => u.grownBy v (Value.slice da nb dc).ownBlock)]
          [(6, [], fun _ => VIs (.bool false)), (8, [], fun _ => VFarI w17.heap.size o), (9, [], fun _ => VIs (.agg ds.toArray)), (10, [], fun _ => VFar w17.heap.size 1 ds), (11, [], fun _ => VRowE (pb + 1) 24 32 (nb + 1) (idsC bes ++ ds) (Value.slice da nb dc).ownBlock w17.heap.size)]
          [(6, []), (8, []), (9, []), (10, []), (11, [])] 12 (by kernel_rfl) (by kernel_rfl) rfl (by kernel_rfl) ⟨⟨fun _ => vis_last, ⟨fun _ _ => vis_grown, trivial⟩⟩, ⟨fun _ => VFarI.last, ⟨fun _ _ => VFarI.grown hlb, trivial⟩⟩, ⟨fun _ => vis_last, ⟨fun _ _ => vis_grown, trivial⟩⟩, ⟨fun _ => VFar.last, ⟨fun _ _ => VFar.grown hlb, trivial⟩⟩, ⟨fun _ => VRowE.last, ⟨fun h => absurd rfl h, trivial⟩⟩, trivial⟩ ((hCd _).2 (hC0.later hBs (Below.drew (Below.refl _ _)))) ?_
        simp only [List.take_succ_cons, List.take_zero, List.drop_succ_cons, List.drop_zero]
        haveI hinh : Nonempty (Rel.WIn C) := ⟨⟨w17, (hCd _).2 hC0⟩⟩
        have H_hC0 := Box.mk hC0
        have H_hCd := Box.mk hCd
        have H_hpI := Box.mk hpI
        have H_hlb := Box.mk hlb
        have H_hPV := Box.mk hPV
        have H_hWp := Box.mk hWp
        clear hC0 hCd hpI hlb hPV hWp
        refine Rel.wpSpec_quiet 6 (by kernel_rfl) (by kernel_rfl) ?_
        simp only [List.take_succ_cons, List.take_zero, List.drop_succ_cons, List.drop_zero]
        repeat (first | (refine wpQuiet_load_midC (by first | rfl | (simp [Region.wanted]; done)) 24 _ rfl w.heap.size 0 (by rfl) ids _ H_hpI.out Tryd.underlying24 rfl H_hidsi.out ?_; simp only [Act.put, List.setIfInBounds_toArray, List.set_cons_succ, List.set_cons_zero]) | (go_big_quiet_step (fail)))
        refine wpQuiet_nil ?_
        show Rel.wpSpec _ _ _ _ _ _ _ _ _ _ _
        refine Rel.wpSpec_atR [] (VIs (.bool false)) Rel.LateR rfl (by first | rfl | (simp [viewS, Act.eval]; done)) rfl (by first | rfl | (simp [Region.wanted]; done)) ?_ rfl ?_
        · intro wq hq hfq
          clear hfq
          have hG := (H_hCd.out _).1 hq
          refine gives_call 31 _ _ #[.agg ids.toArray, .int .i64 N] rfl (by kernel_rfl) (by simp [Act.eval]) ((H_hbit.out _).mono ?_)
          rintro e w' ⟨rfl, hb⟩
          exact ⟨_, rfl, (H_hCd.out _).2 (hG.later hBs hb), hb, rfl⟩
        rintro x6 ⟨_, ⟨rfl⟩⟩
        simp only [Act.put, List.setIfInBounds_toArray, List.set_cons_succ, List.set_cons_zero]
        refine Rel.wpSpec_quiet 1 (by kernel_rfl) (by kernel_rfl) ?_
        simp only [List.take_succ_cons, List.take_zero, List.drop_succ_cons, List.drop_zero]
        repeat (go_big_quiet_step (fail))
        refine wpQuiet_nil ?_
        show Rel.wpSpec _ _ _ _ _ _ _ _ _ _ _
        refine Rel.wpSpec_atR [] (VFarI w17.heap.size o) Rel.LateR rfl (by first | rfl | (simp [viewS, Act.eval]; done)) rfl (by first | rfl | (simp [Region.wanted]; done)) ?_ rfl ?_
        · intro wq hq hfq
          clear hfq
          have hG := (H_hCd.out _).1 hq
          refine gives_call 38 _ _ #[.slice a' n' c', .int .i64 N, .bool true] rfl (by kernel_rfl) (by simp [Act.eval]) ((H_hco'.out _ hG.l).mono ?_)
          rintro e w' ⟨⟨a', c', rfl, ho⟩, hb⟩
          exact ⟨_, rfl, (H_hCd.out _).2 (hG.later hBs hb), hb, a', c', rfl, ho.idsIn rfl H_io.out.ids, fun ad e => Nat.le_trans hG.size (ho.addr ad e).1⟩
        rintro x8 ⟨_, ⟨a8, c8, rfl, _⟩⟩
        simp only [Act.put, List.setIfInBounds_toArray, List.set_cons_succ, List.set_cons_zero]
        refine Rel.wpSpec_atR [] (VIs (.agg ds.toArray)) Rel.LateR rfl (by first | rfl | (simp [viewS, Act.eval]; done)) rfl (by first | rfl | (simp [Region.wanted]; done)) ?_ rfl ?_
        · intro wq hq hfq
          have f8 := hfq 8 (by kernel_rfl)
          simp only [upd, Nat.beq, cond] at f8
          clear hfq
          obtain ⟨a8', c8', e8, k8, l8⟩ := f8
          cases e8
          have hG := (H_hCd.out _).1 hq
          refine gives_call 33 _ _ #[.slice a8 o.length c8] rfl (by kernel_rfl) (by simp [Act.eval]) ((H_hro.out _ _ _ k8).mono ?_)
          rintro e w' ⟨rfl, hb⟩
          exact ⟨_, rfl, (H_hCd.out _).2 (hG.later hBs hb), hb, rfl⟩
        rintro x9 ⟨_, ⟨rfl⟩⟩
        simp only [Act.put, List.setIfInBounds_toArray, List.set_cons_succ, List.set_cons_zero]
        refine Rel.wpSpec_atR [] (VFar w17.heap.size 1 ds) Rel.LateR rfl (by first | rfl | (simp [viewS, Act.eval]; done)) rfl (by first | rfl | (simp [Region.wanted]; done)) ?_ rfl ?_
        · intro wq hq hfq
          clear hfq
          have hG := (H_hCd.out _).1 hq
          refine gives_build_id _ rfl ds (by rfl) H_hdsl.out ?_
          exact ⟨(H_hCd.out _).2 (hG.later hBs ((Below.refl _ _).alloc (Nat.le_refl _) _)), (Below.refl _ _).alloc (Nat.le_refl _) _, _, _, rfl, Blk.cellsRow (Blk.newA wq _ _ _ ds rfl rfl), fun ad e => by cases e; exact hG.size⟩
        rintro x10 ⟨_, ⟨a10, c10, rfl, _⟩⟩
        simp only [Act.put, List.setIfInBounds_toArray, List.set_cons_succ, List.set_cons_zero]
        refine Rel.wpSpec_atR [] (VRowE (pb + 1) 24 32 (nb + 1) (idsC bes ++ ds) (Value.slice da nb dc).ownBlock w17.heap.size) (fun u v => u.grownBy v (Value.slice da nb dc).ownBlock) rfl (by first | rfl | (simp [viewS, Act.eval]; done)) rfl (by first | rfl | (simp [Region.wanted]; done)) ?_ rfl ?_
        · intro wq hq hfq
          have f9 := hfq 10 (by kernel_rfl)
          simp only [upd, Nat.beq, cond] at f9
          clear hfq
          obtain ⟨a9', c9', e9, k9, l9⟩ := f9
          cases e9
          have hG := (H_hCd.out _).1 hq
          obtain ⟨a', c', w', hr, h2, h3, h4, h5⟩ := run_append_y (P := Tryd.prog) wq (pb + 1) 22 22 24 j0 _ 32 32 Tryd.underlying22 H_jif.out H_jz0.out H_jz1.out H_jz2.out oneCell_idz (by decide) (.slice da nb dc) nb _ hG.b a10 1 c10 ds (by rw [H_hdsl.out]) k9 H_hdso.out (by unfold maxLen; omega) (by omega) (Nat.le_trans hBs hG.size)
          exact gives_append _ _ _ _ rfl _ _ rfl rfl ⟨_, _, hr, (H_hCd.out _).2 (hG.app hBs (Nat.lt_succ_self _) (by omega) h3 h5 fun x hx => (hW.ad x hx).2.2.2), h3, _, _, rfl, h2, fun k hk => (h4 k hk).imp (fun e => e) fun e => by rw [e]; exact hG.size⟩
        rintro x11 ⟨_, ⟨a11, c11, rfl, _⟩⟩
        simp only [Act.put, List.setIfInBounds_toArray, List.set_cons_succ, List.set_cons_zero]
        show Rel.wpSpec _ _ _ _ _ _ _ _ _ _ _
        intro w18 hq18 hfq
        have f11 := hfq 11
        simp only [upd, Nat.beq, cond] at f11
        clear hfq hp1
        obtain ⟨a11', c11', e11, o11, l11⟩ := f11
        cases e11
        have hG := (H_hCd.out _).1 hq18
        rw [H_hds.out] at o11
        have hWs := hW.appB hpw (Nat.lt_succ_self _) H_hPV.out hG o11 l11
        have P_1 := hG.p.cell (j := 1) (v := .slice da nb dc) (by rw [H_hPV.out]; rfl)
        have P_f1 := hG.p.free 1
        clear hq18 hG o11 l11 hW
        go_wp2_with (refine wpList_load_blk rfl 24 _ rfl w.heap.size (by rfl) 24 ids _ hWs.d Tryd.underlying24 rfl H_hidsi.out ?_)
        with_reducible refine (H_hbit.out _).mono ?_
        rintro e w19 ⟨rfl, hc19⟩
        have hW := hWs.later hc19
        clear hc19 hWs P_1 P_f1
        go_wp2_with fail
        with_reducible refine (H_hcz'.out _ hW.l).mono ?_
        rintro e w20 ⟨⟨a20, c20, rfl, ho20⟩, hc20⟩
        have hal20 := hW.a.lt
        have hbl20 := hW.b.lt
        have hpl20 := hW.p.lt
        have hrl20 := hW.r.lt
        have hW := hW.later hc20
        clear hc20
        go_wp2_with fail
        go_roundw
        case rel =>
          refine ⟨a20, z.length, c20, z, bits ++ [(N : Int)], bes ++ [rootP o], a5, nb + 1, c5, a11, c11, rfl, ?_, ?_⟩
          · refine ⟨H_iz.out, rfl, H_zl.out, by rw [List.length_append, hF.lb]; rfl, by rw [List.length_append, hF.ld]; rfl, ?_, ?_, ?_⟩
            · have := H_sum.out; have := H_ol.out; have := H_hsum.out; have := H_hn'.out; omega
            · rw [hF.eq, H_hpr.out]
              exact behind_cons _ _ _ _ _ _ (provP_empty H_iz.out H_zl.out _)
            · intro x hx
              rcases List.mem_append.1 hx with h | h
              · exact hF.ids x h
              · simp at h; subst h; exact rootP_id _
          · exact ⟨hW.bel, hW.size, ho20.idsIn rfl H_iz.out.ids, fun x hx => (ho20.addr x hx).2, fun x hx => by have := (ho20.addr x hx).1; exact ⟨by omega, by omega, fun k hk => by have := (hal20 k hk).2; omega, fun k hk => by have := (hbl20 k hk).2; omega⟩, hW.p, hW.d, hW.r, hW.a, hW.b⟩
        case measure => have := H_sum.out; have := H_ol.out; have := H_hn'.out; simp; omega

end Go.Proofs.YtfabcdpmnbeflaaDoor

/- Prove as one contract; proofs compared: equal ones. -/
namespace Go.Proofs.YtfabcdpmnbeflaaDoor
set_option linter.unusedSimpArgs false
set_option linter.unusedVariables false
set_option linter.unnecessarySimpa false
open Go.RowKit Go.Sort
set_option maxRecDepth 100000

theorem prove_any (l : List (List Int)) (id : List Int) (a : Option Addr) (n c : Nat) (w : World) (h : IdsIn w a c l) (hn : n = l.length) (hm : n ≤ maxLen) (hid : IdIn id) (hT : TabK w) :
    Calls Tryd.prog 15 #[.slice a n c, .agg (idC id).toArray] w fun e w' =>
      ProveR w' (proveZ l id) e ∧ Below w.heap.size w w' := by
  by_cases hz : chkZ l = 0
  · obtain ⟨hinc, hl⟩ := inc_of_chk h.ids hz
    by_cases h0 : n = 0
    · obtain rfl : l = [] := List.eq_nil_of_length_eq_zero (by omega)
      subst h0
      exact prove_nil id a c w hid
    · exact prove_ok l id a n c w h hinc hn (by omega) (by omega) hid hT
  · exact prove_err l id a n c w h hn hm hid hz
theorem rprove_any (l : List (List Int)) (id : List Int) (a : Option Addr) (n c : Nat) (w : World) (h : IdsIn w a c l) (hn : n = l.length) (hm : n ≤ maxLen) (hid : IdIn id) :
    Calls Tryd.prog 16 #[.slice a n c, .agg (idC id).toArray] w fun e w' =>
      ProveR w' (proveZ l id) e ∧ Below w.heap.size w w' := by
  by_cases hz : chkZ l = 0
  · obtain ⟨hinc, hl⟩ := inc_of_chk h.ids hz
    by_cases h0 : n = 0
    · obtain rfl : l = [] := List.eq_nil_of_length_eq_zero (by omega)
      subst h0
      exact rprove_nil id a c w hid
    · exact rprove_ok l id a n c w h hinc hn (by omega) (by omega) hid
  · exact rprove_err l id a n c w h hn hm hid hz
set_option maxHeartbeats 2000000 in
theorem sameProof_self (A : ProofA) (ba ba' : Option Addr) (bc bc' : Nat) (da da' : Option Addr) (dc dc' : Nat) (w : World) (h : ProofIn w A ba bc da dc) (h' : ProofIn w A ba' bc' da' dc') (ho : IdIn A.only) (hb : A.bits.length ≤ 1000) (hd : A.beside.length ≤ 1000) :
    Calls Tryd.prog 20 #[.agg (prC ba A.bits.length bc da A.beside.length dc A.only A.empty).toArray, .agg (prC ba' A.bits.length bc' da' A.beside.length dc' A.only A.empty).toArray] w fun e w' =>
      e = .returned (.bool true) ∧ Below w.heap.size w w' := by
  have hsm := fun W (h1 : IdsIn W da dc A.beside) (h2 : IdsIn W da' dc' A.beside) => sameIds_any A.beside A.beside da da' _ _ dc dc' W h1 h2 rfl rfl (by unfold maxLen; omega) (by unfold maxLen; omega)
  have heq := fun w => eq_ids A.only A.only ho.len ho.len w
  simp only [decide_true] at hsm
  obtain ⟨n, hn⟩ : ∃ n, A.bits.length = n := ⟨_, rfl⟩
  obtain ⟨m, hm⟩ : ∃ m, A.beside.length = m := ⟨_, rfl⟩
  rw [hn] at hb
  simp only [hn, hm] at hsm ⊢
  obtain ⟨em, hem⟩ : ∃ em, A.empty = em := ⟨_, rfl⟩
  rw [hem]
  have hL1 := prC_len (ba := ba) (da := da) (bn := n) (bc := bc) (dn := m) (dc := dc) (emp := em) ho
  have hL2 := prC_len (ba := ba') (da := da') (bn := n) (bc := bc') (dn := m) (dc := dc') (emp := em) ho
  have hE1 := prC_empty (ba := ba) (da := da) (bn := n) (bc := bc) (dn := m) (dc := dc) (emp := em) ho
  have hE2 := prC_empty (ba := ba') (da := da') (bn := n) (bc := bc') (dn := m) (dc := dc') (emp := em) ho
  have hO1 := prC_only (ba := ba) (da := da) (bn := n) (bc := bc) (dn := m) (dc := dc) (only := A.only) (emp := em)
  have hO2 := prC_only (ba := ba') (da := da') (bn := n) (bc := bc') (dn := m) (dc := dc') (only := A.only) (emp := em)
  have h01 : (prC ba n bc da m dc A.only em)[0]? = some (.slice ba n bc) := rfl
  have h02 : (prC ba' n bc' da' m dc' A.only em)[0]? = some (.slice ba' n bc') := rfl
  have h11 : (prC ba n bc da m dc A.only em)[1]? = some (.slice da m dc) := rfl
  have h12 : (prC ba' n bc' da' m dc' A.only em)[1]? = some (.slice da' m dc') := rfl
  obtain ⟨PV, hPV⟩ : ∃ PV, prC ba n bc da m dc A.only em = PV := ⟨_, rfl⟩
  obtain ⟨QV, hQV⟩ : ∃ QV, prC ba' n bc' da' m dc' A.only em = QV := ⟨_, rfl⟩
  rw [hPV] at hL1 hE1 hO1 h01 h11 ⊢
  rw [hQV] at hL2 hE2 hO2 h02 h12 ⊢
  obtain ⟨us, hus⟩ : ∃ v, v = idC (A.only) := ⟨_, rfl⟩
  have husl := idC_len ho
  have husi := idC_info ho
  have huso := idC_one (A.only)
  rw [← hus] at husl husi huso
  have husr : us.length = (List.replicate 32 (Value.int .u8 0)).length := by rw [husl]; rfl
  rw [← hus] at hO1 hO2
  have heq' : ∀ w, (Op.equalIn 10000 24 (.agg us.toArray) (.agg us.toArray)).run Tryd.prog w = .ok true w := fun w => by
    have := heq w
    rw [hus]; unfold idC; simpa using this
  have hB1 : Blk ((w.alloc (.cells PV.toArray 41)).alloc (.cells QV.toArray 41)) w.heap.size 41 PV := (Blk.newA w _ _ _ PV rfl rfl).alloc _
  have hB2 : Blk ((w.alloc (.cells PV.toArray 41)).alloc (.cells QV.toArray 41)) (w.heap.size + 1) 41 QV := Blk.newA _ _ _ _ QV (by simp) rfl
  have hal : Below w.heap.size w ((w.alloc (.cells PV.toArray 41)).alloc (.cells QV.toArray 41)) := ((Below.refl _ _).alloc (Nat.le_refl _) _).alloc (by simp) _
  have c10 := hB1.cell h01
  have c11 := hB1.cell h11
  have c1e := hB1.cell hE1
  have c20 := hB2.cell h02
  have c21 := hB2.cell h12
  have c2e := hB2.cell hE2
  have hX1 : ((w.alloc (.cells PV.toArray 41)).alloc (.cells QV.toArray 41)).rangeAt w.heap.size 2 us := fun j v hj => hB1.cell (hO1 j v hj)
  have hX2 : ((w.alloc (.cells PV.toArray 41)).alloc (.cells QV.toArray 41)).rangeAt (w.heap.size + 1) 2 us := fun j v hj => hB2.cell (hO2 j v hj)
  have H_hsm := Box.mk hsm
  have H_heq := Box.mk heq
  have H_hn := Box.mk hn
  have H_hm := Box.mk hm
  have H_hem := Box.mk hem
  have H_hL1 := Box.mk hL1
  have H_hL2 := Box.mk hL2
  have H_hE1 := Box.mk hE1
  have H_hE2 := Box.mk hE2
  have H_hO1 := Box.mk hO1
  have H_hO2 := Box.mk hO2
  have H_h01 := Box.mk h01
  have H_h02 := Box.mk h02
  have H_h11 := Box.mk h11
  have H_h12 := Box.mk h12
  have H_hPV := Box.mk hPV
  have H_hQV := Box.mk hQV
  have H_hus := Box.mk hus
  have H_husl := Box.mk husl
  have H_husi := Box.mk husi
  have H_huso := Box.mk huso
  have H_husr := Box.mk husr
  have H_h := Box.mk h
  have H_h' := Box.mk h'
  have H_ho := Box.mk ho
  have H_hal := Box.mk hal
  have H_hB1 := Box.mk hB1
  have H_hB2 := Box.mk hB2
  have H_hX1 := Box.mk hX1
  have H_hX2 := Box.mk hX2
  clear hsm heq hn hm hem hL1 hL2 hE1 hE2 hO1 hO2 h01 h02 h11 h12 hPV hQV hus husl husi huso husr h h' ho hal hB1 hB2 hX1 hX2
  go_enter Tryd.func20, Tryd.ntmps20
  have hb0 := Below.refl w.heap.size w
  go_wp2_with (first | (refine wpList_load_midG (by first | rfl | (simp [Region.wanted]; done)) 24 _ rfl w.heap.size 2 (by rfl) us _ H_hX1.out Tryd.underlying24 rfl H_husi.out ?_) | (refine wpList_load_midG (by first | rfl | (simp [Region.wanted]; done)) 24 _ rfl (w.heap.size + 1) 2 (by rfl) us _ H_hX2.out Tryd.underlying24 rfl H_husi.out ?_))
  with_reducible refine (H_hsm.out _ ?_ ?_).mono ?_
  · exact H_h.out.beside.later H_hal.out
  · exact H_h'.out.beside.later H_hal.out
  rintro e w1 ⟨rfl, hc1⟩
  have hb1 : Below w.heap.size w w1 := bchain H_hal.out hc1
  have d10 := cell_later hc1 c10
  have d20 := cell_later hc1 c20
  have hbs := H_h.out.bits.later hb1
  have hbs' := H_h'.out.bits.later hb1
  clear hc1 c10 c11 c1e c20 c21 c2e
  go_wp2_with fail
  go_loopw [5] (fun q wr => ∃ k : Nat, k ≤ n ∧ q = .int .i64 k ∧ Below w1.heap.size w1 wr) (fun q _ => n - (intOf q).toNat)
  case atStart => exact ⟨0, Nat.zero_le _, rfl, Below.refl _ _⟩
  case round =>
    obtain ⟨k, hk, rfl, hbw⟩ := hrel
    have e10 := cell_later hbw d10
    have e20 := cell_later hbw d20
    have hbW := bchain hb1 hbw
    have hnI : (n : Int) ≤ 1000 := by omega
    by_cases hlt : k < n
    · have hltI : (k : Int) < (n : Int) := by omega
      obtain ⟨b1, o1, rfl, hc1⟩ := CellsAt.int (hbs.later hbw) (by rw [H_hn.out]; omega)
      obtain ⟨b2, o2, rfl, hc2⟩ := CellsAt.int (hbs'.later hbw) (by rw [H_hn.out]; omega)
      have f1 := hc1 k (by rw [H_hn.out]; exact hlt)
      have f2 := hc2 k (by rw [H_hn.out]; exact hlt)
      obtain ⟨x, hx⟩ : ∃ x, A.bits[k]?.getD 0 = x := ⟨_, rfl⟩
      rw [hx] at f1 f2
      have H_hx := Box.mk hx
      have H_hc1 := Box.mk hc1
      have H_hc2 := Box.mk hc2
      have H_hbs := Box.mk hbs
      have H_hbs' := Box.mk hbs'
      clear hx hc1 hc2 hbs hbs'
      go_wp2_with fail
      refine wp_gen fun w11 hc11 => ?_
      have hb11 : Below w.heap.size w w11 := bchain (by repeat' (first | with_reducible exact hbW | with_reducible refine Below.drew ?_ | with_reducible refine below_drewN ?_ _ | with_reducible refine Below.alloc ?_ (by have := hbW.size; first | (simp; done) | (simp; omega) | omega) _ | with_reducible refine Below.setCell ?_ (by first | (simp; done) | (simp; omega) | omega) _)) hc11
      have K1 := cell_on (cell_later hc11 e10)
      have K2 := cell_on (cell_later hc11 e20)
      have K3 := cell_on (cell_later hc11 f1)
      have K4 := cell_on (cell_later hc11 f2)
      clear e10 e20 f1 f2
      refine wp_region_on (by kernel_rfl) (by kernel_rfl) ?_
      repeat (go_big_quiet_step (fail))
      refine wpQuiet_nil ?_
      intro w12 hc12
      have hb12 : Below w.heap.size w w12 := bchain (by repeat' (first | with_reducible exact hb11 | with_reducible refine Below.drew ?_ | with_reducible refine below_drewN ?_ _ | with_reducible refine Below.alloc ?_ (by have := hb11.size; first | (simp; done) | (simp; omega) | omega) _ | with_reducible refine Below.setCell ?_ (by first | (simp; done) | (simp; omega) | omega) _)) hc12
      clear K1 K2 K3 K4
      go_wp2_with fail
      go_roundw
      case rel => exact ⟨k + 1, by omega, by go_num, bchain hbw (bchain hc11 hc12)⟩
      case measure => simp [intOf]; omega
    · have hge : (n : Int) ≤ (k : Int) := by omega
      go_wp2_with fail
      go_ret
      exact ⟨rfl, hbW⟩

end Go.Proofs.YtfabcdpmnbeflaaDoor
