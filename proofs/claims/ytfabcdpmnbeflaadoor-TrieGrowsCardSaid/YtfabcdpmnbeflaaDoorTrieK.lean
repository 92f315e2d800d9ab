/- TrieK: TrieGrowsP, TrieGrowsW. -/
import Derived.Test.YtfabcdpmnbeflaaDoorTrieH
import Derived.Test.YtfabcdpmnbeflaaDoorTrieA
import Derived.Test.YtfabcdpmnbeflaaDoorTrieJ
/- An id more in increasing ids: plain. -/
namespace Go.Proofs.YtfabcdpmnbeflaaDoor
open Go.RowKit
set_option linter.unusedVariables false

/-- Where an id goes. -/
def insN (l : List (List Int)) (id : List Int) : Nat := (l.takeWhile fun x => decide (cmpZ x id < 0)).length
/-- What has been laid when i ids are over. -/
def growP (l : List (List Int)) (id : List Int) (p i : Nat) : List (List Int) := if i ≤ p then l.take i else l.take p ++ id :: (l.take i).drop p
def moreP (l : List (List Int)) (id : List Int) (p : Nat) : List (List Int) := l.take p ++ id :: l.drop p
theorem pc_some {l : List (List Int)} {i : Nat} (h : i < l.length) : l[i] = pc l i := by unfold pc; rw [List.getElem?_eq_getElem h]; rfl
theorem take_pc {l : List (List Int)} {i : Nat} (h : i < l.length) : l.take (i + 1) = l.take i ++ [pc l i] := by rw [List.take_succ_eq_append_getElem h, pc_some h]
theorem grow_len {l : List (List Int)} {id : List Int} {p i : Nat} (hp : p ≤ l.length) (hi : i ≤ l.length) : (growP l id p i).length = if i ≤ p then i else i + 1 := by
  unfold growP
  split
  · rw [List.length_take]; omega
  · simp; omega
theorem grow_lt {l : List (List Int)} {id : List Int} {p i : Nat} (h : i < p) (hi : i < l.length) : growP l id p (i + 1) = growP l id p i ++ [pc l i] := by
  unfold growP
  rw [if_pos (by omega), if_pos (by omega), take_pc hi]
theorem grow_at {l : List (List Int)} {id : List Int} {p : Nat} (hi : p < l.length) : growP l id p (p + 1) = (growP l id p p ++ [id]) ++ [pc l p] := by
  unfold growP
  rw [if_neg (by omega), if_pos (Nat.le_refl _), take_pc hi, List.drop_append_of_le_length (by simp; omega)]
  rw [List.drop_of_length_le (by simp; omega)]
  simp
theorem grow_gt {l : List (List Int)} {id : List Int} {p i : Nat} (h : p < i) (hi : i < l.length) : growP l id p (i + 1) = growP l id p i ++ [pc l i] := by
  unfold growP
  rw [if_neg (by omega), if_neg (by omega), take_pc hi, List.drop_append_of_le_length (by simp; omega)]
  simp
theorem grow_end {l : List (List Int)} {id : List Int} {p : Nat} (h : p < l.length) : growP l id p l.length = moreP l id p := by
  unfold growP moreP
  rw [if_neg (by omega), List.take_of_length_le (Nat.le_refl _)]
theorem grow_end2 {l : List (List Int)} {id : List Int} : growP l id l.length l.length ++ [id] = moreP l id l.length := by
  unfold growP moreP
  rw [if_pos (Nat.le_refl _), List.drop_of_length_le (Nat.le_refl _)]
theorem ins_le (l : List (List Int)) (id : List Int) : insN l id ≤ l.length := by
  unfold insN
  exact (List.takeWhile_sublist _).length_le
theorem ins_below : ∀ (l : List (List Int)) (id : List Int) (i : Nat), i < insN l id → cmpZ (pc l i) id < 0
  | [], id, i, h => by simp [insN] at h
  | x :: l, id, i, h => by
    unfold insN at h
    rw [List.takeWhile_cons] at h
    by_cases hx : cmpZ x id < 0
    · rw [if_pos (by simpa using hx), List.length_cons] at h
      cases i with
      | zero => exact hx
      | succ i => have := ins_below l id i (by unfold insN; omega); simpa [pc] using this
    · rw [if_neg (by simpa using hx)] at h; simp at h
theorem ins_at : ∀ (l : List (List Int)) (id : List Int), insN l id < l.length → ¬ cmpZ (pc l (insN l id)) id < 0
  | [], id, h => by simp at h
  | x :: l, id, h => by
    unfold insN at h ⊢
    rw [List.takeWhile_cons] at h ⊢
    by_cases hx : cmpZ x id < 0
    · rw [if_pos (by simpa using hx), List.length_cons] at h ⊢
      have := ins_at l id (by unfold insN; simp at h; omega)
      simpa [pc, insN] using this
    · rw [if_neg (by simpa using hx)]
      simpa [pc] using hx
/-- What is known of the place. -/
structure InsF (l : List (List Int)) (id : List Int) (p : Nat) : Prop where
  le : p ≤ l.length
  lo : ∀ i, i < p → decide (cmpZ id (pc l i) < 0) = false
  at_ : p < l.length → decide (cmpZ id (pc l p) < 0) = true
  inc : IncL (moreP l id p)
  len : (moreP l id p).length = l.length + 1
  mem : id ∈ moreP l id p
  all : ∀ x ∈ l, x ∈ moreP l id p
  lackL : lackP (moreP l id p) l = [id]
  lackR : lackP l (moreP l id p) = []
theorem ins_ok {l : List (List Int)} {id : List Int} (hi : IncL l) (hid : IdIn id) (hno : id ∉ l) : InsF l id (insN l id) := by
  have hle := ins_le l id
  have hlo : ∀ i, i < insN l id → ltB (pc l i) id := fun i h => (lt_iff (hi.at (by omega)) hid).1 (ins_below l id i h)
  have hat : insN l id < l.length → ltB id (pc l (insN l id)) := fun h => by
    have h1 := ins_at l id h
    have h2 : pc l (insN l id) ≠ id := fun e => hno (e ▸ pc_mem h)
    rcases lt_total (hi.at h) hid h2 with h3 | h3
    · exact absurd ((lt_iff (hi.at h) hid).2 h3) h1
    · exact h3
  obtain ⟨p, hp⟩ : ∃ p, insN l id = p := ⟨_, rfl⟩
  rw [hp] at hle hlo hat ⊢
  have htl : ∀ x ∈ l.take p, ltB x id := fun x hx => by
    obtain ⟨j, hj, rfl⟩ := List.getElem_of_mem hx
    rw [List.length_take] at hj
    rw [List.getElem_take, pc_some (by omega)]
    exact hlo j (by omega)
  have hdl : ∀ x ∈ l.drop p, ltB id x := fun x hx => by
    obtain ⟨j, hj, rfl⟩ := List.getElem_of_mem hx
    rw [List.length_drop] at hj
    rw [List.getElem_drop, pc_some (by omega)]
    cases j with
    | zero => exact hat (by omega)
    | succ j => exact ltB_trans (hat (by omega)) (hi.lt (by omega) (by omega))
  have hall : ∀ x ∈ l, x ∈ moreP l id p := fun x hx => by
    rw [← List.take_append_drop p l] at hx
    unfold moreP
    rcases List.mem_append.1 hx with h | h
    · exact List.mem_append_left _ h
    · exact List.mem_append_right _ (List.mem_cons_of_mem _ h)
  refine ⟨hle, fun i h => ?_, fun h => ?_, ⟨fun x hx => ?_, ?_⟩, ?_, ?_, hall, ?_, ?_⟩
  · have := hlo i h
    simp only [decide_eq_false_iff_not]
    intro h2
    exact ltB_asymm this ((lt_iff hid (hi.at (by omega))).1 h2)
  · simpa using (lt_iff hid (hi.at h)).2 (hat h)
  · unfold moreP at hx
    rcases List.mem_append.1 hx with h | h
    · exact hi.ids x (List.mem_of_mem_take h)
    · rcases List.mem_cons.1 h with rfl | h
      · exact hid
      · exact hi.ids x (List.mem_of_mem_drop h)
  · unfold moreP
    rw [List.pairwise_append, List.pairwise_cons]
    have hinc := hi.inc
    rw [← List.take_append_drop p l, List.pairwise_append] at hinc
    refine ⟨hinc.1, ⟨hdl, hinc.2.1⟩, fun x hx y hy => ?_⟩
    rcases List.mem_cons.1 hy with rfl | hy
    · exact htl x hx
    · exact hinc.2.2 x hx y hy
  · unfold moreP; simp; omega
  · unfold moreP; exact List.mem_append_right _ (List.mem_cons_self ..)
  · unfold lackP moreP
    rw [List.filter_append, List.filter_cons]
    have h1 : (l.take p).filter (fun x => !decide (x ∈ l)) = [] := List.filter_eq_nil_iff.2 fun x hx => by simp [List.mem_of_mem_take hx]
    have h2 : (l.drop p).filter (fun x => !decide (x ∈ l)) = [] := List.filter_eq_nil_iff.2 fun x hx => by simp [List.mem_of_mem_drop hx]
    rw [h1, h2, if_pos (by simpa using hno)]
    rfl
  · unfold lackP
    exact List.filter_eq_nil_iff.2 fun x hx => by simp [hall x hx]

end Go.Proofs.YtfabcdpmnbeflaaDoor

/- The law TrieGrows. -/
namespace Go.Proofs.YtfabcdpmnbeflaaDoor
set_option linter.unusedSimpArgs false
set_option linter.unusedVariables false
set_option linter.unnecessarySimpa false
open Go.RowKit
set_option maxRecDepth 100000

theorem verify_in {l : List (List Int)} {id : List Int} (hinc : IncL l) (hl : l.length ≤ 60) (hid : IdIn id) (hm : id ∈ l) : ∃ (A : ProofA) (nb : Nat) (on : List Int), proveZ l id = ⟨A, true, 0⟩ ∧ A.bits.length = nb ∧ A.beside.length = nb ∧ A.only = on ∧ A.empty = false ∧ IdIn on ∧ ∀ (W : World) (ba da : Option Addr) (bc dc : Nat), ProofIn W A ba bc da dc → TabK W →
    Calls Tryd.prog 27 #[.agg (idC (rootP l)).toArray, .agg (idC id).toArray, .agg (prC ba nb bc da nb dc on false).toArray] W fun e w' => e = .returned (.tuple #[.bool true, .int .i64 0]) ∧ Below W.heap.size W w' := by
  have h0 : 0 < l.length := List.length_pos_of_mem hm
  obtain ⟨bs, hF⟩ := prov_ok l.length l id rfl hinc h0
  have hla : (provP l id).bits.length = bs.length := by rw [hF.bits, List.length_map]
  have hlb := hF.len
  have hle := hF.le
  have hib : ((provP l id).only == id) = true := by simp [hF.is, hm]
  refine ⟨provP l id, bs.length, _, by rw [proveZ_of hinc hl h0 hF]; simp [hm], hla, hlb, rfl, hF.emp, hinc.ids _ hF.mem, fun W ba da bc dc h1 h2 => ?_⟩
  have := verify_ok (provP l id) id (rootP l) ba da bc dc bs.length bs.length _ W hid (rootP_id _) (hinc.ids _ hF.mem) hib h1 (fun W' h3 h4 => by
    have := proot_any (provP l id) id [] l bs ba da bc dc W' hF hinc hl hid h3 (h2.later h4)
    rw [hla, hlb] at this; exact this)
  rw [hF.emp] at this
  exact this
theorem OwnX.idsIn' {w : World} {B : Nat} {a : Option Addr} {n c : Nat} {l : List (List Int)} {cs : List Value} (h : OwnX w B 24 32 (.slice a n c) n cs) (hc : cs = idsC l) (hn : n = l.length) (hl : ∀ x ∈ l, IdIn x) : IdsIn w a c l := by
  subst hc; exact h.idsIn hn hl
theorem grows_big (a : Option Addr) (n c : Nat) (id : List Int) (at_ : Int) (w : World) (h16 : (15 : Int) < n) (hid : IdIn id) (hT : TabK w) :
    Calls Tryd.prog 7 #[.slice a n c, .agg (idC id).toArray, .int .i64 at_] w fun e w' =>
      e = .returned (.bool true) ∧ Below w.heap.size w w' := by
  obtain ⟨us, hus⟩ : ∃ v, v = idC (id) := ⟨_, rfl⟩
  have husl := idC_len hid
  have husi := idC_info hid
  have huso := idC_one (id)
  rw [← hus] at husl husi huso
  have husr : us.length = (List.replicate 32 (Value.int .u8 0)).length := by rw [husl]; rfl
  rw [← hus]
  have H_hus := Box.mk hus
  have H_husl := Box.mk husl
  have H_husi := Box.mk husi
  have H_huso := Box.mk huso
  have H_husr := Box.mk husr
  have H_hid := Box.mk hid
  clear hus husl husi huso husr hid
  have hal := fun W (h : TabK W) => alive_any W h
  have H_hal := Box.mk hal
  have H_hT := Box.mk hT
  clear hal hT
  go_enter Tryd.func7, Tryd.ntmps7
  have hb0 := Below.refl w.heap.size w
  have hX := Blk.newA w w.heap.size _ 24 us rfl rfl
  go_wp2_with fail
  with_reducible refine (H_hal.out _ (H_hT.out.later (by repeat' (first | with_reducible exact hb0 | with_reducible refine Below.drew ?_ | with_reducible refine below_drewN ?_ _ | with_reducible refine Below.alloc ?_ (by have := hb0.size; first | (simp; done) | (simp; omega) | omega) _ | with_reducible refine Below.setCell ?_ (by first | (simp; done) | (simp; omega) | omega) _)))).mono ?_
  rintro e w1 ⟨rfl, hc1⟩
  replace hX := hX.later hc1
  have hb1 : Below w.heap.size w w1 := bchain (by repeat' (first | with_reducible exact hb0 | with_reducible refine Below.drew ?_ | with_reducible refine below_drewN ?_ _ | with_reducible refine Below.alloc ?_ (by have := hb0.size; first | (simp; done) | (simp; omega) | omega) _ | with_reducible refine Below.setCell ?_ (by first | (simp; done) | (simp; omega) | omega) _)) hc1
  clear hc1
  clear hX
  go_wp2_with fail
  go_ret
  exact ⟨rfl, by repeat' (first | with_reducible exact hb1 | with_reducible refine Below.drew ?_ | with_reducible refine below_drewN ?_ _ | with_reducible refine Below.alloc ?_ (by have := hb1.size; first | (simp; done) | (simp; omega) | omega) _ | with_reducible refine Below.setCell ?_ (by first | (simp; done) | (simp; omega) | omega) _)⟩
theorem grows_bad (l : List (List Int)) (a : Option Addr) (n c : Nat) (id : List Int) (at_ : Int) (w : World) (h : IdsIn w a c l) (hn : n = l.length) (h16 : n ≤ 15) (hz : chkZ l ≠ 0) (hid : IdIn id) (hT : TabK w) :
    Calls Tryd.prog 7 #[.slice a n c, .agg (idC id).toArray, .int .i64 at_] w fun e w' =>
      e = .returned (.bool true) ∧ Below w.heap.size w w' := by
  have hck := fun W (hI : IdsIn W a c l) => rcheck_any l a n c W hI hn (by unfold maxLen; omega)
  obtain ⟨er, her⟩ : ∃ er, chkZ l = er := ⟨_, rfl⟩
  rw [her] at hz
  simp only [her] at hck
  have hzn : (er != 0) = true := by simpa using hz
  have h16I : (n : Int) ≤ 15 := by omega
  obtain ⟨us, hus⟩ : ∃ v, v = idC (id) := ⟨_, rfl⟩
  have husl := idC_len hid
  have husi := idC_info hid
  have huso := idC_one (id)
  rw [← hus] at husl husi huso
  have husr : us.length = (List.replicate 32 (Value.int .u8 0)).length := by rw [husl]; rfl
  rw [← hus]
  have H_hck := Box.mk hck
  have H_hn := Box.mk hn
  have H_her := Box.mk her
  have H_h := Box.mk h
  have H_hz := Box.mk hz
  have H_hus := Box.mk hus
  have H_husl := Box.mk husl
  have H_husi := Box.mk husi
  have H_huso := Box.mk huso
  have H_husr := Box.mk husr
  have H_hid := Box.mk hid
  clear hck hn her h hz hus husl husi huso husr hid
  have hal := fun W (h : TabK W) => alive_any W h
  have H_hal := Box.mk hal
  have H_hT := Box.mk hT
  clear hal hT
  go_enter Tryd.func7, Tryd.ntmps7
  have hb0 := Below.refl w.heap.size w
  have hX := Blk.newA w w.heap.size _ 24 us rfl rfl
  go_wp2_with fail
  with_reducible refine (H_hal.out _ (H_hT.out.later (by repeat' (first | with_reducible exact hb0 | with_reducible refine Below.drew ?_ | with_reducible refine below_drewN ?_ _ | with_reducible refine Below.alloc ?_ (by have := hb0.size; first | (simp; done) | (simp; omega) | omega) _ | with_reducible refine Below.setCell ?_ (by first | (simp; done) | (simp; omega) | omega) _)))).mono ?_
  rintro e w1 ⟨rfl, hc1⟩
  replace hX := hX.later hc1
  have hb1 : Below w.heap.size w w1 := bchain (by repeat' (first | with_reducible exact hb0 | with_reducible refine Below.drew ?_ | with_reducible refine below_drewN ?_ _ | with_reducible refine Below.alloc ?_ (by have := hb0.size; first | (simp; done) | (simp; omega) | omega) _ | with_reducible refine Below.setCell ?_ (by first | (simp; done) | (simp; omega) | omega) _)) hc1
  clear hc1
  clear hX
  go_wp2_with fail
  with_reducible refine (H_hck.out _ (H_h.out.later hb1)).mono ?_
  rintro e w2 ⟨rfl, hc2⟩
  have hb2 : Below w.heap.size w w2 := bchain (by repeat' (first | with_reducible exact hb1 | with_reducible refine Below.drew ?_ | with_reducible refine below_drewN ?_ _ | with_reducible refine Below.alloc ?_ (by have := hb1.size; first | (simp; done) | (simp; omega) | omega) _ | with_reducible refine Below.setCell ?_ (by first | (simp; done) | (simp; omega) | omega) _)) hc2
  clear hc2 hb1
  go_wp2_with fail
  go_ret
  exact ⟨rfl, by repeat' (first | with_reducible exact hb2 | with_reducible refine Below.drew ?_ | with_reducible refine below_drewN ?_ _ | with_reducible refine Below.alloc ?_ (by have := hb2.size; first | (simp; done) | (simp; omega) | omega) _ | with_reducible refine Below.setCell ?_ (by first | (simp; done) | (simp; omega) | omega) _)⟩
theorem grows_in (l : List (List Int)) (a : Option Addr) (n c : Nat) (id : List Int) (at_ : Int) (w : World) (h : IdsIn w a c l) (hn : n = l.length) (h16 : n ≤ 15) (hinc : IncL l) (hm : id ∈ l) (hid : IdIn id) (hT : TabK w) :
    Calls Tryd.prog 7 #[.slice a n c, .agg (idC id).toArray, .int .i64 at_] w fun e w' =>
      e = .returned (.bool true) ∧ Below w.heap.size w w' := by
  have hck := fun W (hI : IdsIn W a c l) => rcheck_any l a n c W hI hn (by unfold maxLen; omega)
  rw [chk_of_inc hinc (by omega)] at hck
  have hin := fun W (hI : IdsIn W a c l) => in_any l id a n c W hI hid hn (by unfold maxLen; omega)
  rw [show decide (id ∈ l) = true by simpa using hm] at hin
  have h16I : (n : Int) ≤ 15 := by omega
  obtain ⟨us, hus⟩ : ∃ v, v = idC (id) := ⟨_, rfl⟩
  have husl := idC_len hid
  have husi := idC_info hid
  have huso := idC_one (id)
  rw [← hus] at husl husi huso
  have husr : us.length = (List.replicate 32 (Value.int .u8 0)).length := by rw [husl]; rfl
  simp only [← hus] at hin
  rw [← hus]
  have H_hck := Box.mk hck
  have H_hin := Box.mk hin
  have H_hn := Box.mk hn
  have H_h := Box.mk h
  have H_hinc := Box.mk hinc
  have H_hm := Box.mk hm
  have H_hus := Box.mk hus
  have H_husl := Box.mk husl
  have H_husi := Box.mk husi
  have H_huso := Box.mk huso
  have H_husr := Box.mk husr
  have H_hid := Box.mk hid
  clear hck hin hn h hinc hm hus husl husi huso husr hid
  have hal := fun W (h : TabK W) => alive_any W h
  have H_hal := Box.mk hal
  have H_hT := Box.mk hT
  clear hal hT
  go_enter Tryd.func7, Tryd.ntmps7
  have hb0 := Below.refl w.heap.size w
  have hX := Blk.newA w w.heap.size _ 24 us rfl rfl
  go_wp2_with fail
  with_reducible refine (H_hal.out _ (H_hT.out.later (by repeat' (first | with_reducible exact hb0 | with_reducible refine Below.drew ?_ | with_reducible refine below_drewN ?_ _ | with_reducible refine Below.alloc ?_ (by have := hb0.size; first | (simp; done) | (simp; omega) | omega) _ | with_reducible refine Below.setCell ?_ (by first | (simp; done) | (simp; omega) | omega) _)))).mono ?_
  rintro e w1 ⟨rfl, hc1⟩
  replace hX := hX.later hc1
  have hb1 : Below w.heap.size w w1 := bchain (by repeat' (first | with_reducible exact hb0 | with_reducible refine Below.drew ?_ | with_reducible refine below_drewN ?_ _ | with_reducible refine Below.alloc ?_ (by have := hb0.size; first | (simp; done) | (simp; omega) | omega) _ | with_reducible refine Below.setCell ?_ (by first | (simp; done) | (simp; omega) | omega) _)) hc1
  clear hc1
  go_wp2_with fail
  with_reducible refine (H_hck.out _ (H_h.out.later hb1)).mono ?_
  rintro e w2 ⟨rfl, hc2⟩
  have hb2 : Below w.heap.size w w2 := bchain (by repeat' (first | with_reducible exact hb1 | with_reducible refine Below.drew ?_ | with_reducible refine below_drewN ?_ _ | with_reducible refine Below.alloc ?_ (by have := hb1.size; first | (simp; done) | (simp; omega) | omega) _ | with_reducible refine Below.setCell ?_ (by first | (simp; done) | (simp; omega) | omega) _)) hc2
  have hst2 : Below w1.heap.size w1 w2 := bchain (by repeat' (first | with_reducible exact Below.refl _ _ | with_reducible refine Below.drew ?_ | with_reducible refine below_drewN ?_ _ | with_reducible refine Below.alloc ?_ (by first | (simp; done) | (simp; omega) | omega) _ | with_reducible refine Below.setCell ?_ (by first | (simp; done) | (simp; omega) | omega) _)) hc2
  replace hX := hX.later hst2
  clear hst2
  clear hc2
  go_wp2_with (refine wpList_load_blkG (by first | rfl | (simp [Region.wanted]; done) | (simp [Region.wanted, yielded]; done) | (simp [Region.wanted, yielded]; omega)) 24 _ rfl w.heap.size (by rfl) 24 us _ hX Tryd.underlying24 rfl H_husi.out ?_)
  with_reducible refine (H_hin.out _ (H_h.out.later hb2)).mono ?_
  rintro e w3 ⟨rfl, hc3⟩
  have hb3 : Below w.heap.size w w3 := bchain (by repeat' (first | with_reducible exact hb2 | with_reducible refine Below.drew ?_ | with_reducible refine below_drewN ?_ _ | with_reducible refine Below.alloc ?_ (by have := hb2.size; first | (simp; done) | (simp; omega) | omega) _ | with_reducible refine Below.setCell ?_ (by first | (simp; done) | (simp; omega) | omega) _)) hc3
  have hst3 : Below w2.heap.size w2 w3 := bchain (by repeat' (first | with_reducible exact Below.refl _ _ | with_reducible refine Below.drew ?_ | with_reducible refine below_drewN ?_ _ | with_reducible refine Below.alloc ?_ (by first | (simp; done) | (simp; omega) | omega) _ | with_reducible refine Below.setCell ?_ (by first | (simp; done) | (simp; omega) | omega) _)) hc3
  replace hX := hX.later hst3
  clear hst3
  clear hc3
  clear hX
  go_wp2_with fail
  go_ret
  exact ⟨rfl, by repeat' (first | with_reducible exact hb3 | with_reducible refine Below.drew ?_ | with_reducible refine below_drewN ?_ _ | with_reducible refine Below.alloc ?_ (by have := hb3.size; first | (simp; done) | (simp; omega) | omega) _ | with_reducible refine Below.setCell ?_ (by first | (simp; done) | (simp; omega) | omega) _)⟩
set_option maxHeartbeats 8000000 in
theorem grows_main (l M : List (List Int)) (a : Option Addr) (n c p : Nat) (id : List Int) (at_ : Int) (V : Bool) (w : World) (h : IdsIn w a c l) (hn : n = l.length) (h16 : n ≤ 15) (hinc : IncL l) (hno : id ∉ l) (hid : IdIn id) (hF : InsF l id p) (hM : moreP l id p = M) (hT : TabK w)
    (hal0 : ∀ x, a = some x → x.block < w.heap.size) (L R : List (List Int)) (N : Nat) (hd : DownOk M l ⟨L, R, N⟩) (hapM : RApartOk M l V) (hLR : V = true → L = [id] ∧ R = []) :
    Calls Tryd.prog 7 #[.slice a n c, .agg (idC id).toArray, .int .i64 at_] w fun e w' =>
      e = .returned (.bool true) ∧ Below w.heap.size w w' := by
  obtain ⟨j0, jif, jz0, jz1, jz2⟩ := info_parts info_id32
  have hck := fun W (hI : IdsIn W a c l) => rcheck_any l a n c W hI hn (by unfold maxLen; omega)
  rw [chk_of_inc hinc (by omega)] at hck
  have hin := fun W (hI : IdsIn W a c l) => in_any l id a n c W hI hid hn (by unfold maxLen; omega)
  rw [show decide (id ∈ l) = false by simpa using hno] at hin
  have h16I : (n : Int) ≤ 15 := by omega
  have hMi := hF.inc
  have hMl := hF.len
  have hMm := hF.mem
  rw [hM] at hMi hMl hMm
  rw [← hn] at hMl
  have hap : ∀ W mv mr mc, IdsIn W mv mc M → mr = M.length → IdsIn W a c l → Calls Tryd.prog 23 #[.slice mv mr mc, .slice a n c] W fun e w' => e = .returned (.bool V) ∧ Below W.heap.size W w' := fun W mv mr mc h1 e h2 => by
    have := hapM mv a mc c W h1 h2
    rw [← e, ← hn] at this; exact this
  have hdf : V = true → ∀ W mv mr mc, IdsIn W mv mc M → mr = M.length → IdsIn W a c l → TabK W → (∀ x, a = some x → x.block < W.heap.size) → Calls Tryd.prog 22 #[.slice mv mr mc, .slice a n c] W fun e w' => (∃ la lc ra rc, e = .returned (.tuple #[.slice la 1 lc, .slice ra 0 rc, .int .i64 N, .int .i64 0]) ∧ IdsIn w' la lc [id]) ∧ Below W.heap.size W w' := fun hv W mv mr mc h1 e h2 hT h3 => by
    obtain ⟨rfl, rfl⟩ := hLR hv
    refine (differ_ok M l ⟨[id], [], N⟩ mv a mr mc n c W hMi hinc e hn (by omega) (by omega) h1 h2 hT (fun x ex => ?_) h3 hd ⟨fun z hz => by rw [List.mem_singleton.1 hz]; exact hid, fun z hz => by cases hz⟩).mono ?_
    · obtain ⟨b, o, hb, hbl, _⟩ := h1.row (by omega)
      rw [ex] at hb; cases hb; exact hbl
    · rintro e w' ⟨⟨la, lc, ra, rc, he, h4, _⟩, h5⟩
      exact ⟨⟨la, lc, ra, rc, he, h4⟩, h5⟩
  have hro := fun W mv mr mc (h1 : IdsIn W mv mc M) (e : mr = M.length) hT => Root_any M mv mr mc W h1 e (by unfold maxLen; omega) hT
  rw [rootZ_of hMi (by omega)] at hro
  have hpv := fun W mv mr mc (h1 : IdsIn W mv mc M) (e : mr = M.length) hT => prove_any M id mv mr mc W h1 e (by unfold maxLen; omega) hid hT
  obtain ⟨A, nb, on, hA, e1, e2, e3, e4, hon, hvf⟩ := verify_in hMi (by omega) hid hMm
  rw [hA] at hpv
  simp only [ProveR, e1, e2, e3, e4] at hpv
  have hsl := fun W p q u v (h1 : IdsIn W p u [id]) (h2 : IdsIn W q v [id]) => sameIds_any [id] [id] p q 1 1 u v W h1 h2 rfl rfl (by unfold maxLen; omega) (by unfold maxLen; omega)
  simp only [decide_true] at hsl
  have hple := hF.le
  have hrow := fun (h0 : 0 < n) => h.row (by omega)
  have hless := fun (i : Nat) (hi : i < l.length) W => rless_any id (pc l i) W hid (hinc.at hi)
  obtain ⟨us, hus⟩ : ∃ v, v = idC (id) := ⟨_, rfl⟩
  have husl := idC_len hid
  have husi := idC_info hid
  have huso := idC_one (id)
  rw [← hus] at husl husi huso
  have husr : us.length = (List.replicate 32 (Value.int .u8 0)).length := by rw [husl]; rfl
  obtain ⟨xr, hxr⟩ : ∃ v, v = idC (rootP M) := ⟨_, rfl⟩
  have hxrl := idC_len (rootP_id M)
  have hxri := idC_info (rootP_id M)
  have hxro := idC_one (rootP M)
  rw [← hxr] at hxrl hxri hxro
  have hxrr : xr.length = (List.replicate 32 (Value.int .u8 0)).length := by rw [hxrl]; rfl
  simp only [← hus] at hin
  simp only [← hxr] at hro
  simp only [← hus] at hpv
  simp only [← hus, ← hxr] at hvf
  rw [← hus]
  rw [← hn] at hple
  have H_hck := Box.mk hck
  have H_hin := Box.mk hin
  have H_hn := Box.mk hn
  have H_h := Box.mk h
  have H_hinc := Box.mk hinc
  have H_hno := Box.mk hno
  have H_hid := Box.mk hid
  have H_hF := Box.mk hF
  have H_hM := Box.mk hM
  have H_hrow := Box.mk hrow
  have H_hless := Box.mk hless
  have H_hus := Box.mk hus
  have H_husl := Box.mk husl
  have H_husi := Box.mk husi
  have H_huso := Box.mk huso
  have H_husr := Box.mk husr
  have H_hxr := Box.mk hxr
  have H_hxrl := Box.mk hxrl
  have H_hxri := Box.mk hxri
  have H_hxro := Box.mk hxro
  have H_hxrr := Box.mk hxrr
  have H_hMi := Box.mk hMi
  have H_hMl := Box.mk hMl
  have H_hMm := Box.mk hMm
  have H_hap := Box.mk hap
  have H_hdf := Box.mk hdf
  have H_hro := Box.mk hro
  have H_hpv := Box.mk hpv
  have H_hA := Box.mk hA
  have H_e1 := Box.mk e1
  have H_e2 := Box.mk e2
  have H_e3 := Box.mk e3
  have H_e4 := Box.mk e4
  have H_hon := Box.mk hon
  have H_hvf := Box.mk hvf
  have H_hsl := Box.mk hsl
  have H_hal0 := Box.mk hal0
  have H_hd := Box.mk hd
  have H_hapM := Box.mk hapM
  have H_hLR := Box.mk hLR
  have H_jif := Box.mk jif
  have H_jz0 := Box.mk jz0
  have H_jz1 := Box.mk jz1
  have H_jz2 := Box.mk jz2
  clear hck hin hn h hinc hno hid hF hM hrow hless hus husl husi huso husr hxr hxrl hxri hxro hxrr hMi hMl hMm hap hdf hro hpv hA e1 e2 e3 e4 hon hvf hsl hal0 hd hapM hLR jif jz0 jz1 jz2
  have hal := fun W (h : TabK W) => alive_any W h
  have H_hal := Box.mk hal
  have H_hT := Box.mk hT
  clear hal hT
  go_enter Tryd.func7, Tryd.ntmps7
  have hb0 := Below.refl w.heap.size w
  have hX := Blk.newA w w.heap.size _ 24 us rfl rfl
  go_wp2_with fail
  with_reducible refine (H_hal.out _ (H_hT.out.later (by repeat' (first | with_reducible exact hb0 | with_reducible refine Below.drew ?_ | with_reducible refine below_drewN ?_ _ | with_reducible refine Below.alloc ?_ (by have := hb0.size; first | (simp; done) | (simp; omega) | omega) _ | with_reducible refine Below.setCell ?_ (by first | (simp; done) | (simp; omega) | omega) _)))).mono ?_
  rintro e w1 ⟨rfl, hc1⟩
  replace hX := hX.later hc1
  have hb1 : Below w.heap.size w w1 := bchain (by repeat' (first | with_reducible exact hb0 | with_reducible refine Below.drew ?_ | with_reducible refine below_drewN ?_ _ | with_reducible refine Below.alloc ?_ (by have := hb0.size; first | (simp; done) | (simp; omega) | omega) _ | with_reducible refine Below.setCell ?_ (by first | (simp; done) | (simp; omega) | omega) _)) hc1
  clear hc1
  go_wp2_with fail
  with_reducible refine (H_hck.out _ (H_h.out.later hb1)).mono ?_
  rintro e w2 ⟨rfl, hc2⟩
  have hb2 : Below w.heap.size w w2 := bchain (by repeat' (first | with_reducible exact hb1 | with_reducible refine Below.drew ?_ | with_reducible refine below_drewN ?_ _ | with_reducible refine Below.alloc ?_ (by have := hb1.size; first | (simp; done) | (simp; omega) | omega) _ | with_reducible refine Below.setCell ?_ (by first | (simp; done) | (simp; omega) | omega) _)) hc2
  have hst2 : Below w1.heap.size w1 w2 := bchain (by repeat' (first | with_reducible exact Below.refl _ _ | with_reducible refine Below.drew ?_ | with_reducible refine below_drewN ?_ _ | with_reducible refine Below.alloc ?_ (by first | (simp; done) | (simp; omega) | omega) _ | with_reducible refine Below.setCell ?_ (by first | (simp; done) | (simp; omega) | omega) _)) hc2
  replace hX := hX.later hst2
  clear hst2
  clear hc2
  go_wp2_with (refine wpList_load_blkG (by first | rfl | (simp [Region.wanted]; done) | (simp [Region.wanted, yielded]; done) | (simp [Region.wanted, yielded]; omega)) 24 _ rfl w.heap.size (by rfl) 24 us _ hX Tryd.underlying24 rfl H_husi.out ?_)
  with_reducible refine (H_hin.out _ (H_h.out.later hb2)).mono ?_
  rintro e w3 ⟨rfl, hc3⟩
  have hb3 : Below w.heap.size w w3 := bchain (by repeat' (first | with_reducible exact hb2 | with_reducible refine Below.drew ?_ | with_reducible refine below_drewN ?_ _ | with_reducible refine Below.alloc ?_ (by have := hb2.size; first | (simp; done) | (simp; omega) | omega) _ | with_reducible refine Below.setCell ?_ (by first | (simp; done) | (simp; omega) | omega) _)) hc3
  have hst3 : Below w2.heap.size w2 w3 := bchain (by repeat' (first | with_reducible exact Below.refl _ _ | with_reducible refine Below.drew ?_ | with_reducible refine below_drewN ?_ _ | with_reducible refine Below.alloc ?_ (by first | (simp; done) | (simp; omega) | omega) _ | with_reducible refine Below.setCell ?_ (by first | (simp; done) | (simp; omega) | omega) _)) hc3
  replace hX := hX.later hst3
  clear hst3
  clear hc3
  go_wp2_with fail
  go_loopw [9, 8] (fun q s wr => ∃ (i r : Nat) (av : Option Addr) (cv : Nat), i ≤ n ∧ (i ≤ p → r = i) ∧ (p < i → r = i + 1) ∧ q = .int .i64 i ∧ s = .slice av r cv ∧ Below w.heap.size w wr ∧ OwnX wr (w.heap.size + 1) 24 32 (.slice av r cv) r (idsC (growP l id p i)) ∧ Blk wr w.heap.size 24 us) (fun q s _ => n - (intOf q).toNat)
  case atStart => exact ⟨0, 0, none, 0, Nat.zero_le _, fun _ => rfl, fun h => by omega, rfl, rfl, hb3, by rw [show growP l id p 0 = [] by unfold growP; simp]; exact OwnX.nil _ _ _ _, hX⟩
  case round =>
    clear hX hb3
    obtain ⟨i, r, av, cv, hi, hr1, hr2, rfl, rfl, hbw, ow, hX⟩ := hrel
    have hrle : r ≤ i + 1 := by
      rcases Nat.lt_or_ge p i with h | h
      · have := hr2 h; omega
      · have := hr1 h; omega
    by_cases hlt : i < n
    · have hltI : (i : Int) < (n : Int) := by omega
      obtain ⟨b, o, rfl, hbl, hr⟩ := H_hrow.out (by omega)
      have hil : i < l.length := by have := H_hn.out; omega
      have hle := H_hless.out i hil
      have hxi := H_hinc.out.at hil
      obtain ⟨vs, hvs⟩ : ∃ v, v = idC (pc l i) := ⟨_, rfl⟩
      have hvsl := idC_len hxi
      have hvsi := idC_info hxi
      have hvso := idC_one (pc l i)
      rw [← hvs] at hvsl hvsi hvso
      have hvsr : vs.length = (List.replicate 32 (Value.int .u8 0)).length := by rw [hvsl]; rfl
      simp only [← H_hus.out, ← hvs] at hle
      have hr0 := hr i hil
      rw [← hvs] at hr0
      rcases Nat.lt_trichotomy i p with hip | hip | hip
      · have hri := hr1 (by omega)
        have hrI : ((r : Int) == (i : Int)) = true := by simp; omega
        rw [H_hF.out.lo i hip] at hle
        have H_hil := Box.mk hil
        have H_hle := Box.mk hle
        have H_hxi := Box.mk hxi
        have H_hvs := Box.mk hvs
        have H_hvsl := Box.mk hvsl
        have H_hvsi := Box.mk hvsi
        have H_hvso := Box.mk hvso
        have H_hvsr := Box.mk hvsr
        have H_hr1 := Box.mk hr1
        have H_hr2 := Box.mk hr2
        have H_hri := Box.mk hri
        have H_hr := Box.mk hr
        have H_hr0 := Box.mk hr0
        have H_hip := Box.mk hip
        have H_hbl := Box.mk hbl
        clear hil hle hxi hvs hvsl hvsi hvso hvsr hr1 hr2 hri hr hr0 hip hbl
        go_wp2_with fail
        refine wp_gen fun w11 hc11 => ?_
        have hb11 : Below w.heap.size w w11 := bchain (by repeat' (first | with_reducible exact hbw | with_reducible refine Below.drew ?_ | with_reducible refine below_drewN ?_ _ | with_reducible refine Below.alloc ?_ (by have := hbw.size; first | (simp; done) | (simp; omega) | omega) _ | with_reducible refine Below.setCell ?_ (by first | (simp; done) | (simp; omega) | omega) _)) hc11
        have hst11 : Below wr.heap.size wr w11 := bchain (by repeat' (first | with_reducible exact Below.refl _ _ | with_reducible refine Below.drew ?_ | with_reducible refine below_drewN ?_ _ | with_reducible refine Below.alloc ?_ (by first | (simp; done) | (simp; omega) | omega) _ | with_reducible refine Below.setCell ?_ (by first | (simp; done) | (simp; omega) | omega) _)) hc11
        replace hX := hX.later hst11
        replace ow := ow.later hst11
        clear hst11
        have hrx := hX.rangeAt
        have hry := rangeAt_later H_hr0.out hb11
        clear hc11
        refine wp_region_on (by kernel_rfl) (by kernel_rfl) ?_
        repeat (first | (go_big_quiet_step ((first | (go_at_call 29; with_reducible exact calls_on (H_hle.out _))))) | ((refine wpQuiet_load_mid (by first | rfl | (simp [Region.wanted]; done)) 24 _ rfl w.heap.size 0 (by rfl) us _ hrx Tryd.underlying24 rfl H_husi.out ?_); simp only [Act.put, List.setIfInBounds_toArray, List.set_cons_succ, List.set_cons_zero]) | ((refine wpQuiet_load_mid (by first | rfl | (simp [Region.wanted]; done)) 24 _ rfl b (o + i * 32) (by rfl) vs _ hry Tryd.underlying24 rfl H_hvsi.out ?_); simp only [Act.put, List.setIfInBounds_toArray, List.set_cons_succ, List.set_cons_zero]))
        refine wpQuiet_nil ?_
        intro w12 hc12
        have hb12 : Below w.heap.size w w12 := bchain (by repeat' (first | with_reducible exact hb11 | with_reducible refine Below.drew ?_ | with_reducible refine below_drewN ?_ _ | with_reducible refine Below.alloc ?_ (by have := hb11.size; first | (simp; done) | (simp; omega) | omega) _ | with_reducible refine Below.setCell ?_ (by first | (simp; done) | (simp; omega) | omega) _)) hc12
        have hst12 : Below w11.heap.size w11 w12 := bchain (by repeat' (first | with_reducible exact Below.refl _ _ | with_reducible refine Below.drew ?_ | with_reducible refine below_drewN ?_ _ | with_reducible refine Below.alloc ?_ (by first | (simp; done) | (simp; omega) | omega) _ | with_reducible refine Below.setCell ?_ (by first | (simp; done) | (simp; omega) | omega) _)) hc12
        replace hX := hX.later hst12
        replace ow := ow.later hst12
        clear hst12
        clear hc12 hrx hry
        go_upto_region 10 with fail
        go_wp2_with (first | (refine wpList_load_mid rfl 24 _ rfl b (o + i * 32) (by rfl) vs _ (rangeAt_later H_hr0.out hb12) Tryd.underlying24 rfl H_hvsi.out ?_) | (refine wpList_load_blk rfl 24 _ rfl w.heap.size (by rfl) 24 us _ hX Tryd.underlying24 rfl H_husi.out ?_) | (refine wpList_build_id rfl _ rfl vs (by rfl) H_hvsl.out ?_) | (at_builtin; refine stop ?_))
        refine Stop.go ?_
        refine wpList_append_x _ rfl _ _ 22 rfl (w.heap.size + 1) 24 j0 _ 32 32 Tryd.underlying22 H_jif.out H_jz0.out H_jz1.out H_jz2.out oneCell_idz (by decide) (.slice av (r) cv) (r) _ rfl (ow.alloc _) (some ⟨w12.heap.size, 0, none⟩) 1 1 vs (by rfl) (by rw [H_hvsl.out]) (Blk.cellsRow (Blk.newA w12 _ _ _ vs rfl rfl)) H_hvso.out (by unfold maxLen; omega) (by omega) (by have := hb12.size; have := hX.lt; simp; omega) ?_
        intro a13 c13 w13 o13 hg _
        have hcB : Below (w.heap.size + 1) (w12.alloc (.cells vs.toArray 24)) w13 := below_grownX (Below.refl _ _) hg (by have := hX.lt; simp; omega) (fun q hq => (ow.lt q hq).1)
        have hb13 : Below w.heap.size w w13 := (hb12.alloc hb12.size _).trans (hcB.mono (by omega))
        replace hX := (hX.alloc (.cells vs.toArray 24)).below hcB (by omega)
        clear hg hcB ow
        have ow := o13
        clear o13
        go_wp2_with fail
        go_roundw
        case rel => exact ⟨i + 1, r + 1, a13, c13, by omega, fun _ => by have := H_hri.out; omega, fun hh => by have := H_hip.out; omega, by go_num, rfl, hb13, by rw [grow_lt H_hip.out H_hil.out, idsC_append, idsC_single, ← H_hvs.out]; exact ow, hX⟩
        case measure => simp [intOf]; omega
      · have hri := hr1 (by omega)
        have hrI : ((r : Int) == (i : Int)) = true := by simp; omega
        have hpl : p < l.length := by omega
        rw [hip, H_hF.out.at_ hpl] at hle
        have H_hil := Box.mk hil
        have H_hle := Box.mk hle
        have H_hxi := Box.mk hxi
        have H_hvs := Box.mk hvs
        have H_hvsl := Box.mk hvsl
        have H_hvsi := Box.mk hvsi
        have H_hvso := Box.mk hvso
        have H_hvsr := Box.mk hvsr
        have H_hr1 := Box.mk hr1
        have H_hr2 := Box.mk hr2
        have H_hri := Box.mk hri
        have H_hr := Box.mk hr
        have H_hr0 := Box.mk hr0
        have H_hip := Box.mk hip
        have H_hbl := Box.mk hbl
        have H_hpl := Box.mk hpl
        clear hil hle hxi hvs hvsl hvsi hvso hvsr hr1 hr2 hri hr hr0 hip hbl hpl
        go_wp2_with fail
        refine wp_gen fun w11 hc11 => ?_
        have hb11 : Below w.heap.size w w11 := bchain (by repeat' (first | with_reducible exact hbw | with_reducible refine Below.drew ?_ | with_reducible refine below_drewN ?_ _ | with_reducible refine Below.alloc ?_ (by have := hbw.size; first | (simp; done) | (simp; omega) | omega) _ | with_reducible refine Below.setCell ?_ (by first | (simp; done) | (simp; omega) | omega) _)) hc11
        have hst11 : Below wr.heap.size wr w11 := bchain (by repeat' (first | with_reducible exact Below.refl _ _ | with_reducible refine Below.drew ?_ | with_reducible refine below_drewN ?_ _ | with_reducible refine Below.alloc ?_ (by first | (simp; done) | (simp; omega) | omega) _ | with_reducible refine Below.setCell ?_ (by first | (simp; done) | (simp; omega) | omega) _)) hc11
        replace hX := hX.later hst11
        replace ow := ow.later hst11
        clear hst11
        have hrx := hX.rangeAt
        have hry := rangeAt_later H_hr0.out hb11
        clear hc11
        refine wp_region_on (by kernel_rfl) (by kernel_rfl) ?_
        repeat (first | (go_big_quiet_step ((first | (go_at_call 29; with_reducible exact calls_on (H_hle.out _))))) | ((refine wpQuiet_load_mid (by first | rfl | (simp [Region.wanted]; done)) 24 _ rfl w.heap.size 0 (by rfl) us _ hrx Tryd.underlying24 rfl H_husi.out ?_); simp only [Act.put, List.setIfInBounds_toArray, List.set_cons_succ, List.set_cons_zero]) | ((refine wpQuiet_load_mid (by first | rfl | (simp [Region.wanted]; done)) 24 _ rfl b (o + i * 32) (by rfl) vs _ hry Tryd.underlying24 rfl H_hvsi.out ?_); simp only [Act.put, List.setIfInBounds_toArray, List.set_cons_succ, List.set_cons_zero]) | ((refine wpQuiet_load_mid (by first | rfl | (simp [Region.wanted]; done)) 24 _ rfl w.heap.size 0 (by rfl) us _ hrx Tryd.underlying24 rfl H_husi.out ?_); simp only [Act.put, List.setIfInBounds_toArray, List.set_cons_succ, List.set_cons_zero]) | ((refine wpQuiet_load_mid (by first | rfl | (simp [Region.wanted]; done)) 24 _ rfl b (o + i * 32) (by rfl) vs _ hry Tryd.underlying24 rfl H_hvsi.out ?_); simp only [Act.put, List.setIfInBounds_toArray, List.set_cons_succ, List.set_cons_zero]))
        refine wpQuiet_nil ?_
        intro w12 hc12
        have hb12 : Below w.heap.size w w12 := bchain (by repeat' (first | with_reducible exact hb11 | with_reducible refine Below.drew ?_ | with_reducible refine below_drewN ?_ _ | with_reducible refine Below.alloc ?_ (by have := hb11.size; first | (simp; done) | (simp; omega) | omega) _ | with_reducible refine Below.setCell ?_ (by first | (simp; done) | (simp; omega) | omega) _)) hc12
        have hst12 : Below w11.heap.size w11 w12 := bchain (by repeat' (first | with_reducible exact Below.refl _ _ | with_reducible refine Below.drew ?_ | with_reducible refine below_drewN ?_ _ | with_reducible refine Below.alloc ?_ (by first | (simp; done) | (simp; omega) | omega) _ | with_reducible refine Below.setCell ?_ (by first | (simp; done) | (simp; omega) | omega) _)) hc12
        replace hX := hX.later hst12
        replace ow := ow.later hst12
        clear hst12
        clear hc12 hrx hry
        go_upto_region 9 with fail
        go_wp2_with (first | (refine wpList_load_mid rfl 24 _ rfl b (o + i * 32) (by rfl) vs _ (rangeAt_later H_hr0.out hb12) Tryd.underlying24 rfl H_hvsi.out ?_) | (refine wpList_load_blk rfl 24 _ rfl w.heap.size (by rfl) 24 us _ hX Tryd.underlying24 rfl H_husi.out ?_) | (refine wpList_build_id rfl _ rfl us (by rfl) H_husl.out ?_) | (at_builtin; refine stop ?_))
        refine Stop.go ?_
        refine wpList_append_x _ rfl _ _ 22 rfl (w.heap.size + 1) 24 j0 _ 32 32 Tryd.underlying22 H_jif.out H_jz0.out H_jz1.out H_jz2.out oneCell_idz (by decide) (.slice av (r) cv) (r) _ rfl (ow.alloc _) (some ⟨w12.heap.size, 0, none⟩) 1 1 us (by rfl) (by rw [H_husl.out]) (Blk.cellsRow (Blk.newA w12 _ _ _ us rfl rfl)) H_huso.out (by unfold maxLen; omega) (by omega) (by have := hb12.size; have := hX.lt; simp; omega) ?_
        intro a13 c13 w13 o13 hg _
        have hcB : Below (w.heap.size + 1) (w12.alloc (.cells us.toArray 24)) w13 := below_grownX (Below.refl _ _) hg (by have := hX.lt; simp; omega) (fun q hq => (ow.lt q hq).1)
        have hb13 : Below w.heap.size w w13 := (hb12.alloc hb12.size _).trans (hcB.mono (by omega))
        replace hX := (hX.alloc (.cells us.toArray 24)).below hcB (by omega)
        clear hg hcB ow
        have ow := o13
        clear o13
        go_wp2_with (first | (refine wpList_load_mid rfl 24 _ rfl b (o + i * 32) (by rfl) vs _ (rangeAt_later H_hr0.out hb13) Tryd.underlying24 rfl H_hvsi.out ?_) | (refine wpList_load_blk rfl 24 _ rfl w.heap.size (by rfl) 24 us _ hX Tryd.underlying24 rfl H_husi.out ?_) | (refine wpList_build_id rfl _ rfl vs (by rfl) H_hvsl.out ?_) | (at_builtin; refine stop ?_))
        refine Stop.go ?_
        refine wpList_append_x _ rfl _ _ 22 rfl (w.heap.size + 1) 24 j0 _ 32 32 Tryd.underlying22 H_jif.out H_jz0.out H_jz1.out H_jz2.out oneCell_idz (by decide) (.slice a13 (r + 1) c13) (r + 1) _ rfl (ow.alloc _) (some ⟨w13.heap.size, 0, none⟩) 1 1 vs (by rfl) (by rw [H_hvsl.out]) (Blk.cellsRow (Blk.newA w13 _ _ _ vs rfl rfl)) H_hvso.out (by unfold maxLen; omega) (by omega) (by have := hb13.size; have := hX.lt; simp; omega) ?_
        intro a14 c14 w14 o14 hg _
        have hcB : Below (w.heap.size + 1) (w13.alloc (.cells vs.toArray 24)) w14 := below_grownX (Below.refl _ _) hg (by have := hX.lt; simp; omega) (fun q hq => (ow.lt q hq).1)
        have hb14 : Below w.heap.size w w14 := (hb13.alloc hb13.size _).trans (hcB.mono (by omega))
        replace hX := (hX.alloc (.cells vs.toArray 24)).below hcB (by omega)
        clear hg hcB ow
        have ow := o14
        clear o14
        go_wp2_with fail
        go_roundw
        case rel => exact ⟨i + 1, r + 1 + 1, a14, c14, by omega, fun hh => by have := H_hip.out; omega, fun _ => by have := H_hri.out; omega, by go_num, rfl, hb14, by
          have e := H_hvs.out
          rw [H_hip.out] at e ow ⊢
          rw [grow_at H_hpl.out, idsC_append, idsC_append, idsC_single, idsC_single, ← H_hus.out, ← e]
          exact ow, hX⟩
        case measure => simp [intOf]; omega
      · have hri := hr2 hip
        have hrI : ((r : Int) == (i : Int)) = false := by simp; omega
        have H_hil := Box.mk hil
        have H_hle := Box.mk hle
        have H_hxi := Box.mk hxi
        have H_hvs := Box.mk hvs
        have H_hvsl := Box.mk hvsl
        have H_hvsi := Box.mk hvsi
        have H_hvso := Box.mk hvso
        have H_hvsr := Box.mk hvsr
        have H_hr1 := Box.mk hr1
        have H_hr2 := Box.mk hr2
        have H_hri := Box.mk hri
        have H_hr := Box.mk hr
        have H_hr0 := Box.mk hr0
        have H_hip := Box.mk hip
        have H_hbl := Box.mk hbl
        clear hil hle hxi hvs hvsl hvsi hvso hvsr hr1 hr2 hri hr hr0 hip hbl
        go_wp2_with fail
        refine wp_gen fun w11 hc11 => ?_
        have hb11 : Below w.heap.size w w11 := bchain (by repeat' (first | with_reducible exact hbw | with_reducible refine Below.drew ?_ | with_reducible refine below_drewN ?_ _ | with_reducible refine Below.alloc ?_ (by have := hbw.size; first | (simp; done) | (simp; omega) | omega) _ | with_reducible refine Below.setCell ?_ (by first | (simp; done) | (simp; omega) | omega) _)) hc11
        have hst11 : Below wr.heap.size wr w11 := bchain (by repeat' (first | with_reducible exact Below.refl _ _ | with_reducible refine Below.drew ?_ | with_reducible refine below_drewN ?_ _ | with_reducible refine Below.alloc ?_ (by first | (simp; done) | (simp; omega) | omega) _ | with_reducible refine Below.setCell ?_ (by first | (simp; done) | (simp; omega) | omega) _)) hc11
        replace hX := hX.later hst11
        replace ow := ow.later hst11
        clear hst11
        have hrx := hX.rangeAt
        have hry := rangeAt_later H_hr0.out hb11
        clear hc11
        refine wp_region_on (by kernel_rfl) (by kernel_rfl) ?_
        repeat (first | (go_big_quiet_step ((first | (go_at_call 29; with_reducible exact calls_on (H_hle.out _))))) | ((refine wpQuiet_load_mid (by first | rfl | (simp [Region.wanted]; done)) 24 _ rfl w.heap.size 0 (by rfl) us _ hrx Tryd.underlying24 rfl H_husi.out ?_); simp only [Act.put, List.setIfInBounds_toArray, List.set_cons_succ, List.set_cons_zero]) | ((refine wpQuiet_load_mid (by first | rfl | (simp [Region.wanted]; done)) 24 _ rfl b (o + i * 32) (by rfl) vs _ hry Tryd.underlying24 rfl H_hvsi.out ?_); simp only [Act.put, List.setIfInBounds_toArray, List.set_cons_succ, List.set_cons_zero]) | ((refine wpQuiet_load_mid (by first | rfl | (simp [Region.wanted]; done)) 24 _ rfl w.heap.size 0 (by rfl) us _ hrx Tryd.underlying24 rfl H_husi.out ?_); simp only [Act.put, List.setIfInBounds_toArray, List.set_cons_succ, List.set_cons_zero]) | ((refine wpQuiet_load_mid (by first | rfl | (simp [Region.wanted]; done)) 24 _ rfl b (o + i * 32) (by rfl) vs _ hry Tryd.underlying24 rfl H_hvsi.out ?_); simp only [Act.put, List.setIfInBounds_toArray, List.set_cons_succ, List.set_cons_zero]) | ((refine wpQuiet_load_mid (by first | rfl | (simp [Region.wanted]; done)) 24 _ rfl w.heap.size 0 (by rfl) us _ hrx Tryd.underlying24 rfl H_husi.out ?_); simp only [Act.put, List.setIfInBounds_toArray, List.set_cons_succ, List.set_cons_zero]) | ((refine wpQuiet_load_mid (by first | rfl | (simp [Region.wanted]; done)) 24 _ rfl b (o + i * 32) (by rfl) vs _ hry Tryd.underlying24 rfl H_hvsi.out ?_); simp only [Act.put, List.setIfInBounds_toArray, List.set_cons_succ, List.set_cons_zero]))
        refine wpQuiet_nil ?_
        intro w12 hc12
        have hb12 : Below w.heap.size w w12 := bchain (by repeat' (first | with_reducible exact hb11 | with_reducible refine Below.drew ?_ | with_reducible refine below_drewN ?_ _ | with_reducible refine Below.alloc ?_ (by have := hb11.size; first | (simp; done) | (simp; omega) | omega) _ | with_reducible refine Below.setCell ?_ (by first | (simp; done) | (simp; omega) | omega) _)) hc12
        have hst12 : Below w11.heap.size w11 w12 := bchain (by repeat' (first | with_reducible exact Below.refl _ _ | with_reducible refine Below.drew ?_ | with_reducible refine below_drewN ?_ _ | with_reducible refine Below.alloc ?_ (by first | (simp; done) | (simp; omega) | omega) _ | with_reducible refine Below.setCell ?_ (by first | (simp; done) | (simp; omega) | omega) _)) hc12
        replace hX := hX.later hst12
        replace ow := ow.later hst12
        clear hst12
        clear hc12 hrx hry
        go_upto_region 10 with fail
        go_wp2_with (first | (refine wpList_load_mid rfl 24 _ rfl b (o + i * 32) (by rfl) vs _ (rangeAt_later H_hr0.out hb12) Tryd.underlying24 rfl H_hvsi.out ?_) | (refine wpList_load_blk rfl 24 _ rfl w.heap.size (by rfl) 24 us _ hX Tryd.underlying24 rfl H_husi.out ?_) | (refine wpList_build_id rfl _ rfl vs (by rfl) H_hvsl.out ?_) | (at_builtin; refine stop ?_))
        refine Stop.go ?_
        refine wpList_append_x _ rfl _ _ 22 rfl (w.heap.size + 1) 24 j0 _ 32 32 Tryd.underlying22 H_jif.out H_jz0.out H_jz1.out H_jz2.out oneCell_idz (by decide) (.slice av (r) cv) (r) _ rfl (ow.alloc _) (some ⟨w12.heap.size, 0, none⟩) 1 1 vs (by rfl) (by rw [H_hvsl.out]) (Blk.cellsRow (Blk.newA w12 _ _ _ vs rfl rfl)) H_hvso.out (by unfold maxLen; omega) (by omega) (by have := hb12.size; have := hX.lt; simp; omega) ?_
        intro a13 c13 w13 o13 hg _
        have hcB : Below (w.heap.size + 1) (w12.alloc (.cells vs.toArray 24)) w13 := below_grownX (Below.refl _ _) hg (by have := hX.lt; simp; omega) (fun q hq => (ow.lt q hq).1)
        have hb13 : Below w.heap.size w w13 := (hb12.alloc hb12.size _).trans (hcB.mono (by omega))
        replace hX := (hX.alloc (.cells vs.toArray 24)).below hcB (by omega)
        clear hg hcB ow
        have ow := o13
        clear o13
        go_wp2_with fail
        go_roundw
        case rel => exact ⟨i + 1, r + 1, a13, c13, by omega, fun hh => by have := H_hip.out; omega, fun _ => by have := H_hri.out; omega, by go_num, rfl, hb13, by rw [grow_gt H_hip.out H_hil.out, idsC_append, idsC_single, ← H_hvs.out]; exact ow, hX⟩
        case measure => simp [intOf]; omega
    · obtain rfl : n = i := by omega
      have hge : (n : Int) ≤ (n : Int) := Int.le_refl _
      clear hlt
      refine wp_gen fun w10 hc10 => ?_
      have hb10 := bchain hbw hc10
      replace ow := ow.later hc10
      replace hX := hX.later hc10
      clear hc10 hbw
      by_cases hpn : p < n
      · have hrn := hr2 hpn
        have hrI : ((r : Int) == (n : Int)) = false := by simp; omega
        have hmr : r = M.length := by have := H_hMl.out; omega
        have hI : IdsIn w10 av cv M := ow.idsIn' (by rw [H_hn.out, grow_end (by have := H_hn.out; omega), H_hM.out]) hmr H_hMi.out.ids
        have H_hmr := Box.mk hmr
        have H_hrn := Box.mk hrn
        have H_hr1 := Box.mk hr1
        have H_hr2 := Box.mk hr2
        have H_hpn := Box.mk hpn
        clear hmr hrn hr1 hr2 hpn
        go_upto_region 13 with fail
        refine wp_gen fun w20 hc20 => ?_
        have hb20 := bchain hb10 hc20
        replace hI := hI.later hc20
        replace hX := hX.later hc20
        clear hc20 ow
        go_wp2_with fail
        with_reducible refine (H_hap.out _ _ _ _ hI H_hmr.out (H_h.out.later hb20)).mono ?_
        rintro e w21 ⟨rfl, hc21⟩
        have hb21 : Below w.heap.size w w21 := bchain (by repeat' (first | with_reducible exact hb20 | with_reducible refine Below.drew ?_ | with_reducible refine below_drewN ?_ _ | with_reducible refine Below.alloc ?_ (by have := hb20.size; first | (simp; done) | (simp; omega) | omega) _ | with_reducible refine Below.setCell ?_ (by first | (simp; done) | (simp; omega) | omega) _)) hc21
        have hst21 : Below w20.heap.size w20 w21 := bchain (by repeat' (first | with_reducible exact Below.refl _ _ | with_reducible refine Below.drew ?_ | with_reducible refine below_drewN ?_ _ | with_reducible refine Below.alloc ?_ (by first | (simp; done) | (simp; omega) | omega) _ | with_reducible refine Below.setCell ?_ (by first | (simp; done) | (simp; omega) | omega) _)) hc21
        replace hX := hX.later hst21
        replace hI := hI.later hst21
        clear hst21
        clear hc21
        cases V with
        | false =>
          go_wp2_with fail
          go_ret
          exact ⟨rfl, by repeat' (first | with_reducible exact hb21 | with_reducible refine Below.drew ?_ | with_reducible refine below_drewN ?_ _ | with_reducible refine Below.alloc ?_ (by have := hb21.size; first | (simp; done) | (simp; omega) | omega) _ | with_reducible refine Below.setCell ?_ (by first | (simp; done) | (simp; omega) | omega) _)⟩
        | true =>
          have hdg := H_hdf.out rfl
          have H_hdg := Box.mk hdg
          clear hdg
          go_wp2_with fail
          with_reducible refine (H_hdg.out _ _ _ _ hI H_hmr.out (H_h.out.later hb21) (H_hT.out.later hb21) (fun x e => Nat.lt_of_lt_of_le (H_hal0.out x e) hb21.size)).mono ?_
          rintro e w22 ⟨⟨la, lc, ra, rc, rfl, hL⟩, hc22⟩
          have hb22 : Below w.heap.size w w22 := bchain (by repeat' (first | with_reducible exact hb21 | with_reducible refine Below.drew ?_ | with_reducible refine below_drewN ?_ _ | with_reducible refine Below.alloc ?_ (by have := hb21.size; first | (simp; done) | (simp; omega) | omega) _ | with_reducible refine Below.setCell ?_ (by first | (simp; done) | (simp; omega) | omega) _)) hc22
          have hst22 : Below w21.heap.size w21 w22 := bchain (by repeat' (first | with_reducible exact Below.refl _ _ | with_reducible refine Below.drew ?_ | with_reducible refine below_drewN ?_ _ | with_reducible refine Below.alloc ?_ (by first | (simp; done) | (simp; omega) | omega) _ | with_reducible refine Below.setCell ?_ (by first | (simp; done) | (simp; omega) | omega) _)) hc22
          replace hX := hX.later hst22
          replace hI := hI.later hst22
          clear hst22
          clear hc22
          go_wp2_with fail
          with_reducible refine (H_hro.out _ _ _ _ hI H_hmr.out (H_hT.out.later hb22)).mono ?_
          rintro e w23 ⟨rfl, hc23⟩
          have hb23 : Below w.heap.size w w23 := bchain (by repeat' (first | with_reducible exact hb22 | with_reducible refine Below.drew ?_ | with_reducible refine below_drewN ?_ _ | with_reducible refine Below.alloc ?_ (by have := hb22.size; first | (simp; done) | (simp; omega) | omega) _ | with_reducible refine Below.setCell ?_ (by first | (simp; done) | (simp; omega) | omega) _)) hc23
          have hst23 : Below w22.heap.size w22 w23 := bchain (by repeat' (first | with_reducible exact Below.refl _ _ | with_reducible refine Below.drew ?_ | with_reducible refine below_drewN ?_ _ | with_reducible refine Below.alloc ?_ (by first | (simp; done) | (simp; omega) | omega) _ | with_reducible refine Below.setCell ?_ (by first | (simp; done) | (simp; omega) | omega) _)) hc23
          replace hX := hX.later hst23
          replace hI := hI.later hst23
          replace hL := hL.later hst23
          clear hst23
          clear hc23
          have hN23 := Blk.newA w23 w23.heap.size _ 24 (List.replicate 32 (Value.int .u8 0)) rfl rfl
          go_upto_region 17 with (refine wpList_store_blk rfl 24 _ _ rfl w23.heap.size (by rfl) 24 _ xr (by rfl) hN23 H_hxrr.out H_hxri.out H_hxro.out ?_; intro w24 hR he24; have H24 := Box.mk he24; clear he24)
          have hc24 : Below w23.heap.size w23 w24 := H24.out ▸ below_setCells (Nat.le_refl _) _ _ _ ((Below.refl _ _).alloc (Nat.le_refl _) _)
          have hb24 : Below w.heap.size w w24 := bchain (by repeat' (first | with_reducible exact hb23 | with_reducible refine Below.drew ?_ | with_reducible refine below_drewN ?_ _ | with_reducible refine Below.alloc ?_ (by have := hb23.size; first | (simp; done) | (simp; omega) | omega) _ | with_reducible refine Below.setCell ?_ (by first | (simp; done) | (simp; omega) | omega) _)) hc24
          have hst24 : Below w23.heap.size w23 w24 := bchain (by repeat' (first | with_reducible exact Below.refl _ _ | with_reducible refine Below.drew ?_ | with_reducible refine below_drewN ?_ _ | with_reducible refine Below.alloc ?_ (by first | (simp; done) | (simp; omega) | omega) _ | with_reducible refine Below.setCell ?_ (by first | (simp; done) | (simp; omega) | omega) _)) hc24
          replace hX := hX.later hst24
          replace hI := hI.later hst24
          replace hL := hL.later hst24
          clear hst24
          clear hc24 hN23 H24
          go_wp2_with (refine wpList_load_blk rfl 24 _ rfl w.heap.size (by rfl) 24 us _ hX Tryd.underlying24 rfl H_husi.out ?_)
          with_reducible refine (H_hpv.out _ _ _ _ hI H_hmr.out (H_hT.out.later hb24)).mono ?_
          rintro e w25 ⟨⟨ba, bc, da, dc, rfl, hp⟩, hc25⟩
          have hb25 : Below w.heap.size w w25 := bchain (by repeat' (first | with_reducible exact hb24 | with_reducible refine Below.drew ?_ | with_reducible refine below_drewN ?_ _ | with_reducible refine Below.alloc ?_ (by have := hb24.size; first | (simp; done) | (simp; omega) | omega) _ | with_reducible refine Below.setCell ?_ (by first | (simp; done) | (simp; omega) | omega) _)) hc25
          have hst25 : Below w24.heap.size w24 w25 := bchain (by repeat' (first | with_reducible exact Below.refl _ _ | with_reducible refine Below.drew ?_ | with_reducible refine below_drewN ?_ _ | with_reducible refine Below.alloc ?_ (by first | (simp; done) | (simp; omega) | omega) _ | with_reducible refine Below.setCell ?_ (by first | (simp; done) | (simp; omega) | omega) _)) hc25
          replace hX := hX.later hst25
          replace hI := hI.later hst25
          replace hL := hL.later hst25
          replace hR := hR.later hst25
          clear hst25
          clear hc25
          obtain ⟨PV, hPV⟩ : ∃ PV, PV = prC ba nb bc da nb dc on false := ⟨_, rfl⟩
          have hPVl : PV.length = 35 := by rw [hPV]; exact prC_len H_hon.out
          have hPVi : (Tryd.prog.info? 41).map (·.size) = some PV.length := by rw [hPVl]; exact info35
          have hPV1 : ∀ u ∈ PV, u.oneCell' = true := by rw [hPV]; exact prC_one _ _ _ _ _ _ _ _
          have hvf2 := fun W h hT => H_hvf.out W ba da bc dc h hT
          rw [← hPV] at hvf2
          have H_hPV := Box.mk hPV
          have H_hPVl := Box.mk hPVl
          have H_hPVi := Box.mk hPVi
          have H_hPV1 := Box.mk hPV1
          have H_hvf2 := Box.mk hvf2
          clear hPV hPVl hPVi hPV1 hvf2
          have hN25 := newPr w25 w25.heap.size rfl
          go_upto_region 18 with (refine wpList_store_blk rfl 41 _ _ rfl w25.heap.size (by rfl) 41 _ PV (by rw [H_hPV.out]; rfl) hN25 (by rw [H_hPVl.out]; rfl) H_hPVi.out H_hPV1.out ?_; intro w26 hP he26; have H26 := Box.mk he26; clear he26)
          have hc26 : Below w25.heap.size w25 w26 := H26.out ▸ below_setCells (Nat.le_refl _) _ _ _ ((Below.refl _ _).alloc (Nat.le_refl _) _)
          have hb26 : Below w.heap.size w w26 := bchain (by repeat' (first | with_reducible exact hb25 | with_reducible refine Below.drew ?_ | with_reducible refine below_drewN ?_ _ | with_reducible refine Below.alloc ?_ (by have := hb25.size; first | (simp; done) | (simp; omega) | omega) _ | with_reducible refine Below.setCell ?_ (by first | (simp; done) | (simp; omega) | omega) _)) hc26
          have hst26 : Below w25.heap.size w25 w26 := bchain (by repeat' (first | with_reducible exact Below.refl _ _ | with_reducible refine Below.drew ?_ | with_reducible refine below_drewN ?_ _ | with_reducible refine Below.alloc ?_ (by first | (simp; done) | (simp; omega) | omega) _ | with_reducible refine Below.setCell ?_ (by first | (simp; done) | (simp; omega) | omega) _)) hc26
          replace hX := hX.later hst26
          replace hI := hI.later hst26
          replace hL := hL.later hst26
          replace hR := hR.later hst26
          replace hp := hp.later hst26
          clear hst26
          clear hc26 hN25 H26
          go_wp2_with (first | (refine wpList_load_blk rfl 24 _ rfl w.heap.size (by rfl) 24 us _ hX Tryd.underlying24 rfl H_husi.out ?_) | (refine wpList_load_blk rfl 41 _ rfl w25.heap.size (by rfl) 41 PV _ hP Tryd.underlying41 rfl H_hPVi.out ?_) | (refine wpList_load_blk rfl 24 _ rfl w23.heap.size (by rfl) 24 xr _ hR Tryd.underlying24 rfl H_hxri.out ?_))
          with_reducible refine (H_hvf2.out _ hp (H_hT.out.later hb26)).mono ?_
          rintro e w27 ⟨rfl, hc27⟩
          have hb27 : Below w.heap.size w w27 := bchain (by repeat' (first | with_reducible exact hb26 | with_reducible refine Below.drew ?_ | with_reducible refine below_drewN ?_ _ | with_reducible refine Below.alloc ?_ (by have := hb26.size; first | (simp; done) | (simp; omega) | omega) _ | with_reducible refine Below.setCell ?_ (by first | (simp; done) | (simp; omega) | omega) _)) hc27
          have hst27 : Below w26.heap.size w26 w27 := bchain (by repeat' (first | with_reducible exact Below.refl _ _ | with_reducible refine Below.drew ?_ | with_reducible refine below_drewN ?_ _ | with_reducible refine Below.alloc ?_ (by first | (simp; done) | (simp; omega) | omega) _ | with_reducible refine Below.setCell ?_ (by first | (simp; done) | (simp; omega) | omega) _)) hc27
          replace hX := hX.later hst27
          replace hI := hI.later hst27
          replace hL := hL.later hst27
          replace hR := hR.later hst27
          replace hp := hp.later hst27
          replace hP := hP.later hst27
          clear hst27
          clear hc27
          clear hP hp
          go_wp2_with (first | (refine wpList_load_blkG (by first | rfl | (simp [Region.wanted]; done)) 24 _ rfl w.heap.size (by rfl) 24 us _ hX Tryd.underlying24 rfl H_husi.out ?_) | (refine wpList_build_idG (by first | rfl | (simp [Region.wanted]; done)) _ rfl us (by rfl) H_husl.out ?_))
          with_reducible refine (H_hsl.out _ _ _ _ _ (hL.later ((Below.refl _ _).alloc (Nat.le_refl _) _)) (one_ids H_hid.out H_hus.out (Blk.newA w27 _ _ _ us rfl rfl))).mono ?_
          rintro e w28 ⟨rfl, hc28⟩
          have hb28 : Below w.heap.size w w28 := bchain (by repeat' (first | with_reducible exact hb27 | with_reducible refine Below.drew ?_ | with_reducible refine below_drewN ?_ _ | with_reducible refine Below.alloc ?_ (by have := hb27.size; first | (simp; done) | (simp; omega) | omega) _ | with_reducible refine Below.setCell ?_ (by first | (simp; done) | (simp; omega) | omega) _)) hc28
          have hst28 : Below w27.heap.size w27 w28 := bchain (by repeat' (first | with_reducible exact Below.refl _ _ | with_reducible refine Below.drew ?_ | with_reducible refine below_drewN ?_ _ | with_reducible refine Below.alloc ?_ (by first | (simp; done) | (simp; omega) | omega) _ | with_reducible refine Below.setCell ?_ (by first | (simp; done) | (simp; omega) | omega) _)) hc28
          replace hX := hX.later hst28
          replace hI := hI.later hst28
          replace hL := hL.later hst28
          replace hR := hR.later hst28
          clear hst28
          clear hc28
          clear hL
          rcases Int.lt_or_le at_ 0 with hat | hat
          · go_wp2_with fail
            go_ret
            exact ⟨rfl, by repeat' (first | with_reducible exact hb28 | with_reducible refine Below.drew ?_ | with_reducible refine below_drewN ?_ _ | with_reducible refine Below.alloc ?_ (by have := hb28.size; first | (simp; done) | (simp; omega) | omega) _ | with_reducible refine Below.setCell ?_ (by first | (simp; done) | (simp; omega) | omega) _)⟩
          · obtain ⟨k, rfl⟩ := Int.eq_ofNat_of_zero_le hat
            rcases Nat.lt_or_ge k n with hkn | hkn
            · have hkI : (k : Int) < (n : Int) := by omega
              have hkl : k < l.length := by have := H_hn.out; omega
              have hxk := H_hinc.out.at hkl
              have hkm := H_hF.out.all _ (pc_mem hkl)
              rw [H_hM.out] at hkm
              obtain ⟨A2, nb2, on2, hA2, f1, f2, f3, f4, hon2, hvfk⟩ := verify_in (l := M) H_hMi.out (by have := H_hMl.out; omega) hxk hkm
              have hpvk := fun W mv mr mc (h1 : IdsIn W mv mc M) (e : mr = M.length) (hT : TabK W) => prove_any M (pc l k) mv mr mc W h1 e (by have := H_hMl.out; unfold maxLen; omega) hxk hT
              rw [hA2] at hpvk
              simp only [ProveR, f1, f2, f3, f4] at hpvk
              obtain ⟨b, o, rfl, hbl, hr⟩ := H_hrow.out (by omega)
              have hr0 := hr k hkl
              obtain ⟨vs, hvs⟩ : ∃ v, v = idC (pc l k) := ⟨_, rfl⟩
              have hvsl := idC_len hxk
              have hvsi := idC_info hxk
              have hvso := idC_one (pc l k)
              rw [← hvs] at hvsl hvsi hvso
              have hvsr : vs.length = (List.replicate 32 (Value.int .u8 0)).length := by rw [hvsl]; rfl
              rw [← hvs] at hr0
              simp only [← hvs, ← H_hxr.out] at hpvk hvfk
              have H_hkl := Box.mk hkl
              have H_hxk := Box.mk hxk
              have H_hkm := Box.mk hkm
              have H_hA2 := Box.mk hA2
              have H_f1 := Box.mk f1
              have H_f2 := Box.mk f2
              have H_f3 := Box.mk f3
              have H_f4 := Box.mk f4
              have H_hon2 := Box.mk hon2
              have H_hvfk := Box.mk hvfk
              have H_hpvk := Box.mk hpvk
              have H_hbl := Box.mk hbl
              have H_hr := Box.mk hr
              have H_hr0 := Box.mk hr0
              have H_hvs := Box.mk hvs
              have H_hvsl := Box.mk hvsl
              have H_hvsi := Box.mk hvsi
              have H_hvso := Box.mk hvso
              have H_hvsr := Box.mk hvsr
              clear hkl hxk hkm hA2 f1 f2 f3 f4 hon2 hvfk hpvk hbl hr hr0 hvs hvsl hvsi hvso hvsr
              have hrk := rangeAt_later H_hr0.out hb28
              go_wp2_with (refine wpList_load_mid rfl 24 _ rfl b (o + k * 32) (by rfl) vs _ hrk Tryd.underlying24 rfl H_hvsi.out ?_)
              with_reducible refine (H_hpvk.out _ _ _ _ hI H_hmr.out (H_hT.out.later hb28)).mono ?_
              rintro e w29 ⟨⟨ba, bc, da, dc, rfl, hp⟩, hc29⟩
              have hb29 : Below w.heap.size w w29 := bchain (by repeat' (first | with_reducible exact hb28 | with_reducible refine Below.drew ?_ | with_reducible refine below_drewN ?_ _ | with_reducible refine Below.alloc ?_ (by have := hb28.size; first | (simp; done) | (simp; omega) | omega) _ | with_reducible refine Below.setCell ?_ (by first | (simp; done) | (simp; omega) | omega) _)) hc29
              have hst29 : Below w28.heap.size w28 w29 := bchain (by repeat' (first | with_reducible exact Below.refl _ _ | with_reducible refine Below.drew ?_ | with_reducible refine below_drewN ?_ _ | with_reducible refine Below.alloc ?_ (by first | (simp; done) | (simp; omega) | omega) _ | with_reducible refine Below.setCell ?_ (by first | (simp; done) | (simp; omega) | omega) _)) hc29
              replace hX := hX.later hst29
              replace hI := hI.later hst29
              replace hR := hR.later hst29
              clear hst29
              clear hc29 hrk
              obtain ⟨QV, hQV⟩ : ∃ PV, PV = prC ba nb2 bc da nb2 dc on2 false := ⟨_, rfl⟩
              have hQVl : QV.length = 35 := by rw [hQV]; exact prC_len H_hon2.out
              have hQVi : (Tryd.prog.info? 41).map (·.size) = some QV.length := by rw [hQVl]; exact info35
              have hQV1 : ∀ u ∈ QV, u.oneCell' = true := by rw [hQV]; exact prC_one _ _ _ _ _ _ _ _
              have hvf3 := fun W h hT => H_hvfk.out W ba da bc dc h hT
              rw [← hQV] at hvf3
              have H_hQV := Box.mk hQV
              have H_hQVl := Box.mk hQVl
              have H_hQVi := Box.mk hQVi
              have H_hQV1 := Box.mk hQV1
              have H_hvf3 := Box.mk hvf3
              clear hQV hQVl hQVi hQV1 hvf3
              have hN29 := newPr w29 w29.heap.size rfl
              go_upto_region 24 with (refine wpList_store_blk rfl 41 _ _ rfl w29.heap.size (by rfl) 41 _ QV (by rw [H_hQV.out]; rfl) hN29 (by rw [H_hQVl.out]; rfl) H_hQVi.out H_hQV1.out ?_; intro w30 hP he30; have H30 := Box.mk he30; clear he30)
              have hc30 : Below w29.heap.size w29 w30 := H30.out ▸ below_setCells (Nat.le_refl _) _ _ _ ((Below.refl _ _).alloc (Nat.le_refl _) _)
              have hb30 : Below w.heap.size w w30 := bchain (by repeat' (first | with_reducible exact hb29 | with_reducible refine Below.drew ?_ | with_reducible refine below_drewN ?_ _ | with_reducible refine Below.alloc ?_ (by have := hb29.size; first | (simp; done) | (simp; omega) | omega) _ | with_reducible refine Below.setCell ?_ (by first | (simp; done) | (simp; omega) | omega) _)) hc30
              have hst30 : Below w29.heap.size w29 w30 := bchain (by repeat' (first | with_reducible exact Below.refl _ _ | with_reducible refine Below.drew ?_ | with_reducible refine below_drewN ?_ _ | with_reducible refine Below.alloc ?_ (by first | (simp; done) | (simp; omega) | omega) _ | with_reducible refine Below.setCell ?_ (by first | (simp; done) | (simp; omega) | omega) _)) hc30
              replace hX := hX.later hst30
              replace hI := hI.later hst30
              replace hR := hR.later hst30
              replace hp := hp.later hst30
              clear hst30
              clear hc30 hN29 H30
              go_wp2_with fail
              refine wp_gen fun w31 hc31 => ?_
              have hb31 : Below w.heap.size w w31 := bchain (by repeat' (first | with_reducible exact hb30 | with_reducible refine Below.drew ?_ | with_reducible refine below_drewN ?_ _ | with_reducible refine Below.alloc ?_ (by have := hb30.size; first | (simp; done) | (simp; omega) | omega) _ | with_reducible refine Below.setCell ?_ (by first | (simp; done) | (simp; omega) | omega) _)) hc31
              have hst31 : Below w30.heap.size w30 w31 := bchain (by repeat' (first | with_reducible exact Below.refl _ _ | with_reducible refine Below.drew ?_ | with_reducible refine below_drewN ?_ _ | with_reducible refine Below.alloc ?_ (by first | (simp; done) | (simp; omega) | omega) _ | with_reducible refine Below.setCell ?_ (by first | (simp; done) | (simp; omega) | omega) _)) hc31
              replace hX := hX.later hst31
              replace hI := hI.later hst31
              replace hR := hR.later hst31
              replace hp := hp.later hst31
              replace hP := hP.later hst31
              clear hst31
              have hrk := rangeAt_later H_hr0.out hb31
              have hTk := H_hT.out.later hb31
              clear hc31
              refine wp_region_on (by kernel_rfl) (by kernel_rfl) ?_
              repeat (first | (go_big_quiet_step ((first | (go_at_call 27; with_reducible exact calls_on (H_hvf3.out _ (hp.later (below_later _ _)) (hTk.later (below_later _ _))))))) | ((refine wpQuiet_load_mid (by first | rfl | (simp [Region.wanted]; done)) 24 _ rfl w.heap.size 0 (by rfl) us _ hrx Tryd.underlying24 rfl H_husi.out ?_); simp only [Act.put, List.setIfInBounds_toArray, List.set_cons_succ, List.set_cons_zero]) | ((refine wpQuiet_load_mid (by first | rfl | (simp [Region.wanted]; done)) 24 _ rfl b (o + i * 32) (by rfl) vs _ hry Tryd.underlying24 rfl H_hvsi.out ?_); simp only [Act.put, List.setIfInBounds_toArray, List.set_cons_succ, List.set_cons_zero]) | ((refine wpQuiet_load_mid (by first | rfl | (simp [Region.wanted]; done)) 24 _ rfl w.heap.size 0 (by rfl) us _ hrx Tryd.underlying24 rfl H_husi.out ?_); simp only [Act.put, List.setIfInBounds_toArray, List.set_cons_succ, List.set_cons_zero]) | ((refine wpQuiet_load_mid (by first | rfl | (simp [Region.wanted]; done)) 24 _ rfl b (o + i * 32) (by rfl) vs _ hry Tryd.underlying24 rfl H_hvsi.out ?_); simp only [Act.put, List.setIfInBounds_toArray, List.set_cons_succ, List.set_cons_zero]) | ((refine wpQuiet_load_mid (by first | rfl | (simp [Region.wanted]; done)) 24 _ rfl w.heap.size 0 (by rfl) us _ hrx Tryd.underlying24 rfl H_husi.out ?_); simp only [Act.put, List.setIfInBounds_toArray, List.set_cons_succ, List.set_cons_zero]) | ((refine wpQuiet_load_mid (by first | rfl | (simp [Region.wanted]; done)) 24 _ rfl b (o + i * 32) (by rfl) vs _ hry Tryd.underlying24 rfl H_hvsi.out ?_); simp only [Act.put, List.setIfInBounds_toArray, List.set_cons_succ, List.set_cons_zero]) | (refine wpQuiet_load_blk (by first | rfl | (simp [Region.wanted]; done)) 24 _ rfl (w23.heap.size) (by rfl) 24 xr _ hR Tryd.underlying24 rfl H_hxri.out ?_; simp only [Act.put, List.setIfInBounds_toArray, List.set_cons_succ, List.set_cons_zero]) | ((refine wpQuiet_load_mid (by first | rfl | (simp [Region.wanted]; done)) 24 _ rfl b (o + k * 32) (by rfl) vs _ hrk Tryd.underlying24 rfl H_hvsi.out ?_); simp only [Act.put, List.setIfInBounds_toArray, List.set_cons_succ, List.set_cons_zero]) | (refine wpQuiet_load_blk (by first | rfl | (simp [Region.wanted]; done)) 41 _ rfl (w29.heap.size) (by rfl) 41 QV _ hP Tryd.underlying41 rfl H_hQVi.out ?_; simp only [Act.put, List.setIfInBounds_toArray, List.set_cons_succ, List.set_cons_zero]))
              refine wpQuiet_nil ?_
              intro w32 hc32
              have hb32 : Below w.heap.size w w32 := bchain (by repeat' (first | with_reducible exact hb31 | with_reducible refine Below.drew ?_ | with_reducible refine below_drewN ?_ _ | with_reducible refine Below.alloc ?_ (by have := hb31.size; first | (simp; done) | (simp; omega) | omega) _ | with_reducible refine Below.setCell ?_ (by first | (simp; done) | (simp; omega) | omega) _)) hc32
              have hst32 : Below w31.heap.size w31 w32 := bchain (by repeat' (first | with_reducible exact Below.refl _ _ | with_reducible refine Below.drew ?_ | with_reducible refine below_drewN ?_ _ | with_reducible refine Below.alloc ?_ (by first | (simp; done) | (simp; omega) | omega) _ | with_reducible refine Below.setCell ?_ (by first | (simp; done) | (simp; omega) | omega) _)) hc32
              replace hX := hX.later hst32
              replace hI := hI.later hst32
              replace hR := hR.later hst32
              replace hp := hp.later hst32
              replace hP := hP.later hst32
              clear hst32
              clear hc32
              go_wp2_with fail
              go_ret
              exact ⟨rfl, hb32⟩
            · have hkI : (n : Int) ≤ (k : Int) := by omega
              go_wp2_with fail
              go_ret
              exact ⟨rfl, hb28⟩
      · have hpe : p = l.length := by have := H_hn.out; omega
        have hrn := hr1 (by omega)
        have hrI : ((r : Int) == (n : Int)) = true := by simp; omega
        have hmr : r + 1 = M.length := by have := H_hMl.out; omega
        have H_hmr := Box.mk hmr
        have H_hrn := Box.mk hrn
        have H_hr1 := Box.mk hr1
        have H_hr2 := Box.mk hr2
        have H_hpn := Box.mk hpn
        have H_hpe := Box.mk hpe
        clear hmr hrn hr1 hr2 hpn hpe
        go_upto_region 12 with fail
        go_wp2_with (first | (refine wpList_load_mid rfl 24 _ rfl b (o + i * 32) (by rfl) vs _ (rangeAt_later H_hr0.out hb10) Tryd.underlying24 rfl H_hvsi.out ?_) | (refine wpList_load_blk rfl 24 _ rfl w.heap.size (by rfl) 24 us _ hX Tryd.underlying24 rfl H_husi.out ?_) | (refine wpList_build_id rfl _ rfl us (by rfl) H_husl.out ?_) | (at_builtin; refine stop ?_))
        refine Stop.go ?_
        refine wpList_append_x _ rfl _ _ 22 rfl (w.heap.size + 1) 24 j0 _ 32 32 Tryd.underlying22 H_jif.out H_jz0.out H_jz1.out H_jz2.out oneCell_idz (by decide) (.slice av (r) cv) (r) _ rfl (ow.alloc _) (some ⟨w10.heap.size, 0, none⟩) 1 1 us (by rfl) (by rw [H_husl.out]) (Blk.cellsRow (Blk.newA w10 _ _ _ us rfl rfl)) H_huso.out (by unfold maxLen; omega) (by omega) (by have := hb10.size; have := hX.lt; simp; omega) ?_
        intro a11 c11 w11 o11 hg _
        have hcB : Below (w.heap.size + 1) (w10.alloc (.cells us.toArray 24)) w11 := below_grownX (Below.refl _ _) hg (by have := hX.lt; simp; omega) (fun q hq => (ow.lt q hq).1)
        have hb11 : Below w.heap.size w w11 := (hb10.alloc hb10.size _).trans (hcB.mono (by omega))
        replace hX := (hX.alloc (.cells us.toArray 24)).below hcB (by omega)
        clear hg hcB ow
        have ow := o11
        clear o11
        have hI : IdsIn w11 a11 c11 M := ow.idsIn' (by rw [H_hn.out, H_hpe.out, H_hus.out, ← idsC_single, ← idsC_append, grow_end2, ← H_hM.out, H_hpe.out]) H_hmr.out H_hMi.out.ids
        go_upto_region 13 with fail
        refine wp_gen fun w20 hc20 => ?_
        have hb20 := bchain hb11 hc20
        replace hI := hI.later hc20
        replace hX := hX.later hc20
        clear hc20 ow
        go_wp2_with fail
        with_reducible refine (H_hap.out _ _ _ _ hI H_hmr.out (H_h.out.later hb20)).mono ?_
        rintro e w21 ⟨rfl, hc21⟩
        have hb21 : Below w.heap.size w w21 := bchain (by repeat' (first | with_reducible exact hb20 | with_reducible refine Below.drew ?_ | with_reducible refine below_drewN ?_ _ | with_reducible refine Below.alloc ?_ (by have := hb20.size; first | (simp; done) | (simp; omega) | omega) _ | with_reducible refine Below.setCell ?_ (by first | (simp; done) | (simp; omega) | omega) _)) hc21
        have hst21 : Below w20.heap.size w20 w21 := bchain (by repeat' (first | with_reducible exact Below.refl _ _ | with_reducible refine Below.drew ?_ | with_reducible refine below_drewN ?_ _ | with_reducible refine Below.alloc ?_ (by first | (simp; done) | (simp; omega) | omega) _ | with_reducible refine Below.setCell ?_ (by first | (simp; done) | (simp; omega) | omega) _)) hc21
        replace hX := hX.later hst21
        replace hI := hI.later hst21
        clear hst21
        clear hc21
        cases V with
        | false =>
          go_wp2_with fail
          go_ret
          exact ⟨rfl, by repeat' (first | with_reducible exact hb21 | with_reducible refine Below.drew ?_ | with_reducible refine below_drewN ?_ _ | with_reducible refine Below.alloc ?_ (by have := hb21.size; first | (simp; done) | (simp; omega) | omega) _ | with_reducible refine Below.setCell ?_ (by first | (simp; done) | (simp; omega) | omega) _)⟩
        | true =>
          have hdg := H_hdf.out rfl
          have H_hdg := Box.mk hdg
          clear hdg
          go_wp2_with fail
          with_reducible refine (H_hdg.out _ _ _ _ hI H_hmr.out (H_h.out.later hb21) (H_hT.out.later hb21) (fun x e => Nat.lt_of_lt_of_le (H_hal0.out x e) hb21.size)).mono ?_
          rintro e w22 ⟨⟨la, lc, ra, rc, rfl, hL⟩, hc22⟩
          have hb22 : Below w.heap.size w w22 := bchain (by repeat' (first | with_reducible exact hb21 | with_reducible refine Below.drew ?_ | with_reducible refine below_drewN ?_ _ | with_reducible refine Below.alloc ?_ (by have := hb21.size; first | (simp; done) | (simp; omega) | omega) _ | with_reducible refine Below.setCell ?_ (by first | (simp; done) | (simp; omega) | omega) _)) hc22
          have hst22 : Below w21.heap.size w21 w22 := bchain (by repeat' (first | with_reducible exact Below.refl _ _ | with_reducible refine Below.drew ?_ | with_reducible refine below_drewN ?_ _ | with_reducible refine Below.alloc ?_ (by first | (simp; done) | (simp; omega) | omega) _ | with_reducible refine Below.setCell ?_ (by first | (simp; done) | (simp; omega) | omega) _)) hc22
          replace hX := hX.later hst22
          replace hI := hI.later hst22
          clear hst22
          clear hc22
          go_wp2_with fail
          with_reducible refine (H_hro.out _ _ _ _ hI H_hmr.out (H_hT.out.later hb22)).mono ?_
          rintro e w23 ⟨rfl, hc23⟩
          have hb23 : Below w.heap.size w w23 := bchain (by repeat' (first | with_reducible exact hb22 | with_reducible refine Below.drew ?_ | with_reducible refine below_drewN ?_ _ | with_reducible refine Below.alloc ?_ (by have := hb22.size; first | (simp; done) | (simp; omega) | omega) _ | with_reducible refine Below.setCell ?_ (by first | (simp; done) | (simp; omega) | omega) _)) hc23
          have hst23 : Below w22.heap.size w22 w23 := bchain (by repeat' (first | with_reducible exact Below.refl _ _ | with_reducible refine Below.drew ?_ | with_reducible refine below_drewN ?_ _ | with_reducible refine Below.alloc ?_ (by first | (simp; done) | (simp; omega) | omega) _ | with_reducible refine Below.setCell ?_ (by first | (simp; done) | (simp; omega) | omega) _)) hc23
          replace hX := hX.later hst23
          replace hI := hI.later hst23
          replace hL := hL.later hst23
          clear hst23
          clear hc23
          have hN23 := Blk.newA w23 w23.heap.size _ 24 (List.replicate 32 (Value.int .u8 0)) rfl rfl
          go_upto_region 17 with (refine wpList_store_blk rfl 24 _ _ rfl w23.heap.size (by rfl) 24 _ xr (by rfl) hN23 H_hxrr.out H_hxri.out H_hxro.out ?_; intro w24 hR he24; have H24 := Box.mk he24; clear he24)
          have hc24 : Below w23.heap.size w23 w24 := H24.out ▸ below_setCells (Nat.le_refl _) _ _ _ ((Below.refl _ _).alloc (Nat.le_refl _) _)
          have hb24 : Below w.heap.size w w24 := bchain (by repeat' (first | with_reducible exact hb23 | with_reducible refine Below.drew ?_ | with_reducible refine below_drewN ?_ _ | with_reducible refine Below.alloc ?_ (by have := hb23.size; first | (simp; done) | (simp; omega) | omega) _ | with_reducible refine Below.setCell ?_ (by first | (simp; done) | (simp; omega) | omega) _)) hc24
          have hst24 : Below w23.heap.size w23 w24 := bchain (by repeat' (first | with_reducible exact Below.refl _ _ | with_reducible refine Below.drew ?_ | with_reducible refine below_drewN ?_ _ | with_reducible refine Below.alloc ?_ (by first | (simp; done) | (simp; omega) | omega) _ | with_reducible refine Below.setCell ?_ (by first | (simp; done) | (simp; omega) | omega) _)) hc24
          replace hX := hX.later hst24
          replace hI := hI.later hst24
          replace hL := hL.later hst24
          clear hst24
          clear hc24 hN23 H24
          go_wp2_with (refine wpList_load_blk rfl 24 _ rfl w.heap.size (by rfl) 24 us _ hX Tryd.underlying24 rfl H_husi.out ?_)
          with_reducible refine (H_hpv.out _ _ _ _ hI H_hmr.out (H_hT.out.later hb24)).mono ?_
          rintro e w25 ⟨⟨ba, bc, da, dc, rfl, hp⟩, hc25⟩
          have hb25 : Below w.heap.size w w25 := bchain (by repeat' (first | with_reducible exact hb24 | with_reducible refine Below.drew ?_ | with_reducible refine below_drewN ?_ _ | with_reducible refine Below.alloc ?_ (by have := hb24.size; first | (simp; done) | (simp; omega) | omega) _ | with_reducible refine Below.setCell ?_ (by first | (simp; done) | (simp; omega) | omega) _)) hc25
          have hst25 : Below w24.heap.size w24 w25 := bchain (by repeat' (first | with_reducible exact Below.refl _ _ | with_reducible refine Below.drew ?_ | with_reducible refine below_drewN ?_ _ | with_reducible refine Below.alloc ?_ (by first | (simp; done) | (simp; omega) | omega) _ | with_reducible refine Below.setCell ?_ (by first | (simp; done) | (simp; omega) | omega) _)) hc25
          replace hX := hX.later hst25
          replace hI := hI.later hst25
          replace hL := hL.later hst25
          replace hR := hR.later hst25
          clear hst25
          clear hc25
          obtain ⟨PV, hPV⟩ : ∃ PV, PV = prC ba nb bc da nb dc on false := ⟨_, rfl⟩
          have hPVl : PV.length = 35 := by rw [hPV]; exact prC_len H_hon.out
          have hPVi : (Tryd.prog.info? 41).map (·.size) = some PV.length := by rw [hPVl]; exact info35
          have hPV1 : ∀ u ∈ PV, u.oneCell' = true := by rw [hPV]; exact prC_one _ _ _ _ _ _ _ _
          have hvf2 := fun W h hT => H_hvf.out W ba da bc dc h hT
          rw [← hPV] at hvf2
          have H_hPV := Box.mk hPV
          have H_hPVl := Box.mk hPVl
          have H_hPVi := Box.mk hPVi
          have H_hPV1 := Box.mk hPV1
          have H_hvf2 := Box.mk hvf2
          clear hPV hPVl hPVi hPV1 hvf2
          have hN25 := newPr w25 w25.heap.size rfl
          go_upto_region 18 with (refine wpList_store_blk rfl 41 _ _ rfl w25.heap.size (by rfl) 41 _ PV (by rw [H_hPV.out]; rfl) hN25 (by rw [H_hPVl.out]; rfl) H_hPVi.out H_hPV1.out ?_; intro w26 hP he26; have H26 := Box.mk he26; clear he26)
          have hc26 : Below w25.heap.size w25 w26 := H26.out ▸ below_setCells (Nat.le_refl _) _ _ _ ((Below.refl _ _).alloc (Nat.le_refl _) _)
          have hb26 : Below w.heap.size w w26 := bchain (by repeat' (first | with_reducible exact hb25 | with_reducible refine Below.drew ?_ | with_reducible refine below_drewN ?_ _ | with_reducible refine Below.alloc ?_ (by have := hb25.size; first | (simp; done) | (simp; omega) | omega) _ | with_reducible refine Below.setCell ?_ (by first | (simp; done) | (simp; omega) | omega) _)) hc26
          have hst26 : Below w25.heap.size w25 w26 := bchain (by repeat' (first | with_reducible exact Below.refl _ _ | with_reducible refine Below.drew ?_ | with_reducible refine below_drewN ?_ _ | with_reducible refine Below.alloc ?_ (by first | (simp; done) | (simp; omega) | omega) _ | with_reducible refine Below.setCell ?_ (by first | (simp; done) | (simp; omega) | omega) _)) hc26
          replace hX := hX.later hst26
          replace hI := hI.later hst26
          replace hL := hL.later hst26
          replace hR := hR.later hst26
          replace hp := hp.later hst26
          clear hst26
          clear hc26 hN25 H26
          go_wp2_with (first | (refine wpList_load_blk rfl 24 _ rfl w.heap.size (by rfl) 24 us _ hX Tryd.underlying24 rfl H_husi.out ?_) | (refine wpList_load_blk rfl 41 _ rfl w25.heap.size (by rfl) 41 PV _ hP Tryd.underlying41 rfl H_hPVi.out ?_) | (refine wpList_load_blk rfl 24 _ rfl w23.heap.size (by rfl) 24 xr _ hR Tryd.underlying24 rfl H_hxri.out ?_))
          with_reducible refine (H_hvf2.out _ hp (H_hT.out.later hb26)).mono ?_
          rintro e w27 ⟨rfl, hc27⟩
          have hb27 : Below w.heap.size w w27 := bchain (by repeat' (first | with_reducible exact hb26 | with_reducible refine Below.drew ?_ | with_reducible refine below_drewN ?_ _ | with_reducible refine Below.alloc ?_ (by have := hb26.size; first | (simp; done) | (simp; omega) | omega) _ | with_reducible refine Below.setCell ?_ (by first | (simp; done) | (simp; omega) | omega) _)) hc27
          have hst27 : Below w26.heap.size w26 w27 := bchain (by repeat' (first | with_reducible exact Below.refl _ _ | with_reducible refine Below.drew ?_ | with_reducible refine below_drewN ?_ _ | with_reducible refine Below.alloc ?_ (by first | (simp; done) | (simp; omega) | omega) _ | with_reducible refine Below.setCell ?_ (by first | (simp; done) | (simp; omega) | omega) _)) hc27
          replace hX := hX.later hst27
          replace hI := hI.later hst27
          replace hL := hL.later hst27
          replace hR := hR.later hst27
          replace hp := hp.later hst27
          replace hP := hP.later hst27
          clear hst27
          clear hc27
          clear hP hp
          go_wp2_with (first | (refine wpList_load_blkG (by first | rfl | (simp [Region.wanted]; done)) 24 _ rfl w.heap.size (by rfl) 24 us _ hX Tryd.underlying24 rfl H_husi.out ?_) | (refine wpList_build_idG (by first | rfl | (simp [Region.wanted]; done)) _ rfl us (by rfl) H_husl.out ?_))
          with_reducible refine (H_hsl.out _ _ _ _ _ (hL.later ((Below.refl _ _).alloc (Nat.le_refl _) _)) (one_ids H_hid.out H_hus.out (Blk.newA w27 _ _ _ us rfl rfl))).mono ?_
          rintro e w28 ⟨rfl, hc28⟩
          have hb28 : Below w.heap.size w w28 := bchain (by repeat' (first | with_reducible exact hb27 | with_reducible refine Below.drew ?_ | with_reducible refine below_drewN ?_ _ | with_reducible refine Below.alloc ?_ (by have := hb27.size; first | (simp; done) | (simp; omega) | omega) _ | with_reducible refine Below.setCell ?_ (by first | (simp; done) | (simp; omega) | omega) _)) hc28
          have hst28 : Below w27.heap.size w27 w28 := bchain (by repeat' (first | with_reducible exact Below.refl _ _ | with_reducible refine Below.drew ?_ | with_reducible refine below_drewN ?_ _ | with_reducible refine Below.alloc ?_ (by first | (simp; done) | (simp; omega) | omega) _ | with_reducible refine Below.setCell ?_ (by first | (simp; done) | (simp; omega) | omega) _)) hc28
          replace hX := hX.later hst28
          replace hI := hI.later hst28
          replace hL := hL.later hst28
          replace hR := hR.later hst28
          clear hst28
          clear hc28
          clear hL
          rcases Int.lt_or_le at_ 0 with hat | hat
          · go_wp2_with fail
            go_ret
            exact ⟨rfl, by repeat' (first | with_reducible exact hb28 | with_reducible refine Below.drew ?_ | with_reducible refine below_drewN ?_ _ | with_reducible refine Below.alloc ?_ (by have := hb28.size; first | (simp; done) | (simp; omega) | omega) _ | with_reducible refine Below.setCell ?_ (by first | (simp; done) | (simp; omega) | omega) _)⟩
          · obtain ⟨k, rfl⟩ := Int.eq_ofNat_of_zero_le hat
            rcases Nat.lt_or_ge k n with hkn | hkn
            · have hkI : (k : Int) < (n : Int) := by omega
              have hkl : k < l.length := by have := H_hn.out; omega
              have hxk := H_hinc.out.at hkl
              have hkm := H_hF.out.all _ (pc_mem hkl)
              rw [H_hM.out] at hkm
              obtain ⟨A2, nb2, on2, hA2, f1, f2, f3, f4, hon2, hvfk⟩ := verify_in (l := M) H_hMi.out (by have := H_hMl.out; omega) hxk hkm
              have hpvk := fun W mv mr mc (h1 : IdsIn W mv mc M) (e : mr = M.length) (hT : TabK W) => prove_any M (pc l k) mv mr mc W h1 e (by have := H_hMl.out; unfold maxLen; omega) hxk hT
              rw [hA2] at hpvk
              simp only [ProveR, f1, f2, f3, f4] at hpvk
              obtain ⟨b, o, rfl, hbl, hr⟩ := H_hrow.out (by omega)
              have hr0 := hr k hkl
              obtain ⟨vs, hvs⟩ : ∃ v, v = idC (pc l k) := ⟨_, rfl⟩
              have hvsl := idC_len hxk
              have hvsi := idC_info hxk
              have hvso := idC_one (pc l k)
              rw [← hvs] at hvsl hvsi hvso
              have hvsr : vs.length = (List.replicate 32 (Value.int .u8 0)).length := by rw [hvsl]; rfl
              rw [← hvs] at hr0
              simp only [← hvs, ← H_hxr.out] at hpvk hvfk
              have H_hkl := Box.mk hkl
              have H_hxk := Box.mk hxk
              have H_hkm := Box.mk hkm
              have H_hA2 := Box.mk hA2
              have H_f1 := Box.mk f1
              have H_f2 := Box.mk f2
              have H_f3 := Box.mk f3
              have H_f4 := Box.mk f4
              have H_hon2 := Box.mk hon2
              have H_hvfk := Box.mk hvfk
              have H_hpvk := Box.mk hpvk
              have H_hbl := Box.mk hbl
              have H_hr := Box.mk hr
              have H_hr0 := Box.mk hr0
              have H_hvs := Box.mk hvs
              have H_hvsl := Box.mk hvsl
              have H_hvsi := Box.mk hvsi
              have H_hvso := Box.mk hvso
              have H_hvsr := Box.mk hvsr
              clear hkl hxk hkm hA2 f1 f2 f3 f4 hon2 hvfk hpvk hbl hr hr0 hvs hvsl hvsi hvso hvsr
              have hrk := rangeAt_later H_hr0.out hb28
              go_wp2_with (refine wpList_load_mid rfl 24 _ rfl b (o + k * 32) (by rfl) vs _ hrk Tryd.underlying24 rfl H_hvsi.out ?_)
              with_reducible refine (H_hpvk.out _ _ _ _ hI H_hmr.out (H_hT.out.later hb28)).mono ?_
              rintro e w29 ⟨⟨ba, bc, da, dc, rfl, hp⟩, hc29⟩
              have hb29 : Below w.heap.size w w29 := bchain (by repeat' (first | with_reducible exact hb28 | with_reducible refine Below.drew ?_ | with_reducible refine below_drewN ?_ _ | with_reducible refine Below.alloc ?_ (by have := hb28.size; first | (simp; done) | (simp; omega) | omega) _ | with_reducible refine Below.setCell ?_ (by first | (simp; done) | (simp; omega) | omega) _)) hc29
              have hst29 : Below w28.heap.size w28 w29 := bchain (by repeat' (first | with_reducible exact Below.refl _ _ | with_reducible refine Below.drew ?_ | with_reducible refine below_drewN ?_ _ | with_reducible refine Below.alloc ?_ (by first | (simp; done) | (simp; omega) | omega) _ | with_reducible refine Below.setCell ?_ (by first | (simp; done) | (simp; omega) | omega) _)) hc29
              replace hX := hX.later hst29
              replace hI := hI.later hst29
              replace hR := hR.later hst29
              clear hst29
              clear hc29 hrk
              obtain ⟨QV, hQV⟩ : ∃ PV, PV = prC ba nb2 bc da nb2 dc on2 false := ⟨_, rfl⟩
              have hQVl : QV.length = 35 := by rw [hQV]; exact prC_len H_hon2.out
              have hQVi : (Tryd.prog.info? 41).map (·.size) = some QV.length := by rw [hQVl]; exact info35
              have hQV1 : ∀ u ∈ QV, u.oneCell' = true := by rw [hQV]; exact prC_one _ _ _ _ _ _ _ _
              have hvf3 := fun W h hT => H_hvfk.out W ba da bc dc h hT
              rw [← hQV] at hvf3
              have H_hQV := Box.mk hQV
              have H_hQVl := Box.mk hQVl
              have H_hQVi := Box.mk hQVi
              have H_hQV1 := Box.mk hQV1
              have H_hvf3 := Box.mk hvf3
              clear hQV hQVl hQVi hQV1 hvf3
              have hN29 := newPr w29 w29.heap.size rfl
              go_upto_region 24 with (refine wpList_store_blk rfl 41 _ _ rfl w29.heap.size (by rfl) 41 _ QV (by rw [H_hQV.out]; rfl) hN29 (by rw [H_hQVl.out]; rfl) H_hQVi.out H_hQV1.out ?_; intro w30 hP he30; have H30 := Box.mk he30; clear he30)
              have hc30 : Below w29.heap.size w29 w30 := H30.out ▸ below_setCells (Nat.le_refl _) _ _ _ ((Below.refl _ _).alloc (Nat.le_refl _) _)
              have hb30 : Below w.heap.size w w30 := bchain (by repeat' (first | with_reducible exact hb29 | with_reducible refine Below.drew ?_ | with_reducible refine below_drewN ?_ _ | with_reducible refine Below.alloc ?_ (by have := hb29.size; first | (simp; done) | (simp; omega) | omega) _ | with_reducible refine Below.setCell ?_ (by first | (simp; done) | (simp; omega) | omega) _)) hc30
              have hst30 : Below w29.heap.size w29 w30 := bchain (by repeat' (first | with_reducible exact Below.refl _ _ | with_reducible refine Below.drew ?_ | with_reducible refine below_drewN ?_ _ | with_reducible refine Below.alloc ?_ (by first | (simp; done) | (simp; omega) | omega) _ | with_reducible refine Below.setCell ?_ (by first | (simp; done) | (simp; omega) | omega) _)) hc30
              replace hX := hX.later hst30
              replace hI := hI.later hst30
              replace hR := hR.later hst30
              replace hp := hp.later hst30
              clear hst30
              clear hc30 hN29 H30
              go_wp2_with fail
              refine wp_gen fun w31 hc31 => ?_
              have hb31 : Below w.heap.size w w31 := bchain (by repeat' (first | with_reducible exact hb30 | with_reducible refine Below.drew ?_ | with_reducible refine below_drewN ?_ _ | with_reducible refine Below.alloc ?_ (by have := hb30.size; first | (simp; done) | (simp; omega) | omega) _ | with_reducible refine Below.setCell ?_ (by first | (simp; done) | (simp; omega) | omega) _)) hc31
              have hst31 : Below w30.heap.size w30 w31 := bchain (by repeat' (first | with_reducible exact Below.refl _ _ | with_reducible refine Below.drew ?_ | with_reducible refine below_drewN ?_ _ | with_reducible refine Below.alloc ?_ (by first | (simp; done) | (simp; omega) | omega) _ | with_reducible refine Below.setCell ?_ (by first | (simp; done) | (simp; omega) | omega) _)) hc31
              replace hX := hX.later hst31
              replace hI := hI.later hst31
              replace hR := hR.later hst31
              replace hp := hp.later hst31
              replace hP := hP.later hst31
              clear hst31
              have hrk := rangeAt_later H_hr0.out hb31
              have hTk := H_hT.out.later hb31
              clear hc31
              refine wp_region_on (by kernel_rfl) (by kernel_rfl) ?_
              repeat (first | (go_big_quiet_step ((first | (go_at_call 27; with_reducible exact calls_on (H_hvf3.out _ (hp.later (below_later _ _)) (hTk.later (below_later _ _))))))) | ((refine wpQuiet_load_mid (by first | rfl | (simp [Region.wanted]; done)) 24 _ rfl w.heap.size 0 (by rfl) us _ hrx Tryd.underlying24 rfl H_husi.out ?_); simp only [Act.put, List.setIfInBounds_toArray, List.set_cons_succ, List.set_cons_zero]) | ((refine wpQuiet_load_mid (by first | rfl | (simp [Region.wanted]; done)) 24 _ rfl b (o + i * 32) (by rfl) vs _ hry Tryd.underlying24 rfl H_hvsi.out ?_); simp only [Act.put, List.setIfInBounds_toArray, List.set_cons_succ, List.set_cons_zero]) | ((refine wpQuiet_load_mid (by first | rfl | (simp [Region.wanted]; done)) 24 _ rfl w.heap.size 0 (by rfl) us _ hrx Tryd.underlying24 rfl H_husi.out ?_); simp only [Act.put, List.setIfInBounds_toArray, List.set_cons_succ, List.set_cons_zero]) | ((refine wpQuiet_load_mid (by first | rfl | (simp [Region.wanted]; done)) 24 _ rfl b (o + i * 32) (by rfl) vs _ hry Tryd.underlying24 rfl H_hvsi.out ?_); simp only [Act.put, List.setIfInBounds_toArray, List.set_cons_succ, List.set_cons_zero]) | ((refine wpQuiet_load_mid (by first | rfl | (simp [Region.wanted]; done)) 24 _ rfl w.heap.size 0 (by rfl) us _ hrx Tryd.underlying24 rfl H_husi.out ?_); simp only [Act.put, List.setIfInBounds_toArray, List.set_cons_succ, List.set_cons_zero]) | ((refine wpQuiet_load_mid (by first | rfl | (simp [Region.wanted]; done)) 24 _ rfl b (o + i * 32) (by rfl) vs _ hry Tryd.underlying24 rfl H_hvsi.out ?_); simp only [Act.put, List.setIfInBounds_toArray, List.set_cons_succ, List.set_cons_zero]) | (refine wpQuiet_load_blk (by first | rfl | (simp [Region.wanted]; done)) 24 _ rfl (w23.heap.size) (by rfl) 24 xr _ hR Tryd.underlying24 rfl H_hxri.out ?_; simp only [Act.put, List.setIfInBounds_toArray, List.set_cons_succ, List.set_cons_zero]) | ((refine wpQuiet_load_mid (by first | rfl | (simp [Region.wanted]; done)) 24 _ rfl b (o + k * 32) (by rfl) vs _ hrk Tryd.underlying24 rfl H_hvsi.out ?_); simp only [Act.put, List.setIfInBounds_toArray, List.set_cons_succ, List.set_cons_zero]) | (refine wpQuiet_load_blk (by first | rfl | (simp [Region.wanted]; done)) 41 _ rfl (w29.heap.size) (by rfl) 41 QV _ hP Tryd.underlying41 rfl H_hQVi.out ?_; simp only [Act.put, List.setIfInBounds_toArray, List.set_cons_succ, List.set_cons_zero]) | (refine wpQuiet_load_blk (by first | rfl | (simp [Region.wanted]; done)) 24 _ rfl (w23.heap.size) (by rfl) 24 xr _ hR Tryd.underlying24 rfl H_hxri.out ?_; simp only [Act.put, List.setIfInBounds_toArray, List.set_cons_succ, List.set_cons_zero]) | ((refine wpQuiet_load_mid (by first | rfl | (simp [Region.wanted]; done)) 24 _ rfl b (o + k * 32) (by rfl) vs _ hrk Tryd.underlying24 rfl H_hvsi.out ?_); simp only [Act.put, List.setIfInBounds_toArray, List.set_cons_succ, List.set_cons_zero]) | (refine wpQuiet_load_blk (by first | rfl | (simp [Region.wanted]; done)) 41 _ rfl (w29.heap.size) (by rfl) 41 QV _ hP Tryd.underlying41 rfl H_hQVi.out ?_; simp only [Act.put, List.setIfInBounds_toArray, List.set_cons_succ, List.set_cons_zero]))
              refine wpQuiet_nil ?_
              intro w32 hc32
              have hb32 : Below w.heap.size w w32 := bchain (by repeat' (first | with_reducible exact hb31 | with_reducible refine Below.drew ?_ | with_reducible refine below_drewN ?_ _ | with_reducible refine Below.alloc ?_ (by have := hb31.size; first | (simp; done) | (simp; omega) | omega) _ | with_reducible refine Below.setCell ?_ (by first | (simp; done) | (simp; omega) | omega) _)) hc32
              have hst32 : Below w31.heap.size w31 w32 := bchain (by repeat' (first | with_reducible exact Below.refl _ _ | with_reducible refine Below.drew ?_ | with_reducible refine below_drewN ?_ _ | with_reducible refine Below.alloc ?_ (by first | (simp; done) | (simp; omega) | omega) _ | with_reducible refine Below.setCell ?_ (by first | (simp; done) | (simp; omega) | omega) _)) hc32
              replace hX := hX.later hst32
              replace hI := hI.later hst32
              replace hR := hR.later hst32
              replace hp := hp.later hst32
              replace hP := hP.later hst32
              clear hst32
              clear hc32
              go_wp2_with fail
              go_ret
              exact ⟨rfl, hb32⟩
            · have hkI : (n : Int) ≤ (k : Int) := by omega
              go_wp2_with fail
              go_ret
              exact ⟨rfl, hb28⟩
theorem grows_full (l : List (List Int)) (a : Option Addr) (c : Nat) (id : List Int) (at_ : Int) (w : World) (h : IdsIn w a c l ∧ l.length ≤ maxLen ∧ ∀ x, a = some x → x.block < w.heap.size) (hid : IdIn id) (hat : (Lit.int .i64 at_).wf = true) (hK : CellsAt w (some ⟨1, 0, none⟩) (kcs.map (Value.int .u32)) ∧ 1 < w.heap.size) :
    Calls Tryd.prog 7 #[.slice a l.length c, .agg (id.map (Value.int .u8)).toArray, .int .i64 at_] w fun e w' =>
      e = .returned (.bool true) ∧ Below w.heap.size w w' := by
  have hT : TabK w := ⟨hK.1, hK.2⟩
  show Calls _ _ #[.slice a l.length c, .agg (idC id).toArray, .int .i64 at_] _ _
  by_cases h16 : l.length ≤ 15
  · by_cases hz : chkZ l = 0
    · obtain ⟨hinc, hl⟩ := inc_of_chk h.1.ids hz
      by_cases hm : id ∈ l
      · exact grows_in l a _ c id at_ w h.1 rfl h16 hinc hm hid hT
      · have hF := ins_ok hinc hid hm
        have hMl := hF.len
        have hfo := apart_found ((moreP l id (insN l id)).length + l.length) (moreP l id (insN l id)) l hF.inc hinc (Nat.le_refl _)
        exact grows_main l _ a _ c _ id at_ _ w h.1 rfl h16 hinc hm hid hF rfl hT h.2.2 _ _ _ (down_ok ((moreP l id (insN l id)).length + l.length) (moreP l id (insN l id)) l hF.inc hinc (by omega) (by omega) (Nat.le_refl _)) (rapart_ok ((moreP l id (insN l id)).length + l.length) (moreP l id (insN l id)) l hF.inc hinc (by omega) (by omega) (Nat.le_refl _)) (fun e => ⟨(hfo e).1.trans hF.lackL, (hfo e).2.trans hF.lackR⟩)
    · exact grows_bad l a _ c id at_ w h.1 rfl h16 hz hid hT
  · exact grows_big a _ c id at_ w (by omega) hid hT

end Go.Proofs.YtfabcdpmnbeflaaDoor
