/- A frame in a region that draws: what its slots hold, whatever the order. -/
import Derived.Test.YthdldmkeoglflaaDoorRegionInv
import Derived.Test.YthdldmkeoglflaaDoorRegMore
namespace Go.Proofs.YthdldmkeoglflaaDoor
open Go.RowKit Go.Sort
set_option linter.unusedVariables false

theorem eval_put_same (a : Act) {s : Tmp} (u : Value) (hs : s < a.tmps.size) : (a.put (some s) u).eval (.tmp s) = u := by
  simp [Act.put, Act.eval, Array.getD_eq_getD_getElem?, hs]
theorem eval_put_ne (a : Act) {s t : Tmp} (u : Value) (h : t ≠ s) : (a.put (some s) u).eval (.tmp t) = a.eval (.tmp t) := by
  simp [Act.put, Act.eval, Array.getD_eq_getD_getElem?, Ne.symm h]
theorem size_put (a : Act) (d : Option Tmp) (u : Value) : (a.put d u).tmps.size = a.tmps.size := by
  cases d <;> simp [Act.put]
theorem act_ext {a b : Act} (hs : a.tmps.size = b.tmps.size) (hd : a.defers = b.defers) (h : ∀ s, s < a.tmps.size → a.eval (.tmp s) = b.eval (.tmp s)) : a = b := by
  obtain ⟨ta, da⟩ := a
  obtain ⟨tb, db⟩ := b
  simp only at hs hd h
  subst hd
  congr 1
  apply Array.ext hs
  intro i h1 h2
  have := h i h1
  simpa [Act.eval, Array.getD_eq_getD_getElem?, h1, h2] using this
/-- A frame that differs from another one in these slots alone. -/
structure FrameIs (a0 : Act) (sl : List Tmp) (a : Act) : Prop where
  size : a.tmps.size = a0.tmps.size
  defers : a.defers = a0.defers
  off : ∀ s, s ∉ sl → a.eval (.tmp s) = a0.eval (.tmp s)
theorem FrameIs.refl (a0 : Act) (sl : List Tmp) : FrameIs a0 sl a0 := ⟨rfl, rfl, fun _ _ => rfl⟩
theorem FrameIs.put {a0 a : Act} {sl : List Tmp} (h : FrameIs a0 sl a) {s : Tmp} (hs : s ∈ sl) (u : Value) : FrameIs a0 sl (a.put (some s) u) :=
  ⟨(size_put _ _ _).trans h.size, h.defers, fun t ht => (eval_put_ne _ _ (fun e => ht (by rw [e]; exact hs))).trans (h.off t ht)⟩
theorem FrameIs.none {a0 a : Act} {sl : List Tmp} (h : FrameIs a0 sl a) (u : Value) : FrameIs a0 sl (a.put none u) := h
def putAll (a0 : Act) : List (Tmp × Value) → Act
  | [] => a0
  | p :: r => (putAll a0 r).put (some p.1) p.2
theorem putAll_size (a0 : Act) : ∀ l, (putAll a0 l).tmps.size = a0.tmps.size
  | [] => rfl
  | p :: r => (size_put _ _ _).trans (putAll_size a0 r)
theorem putAll_defers (a0 : Act) : ∀ l, (putAll a0 l).defers = a0.defers
  | [] => rfl
  | p :: r => putAll_defers a0 r
theorem putAll_eval (a0 : Act) (f : Tmp → Value) : ∀ (sl : List Tmp) (s : Tmp), s < a0.tmps.size → (putAll a0 (sl.map fun s => (s, f s))).eval (.tmp s) = if s ∈ sl then f s else a0.eval (.tmp s)
  | [], s, hs => by simp [putAll]
  | t :: sl, s, hs => by
    have ih := putAll_eval a0 f sl s hs
    simp only [List.map_cons, putAll]
    by_cases h : s = t
    · subst h
      rw [eval_put_same _ _ (by rw [putAll_size]; exact hs)]
      simp
    · rw [eval_put_ne _ _ h, ih]
      simp [h]
/-- The frame anew. -/
theorem FrameIs.eq {a0 a : Act} {sl : List Tmp} (h : FrameIs a0 sl a) : a = putAll a0 (sl.map fun s => (s, a.eval (.tmp s))) := by
  refine act_ext (h.size.trans (putAll_size _ _).symm) (h.defers.trans (putAll_defers _ _).symm) fun s hs => ?_
  rw [putAll_eval a0 (fun s => a.eval (.tmp s)) sl s (by rw [← h.size]; exact hs)]
  by_cases hm : s ∈ sl
  · rw [if_pos hm]
  · rw [if_neg hm]; exact h.off s hm

theorem getD_set_same_true {listed : Array Bool} {i : Nat} (h : i < listed.size) : (listed.setIfInBounds i true).getD i false = true := by
  simp [Array.getD_eq_getD_getElem?, h]
theorem getD_set_other {listed : Array Bool} {i j : Nat} (h : j ≠ i) (d : Bool) : (listed.setIfInBounds i true).getD j d = listed.getD j d := by
  simp [Array.getD_eq_getD_getElem?, Ne.symm h]
/-- The frame in such a region: the slots of the listed operations have their values. -/
structure RegI (a0 : Act) (sl : List Tmp) (val : Nat → Value) (listed : Array Bool) (a : Act) : Prop where
  frame : FrameIs a0 sl a
  vals : ∀ j s, sl[j]? = some s → listed.getD j false = true → a.eval (.tmp s) = val j
theorem RegI.start (a0 : Act) (sl : List Tmp) (val : Nat → Value) (n : Nat) : RegI a0 sl val (Array.replicate n false) a0 :=
  ⟨FrameIs.refl _ _, fun j s _ hl => by
    rcases Nat.lt_or_ge j n with h | h
    · simp [Array.getD_eq_getD_getElem?, h] at hl
    · simp [Array.getD_eq_getD_getElem?, Nat.not_lt.2 h] at hl⟩
theorem RegI.put {a0 a : Act} {sl : List Tmp} {val : Nat → Value} {listed : Array Bool} (h : RegI a0 sl val listed a) (hn : sl.Nodup) {i : Nat} {s : Tmp} (hi : sl[i]? = some s) (hs : s < a0.tmps.size) (u : Value) (hu : u = val i) : RegI a0 sl val (listed.setIfInBounds i true) (a.put (some s) u) := by
  subst hu
  refine ⟨h.frame.put (List.mem_of_getElem? hi) _, fun j t hj hl => ?_⟩
  by_cases hji : j = i
  · subst hji
    rw [hi] at hj
    cases hj
    exact eval_put_same _ _ (by rw [h.frame.size]; exact hs)
  · have hst : t ≠ s := by
      intro e
      subst e
      obtain ⟨l1, e1⟩ := List.getElem?_eq_some_iff.1 hi
      obtain ⟨l2, e2⟩ := List.getElem?_eq_some_iff.1 hj
      rcases Nat.lt_trichotomy j i with h1 | h1 | h1
      · exact List.pairwise_iff_getElem.1 hn j i l2 l1 h1 (e2.trans e1.symm)
      · exact hji h1
      · exact List.pairwise_iff_getElem.1 hn i j l1 l2 h1 (e1.trans e2.symm)
    rw [eval_put_ne _ _ hst]
    exact h.vals j t hj (by rwa [getD_set_other hji] at hl)
/-- An operation without a slot. -/
theorem RegI.skip {a0 a : Act} {sl : List Tmp} {val : Nat → Value} {listed : Array Bool} (h : RegI a0 sl val listed a) {i : Nat} (hi : sl.length ≤ i) (u : Value) : RegI a0 sl val (listed.setIfInBounds i true) (a.put none u) :=
  ⟨h.frame, fun j s hj hl => h.vals j s hj (by
    have := (List.getElem?_eq_some_iff.1 hj).1
    rwa [getD_set_other (by omega)] at hl)⟩
theorem RegI.val {a0 a : Act} {sl : List Tmp} {val val' : Nat → Value} {listed : Array Bool} (h : RegI a0 sl val listed a) (hv : ∀ j, j < sl.length → listed.getD j false = true → val' j = val j) : RegI a0 sl val' listed a :=
  ⟨h.frame, fun j s hj hl => (h.vals j s hj hl).trans (hv j (List.getElem?_eq_some_iff.1 hj).1 hl).symm⟩

theorem getD_of_true {listed : Array Bool} {i : Nat} (h : listed.getD i false = true) (d : Bool) : listed.getD i d = true := by
  rw [Array.getD_eq_getD_getElem?] at h ⊢
  cases e : listed[i]? with
  | none => rw [e] at h; cases h
  | some b => rw [e] at h; exact h
/-- Each operation waits only for earlier ones. -/
def waitsDownB (md : Region.Mode) (ops : Array Oper) : Bool := (List.range ops.size).all fun j => match ops[j]? with
  | none => true
  | some o => o.after.toList.all fun e => !Region.binds md e || Nat.blt e.on j
/-- At the end all operations are listed. -/
theorem all_listed {md : Region.Mode} {ops : Array Oper} {listed : Array Bool} (hr : Region.ready md ops listed = []) (hsz : listed.size = ops.size) (hd : waitsDownB md ops = true) : ∀ j, j < ops.size → listed.getD j false = true := by
  intro j
  induction j using Nat.strongRecOn with
  | _ j ih =>
    intro hj
    have ho : ops[j]? = some ops[j] := Array.getElem?_eq_getElem hj
    have h1 := List.all_eq_true.1 hd j (List.mem_range.2 hj)
    rw [ho] at h1
    simp only at h1
    have hf : ∀ d, listed.getD j d = listed[j]'(by omega) := fun d => by simp [Array.getD_eq_getD_getElem?, show j < listed.size by omega]
    rw [hf]
    cases hb : listed[j]'(by omega) with
    | true => rfl
    | false =>
      have : j ∈ Region.ready md ops listed := mem_ready.2 ⟨by rw [hf]; exact hb, _, ho, fun e he hbi => by
        have h2 := List.all_eq_true.1 h1 e (by simpa using he)
        rw [hbi] at h2
        have h3 : e.on < j := by simpa [Nat.blt_eq] using h2
        exact ih e.on h3 (by omega)⟩
      rw [hr] at this
      cases this

theorem wpOp_gives {P : Program} {ops : Array Oper} {Q : Exit → Act → World → Prop} {i : Nat} {o : Oper} {K : Act → World → Prop} {a : Act} {w : World} (R : Value → World → Prop) (ho : ops[i]? = some o) (hg : o.guard = none) (h : Oper.gives P o a w R) (hK : ∀ v w', R v w' → K (a.put o.dst v) w') : wpOp P ops Q i K a w := by
  unfold wpOp
  rw [ho]
  simp only
  rw [if_pos (by simp [Region.wanted, hg])]
  exact .inl (wp_of_gives h hK)
theorem wp_region_frame {P : Program} {ops : Array Oper} {Q : Exit → Act → World → Prop} {id : Nat} {a : Act} {w : World} (F : Act → Array Bool → Act → World → Prop) (hm : P.follows .mixedOrders = true) (h0 : F a (Array.replicate ops.size false) a w.drew)
    (hstep : ∀ listed a' w' i, F a listed a' w' → i ∈ Region.ready .any ops listed → wpOp P ops Q i (F a (listed.setIfInBounds i true)) a' w')
    (hdone : ∀ listed a' w', F a listed a' w' → Region.ready .any ops listed = [] → Q .normal a' w') : (Code.region id ops true).wp P Q a w := wp_region_inv (I := F a) hm h0 hstep hdone


end Go.Proofs.YthdldmkeoglflaaDoor
