/- TrieD: RegRel, AppY, TrieProveP, TrieProve. -/
import Derived.Test.YtfabcdpmnbeflaaDoorRegMore
import Derived.Test.YtfabcdpmnbeflaaDoorAppK
import Derived.Test.YtfabcdpmnbeflaaDoorTrieC
/- As RegSpec, with operations that may write into rows of the call's own: each such operation by a relation between worlds, under which the others' specifications stay. -/
namespace Go.Proofs.YtfabcdpmnbeflaaDoor.Rel
open Go.RowKit Go.Sort
set_option linter.unusedVariables false

/-- Which operations may store into what others hold; what the others' steps are (another world, by this relation). -/
abbrev Drop := Nat → Bool × (World → World → Prop)
/-- Behind an operation that may store into what others hold (D): its own fact alone. -/
def updD (D : Drop) (fs : Facts) (i : Nat) (φ : World → Prop) : Facts := cond (D i).1 (upd (fun _ _ => True) i φ) (upd fs i φ)
theorem updD_no {D : Drop} {i : Nat} (h : (D i).1 = false) (fs : Facts) (φ : World → Prop) : updD D fs i φ = upd fs i φ := by simp [updD, h]
def barB (md : Region.Mode) (ops : Array Oper) (sp ds : List Nat) : Bool := ds.all fun i => sp.all fun j => j == i || (cond (Nat.blt j i) (reaches md ops j ops.size i) (reaches md ops i ops.size j))

section
variable {P : Program} {ops : Array Oper} {md : Region.Mode} {C : World → Prop} {S : Specs} {D : Drop}

/-- What is asked of an operation that has a specification. -/
def specStep (P : Program) (md : Region.Mode) (ops : Array Oper) (C : World → Prop) (D : Drop) (i : Nat) (o : Oper) (E : SpecE) (a : Act) (fs : Facts) : Prop :=
  ∀ w, C w → (∀ d, Region.waitsFor md ops i d = true → fs d w) → Oper.gives P o a w (fun v w' => C w' ∧ ((D i).1 = false → (D i).2 w w') ∧ E.2 (viewS a E.1) v w')

def rOp (P : Program) (md : Region.Mode) (ops : Array Oper) (C : World → Prop) (S : Specs) (D : Drop) (i : Nat) (K : Act → Facts → Prop) (a : Act) (fs : Facts) : Prop :=
  match ops[i]? with
  | none => K a fs
  | some o => match S i with
    | none => if Region.wanted o (yielded ops a.tmps) then plainB o = true ∧ o.quiet P a C (fun a' => K a' fs) else K (a.put o.dst undef) fs
    | some Φ => Region.wanted o (yielded ops a.tmps) = true ∧ specStep P md ops C D i o Φ a fs ∧ ∀ v, Poss C (updD D fs i (Φ.2 (viewS a Φ.1) v)) → K (a.put o.dst v) (updD D fs i (Φ.2 (viewS a Φ.1) v))

def wpAnyR (P : Program) (md : Region.Mode) (ops : Array Oper) (C : World → Prop) (S : Specs) (D : Drop) (n : Nat) (L : Array Bool → Act → Facts → Prop) : Nat → Array Bool → Act → Facts → Prop
  | 0, listed, a, fs => L listed a fs
  | f + 1, listed, a, fs =>
    Region.ready md ops listed ≠ [] ∧ ∀ i ∈ Region.ready md ops listed, i < n ∧ rOp P md ops C S D i (fun a' fs' => wpAnyR P md ops C S D n L f (listed.setIfInBounds i true) a' fs') a fs

/-- The specifications are kept by the other operations' steps. -/
def Lasting (S : Specs) (D : Drop) : Prop := ∀ i E, S i = some E → ∀ j, j ≠ i → (D j).1 = false → ∀ l v w w', E.2 l v w → (D j).2 w w' → E.2 l v w'
def Kept (D : Drop) (fs : Facts) : Prop := ∀ d j w w', j ≠ d → (D j).1 = false → fs d w → (D j).2 w w' → fs d w'
theorem Kept.upd {fs : Facts} (h : Kept D fs) {i : Nat} {φ : World → Prop} (hφ : ∀ j, j ≠ i → (D j).1 = false → ∀ w w', φ w → (D j).2 w w' → φ w') : Kept D (upd fs i φ) := fun d j w w' hj hD hd hb => by
  by_cases hdi : d = i
  · subst hdi; rw [upd_same] at hd ⊢; exact hφ j hj hD w w' hd hb
  · rw [upd_ne _ _ _ hdi] at hd ⊢; exact h d j w w' hj hD hd hb

def Only (listed : Array Bool) (fs : Facts) : Prop := ∀ d w, listed.getD d true = false → fs d w
theorem Only.set {listed : Array Bool} {fs : Facts} (h : Only listed fs) (j : Nat) : Only (listed.setIfInBounds j true) fs := fun d w hd => by
  by_cases hjd : j = d
  · subst hjd
    exfalso
    rcases Nat.lt_or_ge j listed.size with h' | h'
    · simp [h'] at hd
    · simp at hd
  · rw [getD_set_ne true hjd] at hd; exact h d w hd
theorem Only.upd {listed : Array Bool} {fs : Facts} (h : Only listed fs) (j : Nat) (φ : World → Prop) : Only (listed.setIfInBounds j true) (updD D fs j φ) := fun d w hd => by
  have hdj : d ≠ j := by
    intro e
    subst e
    rcases Nat.lt_or_ge d listed.size with h' | h'
    · simp [h'] at hd
    · simp at hd
  have h1 : fs d w := h.set j d w hd
  cases hD : (D j).1 with
  | false => rw [updD_no hD, upd_ne _ _ _ hdj]; exact h1
  | true => simp only [updD, hD, cond]; rw [upd_ne _ _ _ hdj]; trivial
theorem Kept.updD {fs : Facts} (h : Kept D fs) {i : Nat} {φ : World → Prop} (hφ : ∀ j, j ≠ i → (D j).1 = false → ∀ w w', φ w → (D j).2 w w' → φ w') : Kept D (updD D fs i φ) := by
  cases hD : (D i).1 with
  | false => rw [updD_no hD]; exact h.upd hφ
  | true => simp only [Go.Proofs.YtfabcdpmnbeflaaDoor.Rel.updD, hD, cond]; exact Kept.upd (fun _ _ _ _ _ _ _ _ => trivial) hφ
theorem facts_behind {fs : Facts} {i : Nat} {φ : World → Prop} {w w' : World} (hf : ∀ d, fs d w) (hk : Kept D fs) (hb : (D i).1 = false → (D i).2 w w') (hφ : φ w') : ∀ d, updD D fs i φ d w' := fun d => by
  cases hd : (D i).1 with
  | false =>
    rw [updD_no hd]
    by_cases hdi : d = i
    · subst hdi; rw [upd_same]; exact hφ
    · rw [upd_ne _ _ _ hdi]; exact hk d i _ _ (Ne.symm hdi) hd (hf d) (hb hd)
  | true =>
    simp only [updD, hd, cond]
    by_cases hdi : d = i
    · subst hdi; rw [upd_same]; exact hφ
    · rw [upd_ne _ _ _ hdi]; trivial
theorem poss_step {i : Nat} {o : Oper} {E : SpecE} {a : Act} {fs : Facts} (hp : Poss C fs) (hk : Kept D fs) (hst : specStep P md ops C D i o E a fs) : ∃ v, Poss C (updD D fs i (E.2 (viewS a E.1) v)) := by
  obtain ⟨w, hw, hf⟩ := hp
  have h := hst w hw fun d _ => hf d
  unfold Oper.gives at h
  cases hr : (execOp a.eval o).run P w with
  | halt x w' => rw [hr] at h; exact h.elim
  | ok n w' =>
    rw [hr] at h
    cases n <;> simp only at h
    case value u => exact ⟨u, w', h.1, facts_behind hf hk h.2.1 h.2.2⟩
    case skip => exact ⟨undef, w', h.1, facts_behind hf hk h.2.1 h.2.2⟩
    case enter f args =>
      obtain ⟨e, w'', fr, ⟨v, _, h1, h2, h3⟩, _⟩ := h []
      exact ⟨v, w'', h1, facts_behind hf hk h2 h3⟩
def Barred (md : Region.Mode) (ops : Array Oper) (S : Specs) (D : Drop) : Prop :=
  ∀ i, (D i).1 = true → ∀ j, j ≠ i → S j ≠ none → reaches md ops j ops.size i = true ∨ reaches md ops i ops.size j = true
/-- Specifications look at no slot that may be written behind their back. -/
def Viewed (md : Region.Mode) (ops : Array Oper) (S : Specs) : Prop := ∀ i E, S i = some E → ∀ (j : Nat) (oj : Oper) s, ops[j]? = some oj → oj.dst = some s → s ∈ E.1 → Region.waitsFor md ops i j = true
theorem Viewed.put {i j : Nat} {oj : Oper} {E : SpecE} {a : Act} {u : Value} (h : Viewed md ops S) (hS : S i = some E) (hj : ops[j]? = some oj) (hw : Region.waitsFor md ops i j = false) : viewS (a.put oj.dst u) E.1 = viewS a E.1 :=
  viewS_put fun s hs hm => by rw [h i E hS j oj s hj hs hm] at hw; cases hw
theorem specStep_put {i j : Nat} {oi oj : Oper} {E : SpecE} {a : Act} {u : Value} {fs : Facts} (h : Viewed md ops S) (hS : S i = some E) (hj : ops[j]? = some oj) (hw : Region.waitsFor md ops i j = false) (hsi : ∀ cs b, oi.op ≠ .select cs b) (hp : ∀ x, oj.dst = some x → x ∉ oi.looksAt ops) :
    specStep P md ops C D i oi E (a.put oj.dst u) fs ↔ specStep P md ops C D i oi E a fs := by
  unfold specStep
  rw [h.put hS hj hw]
  constructor
  · intro k w hw' hf; exact (gives_put hsi hp w).1 (k w hw' hf)
  · intro k w hw' hf; exact (gives_put hsi hp w).2 (k w hw' hf)
theorem reaches_listed {n i : Nat} {listed : Array Bool} (inv : HeadInv md ops n listed) : ∀ (f j : Nat), reaches md ops i f j = true → (j ∈ Region.ready md ops listed ∨ listed.getD j false = true) → listed.getD i false = true
  | 0, j, h, _ => by cases h
  | f + 1, j, h, hj => by
    unfold reaches at h
    cases ho : ops[j]? with
    | none => rw [ho] at h; cases h
    | some o =>
      rw [ho] at h
      simp only at h
      obtain ⟨e, he, hb⟩ := Array.any_eq_true'.1 h
      simp only [Bool.and_eq_true, Bool.or_eq_true, beq_iff_eq] at hb
      have hl : listed.getD e.on false = true := by
        rcases hj with hj | hj
        · obtain ⟨_, o', ho', hall⟩ := mem_ready.1 hj
          have : o' = o := Option.some.inj (ho'.symm.trans ho)
          subst this
          exact hall e he hb.1
        · exact inv.closed j o ho hj e he hb.1
      rcases hb.2 with h2 | h2
      · rw [← h2]; exact hl
      · exact reaches_listed inv f e.on h2 (.inr hl)
theorem no_drop {n i j : Nat} {listed : Array Bool} (hbar : Barred md ops S D) (inv : HeadInv md ops n listed) (hi : i ∈ Region.ready md ops listed) (hj : j ∈ Region.ready md ops listed) (hne : j ≠ i) (hS : S j ≠ none) : (D i).1 = false := by
  cases hd : (D i).1 with
  | false => rfl
  | true =>
    exfalso
    rcases hbar i hd j hne hS with h | h
    · have := reaches_listed inv _ _ h (.inl hi)
      rw [getD_both (mem_ready.1 hj).1] at this; cases this
    · have := reaches_listed inv _ _ h (.inl hj)
      rw [getD_both (mem_ready.1 hi).1] at this; cases this

theorem wpAnyR_first {n i : Nat} {oi : Oper} {w0 : World} {L : Array Bool → Act → Facts → Prop} (hw0 : C w0) (hbar : Barred md ops S D) (hvw : Viewed md ops S) (hlast : Lasting S D) (hi : ops[i]? = some oi) (hsel : ∀ (j : Nat) (o : Oper) cs b, ops[j]? = some o → o.op ≠ .select cs b)
    (hlt : ∀ listed, HeadInv md ops n listed → listed.getD i true = false → ∀ j ∈ Region.ready md ops listed, j < n) (hin : i < n)
    (hdone : ∀ listed a fs, L listed a fs → ∀ j ∈ Region.ready md ops listed, n ≤ j) :
    ∀ (f : Nat) (listed : Array Bool) (a : Act) (fs : Facts), HeadInv md ops n listed →
      (∀ j oj, ops[j]? = some oj → j ≠ i → listed.getD j true = false → (∀ e ∈ oj.after, Region.binds md e = true → e.on ≠ i) → oi.apart ops oj = true) →
      i ∈ Region.ready md ops listed → Poss C fs → Kept D fs → Only listed fs →
      rOp P md ops C S D i (fun a' fs' => wpAnyR P md ops C S D n L f (listed.setIfInBounds i true) a' fs') a fs → wpAnyR P md ops C S D n L (f + 1) listed a fs := by
  intro f
  induction f with
  | zero =>
    intro listed a fs inv _ hr hps hkp hon H
    have hun := (mem_ready.1 hr).1
    refine ⟨fun h => (by rw [h] at hr; cases hr), fun j hj => ?_⟩
    have hjn := hlt listed inv hun j hj
    refine ⟨hjn, ?_⟩
    by_cases hji : j = i
    · subst hji; exact H
    · exfalso
      have key : ∃ a' fs', L (listed.setIfInBounds i true) a' fs' := by
        unfold rOp at H
        rw [hi] at H
        simp only at H
        cases hS : S i with
        | none =>
          rw [hS] at H
          simp only at H
          split at H
          · obtain ⟨_, v, _, hK⟩ := H; exact ⟨_, _, hK⟩
          · exact ⟨_, _, H⟩
        | some Φ =>
          rw [hS] at H
          simp only at H
          obtain ⟨v, hv⟩ := poss_step hps hkp H.2.1
          exact ⟨_, _, H.2.2 v hv⟩
      obtain ⟨a', fs', hL⟩ := key
      have := hdone _ _ _ hL j (ready_mono hj hji)
      omega
  | succ f ih =>
    intro listed a fs inv hfree hr hps hkp hon H
    have hun := (mem_ready.1 hr).1
    refine ⟨fun h => (by rw [h] at hr; cases hr), fun j hj => ?_⟩
    have hjn := hlt listed inv hun j hj
    refine ⟨hjn, ?_⟩
    by_cases hji : j = i
    · subst hji; exact H
    · obtain ⟨hjun, oj, hoj, hall⟩ := mem_ready.1 hj
      have hnot : ∀ e ∈ oj.after, Region.binds md e = true → e.on ≠ i := fun e he hb heq => by
        have h1 := hall e he hb
        rw [heq, getD_both hun] at h1
        cases h1
      have hap := hfree j oj hoj hji hjun hnot
      obtain ⟨p1, p2, p3⟩ := Oper.apart_spec hap
      have hsj : ∀ cs b, oj.op ≠ .select cs b := fun cs b => hsel j oj cs b hoj
      have hsi : ∀ cs b, oi.op ≠ .select cs b := fun cs b => hsel i oi cs b hi
      have hfree' : ∀ k ok, ops[k]? = some ok → k ≠ i → (listed.setIfInBounds j true).getD k true = false →
          (∀ e ∈ ok.after, Region.binds md e = true → e.on ≠ i) → oi.apart ops ok = true := fun k ok hk hki hun hno => by
        refine hfree k ok hk hki ?_ hno
        by_cases hjk : j = k
        · subst hjk; exact hjun
        · rw [getD_set_ne true hjk] at hun; exact hun
      have hwf : Region.waitsFor md ops j i = false := by
        cases h : Region.waitsFor md ops j i with
        | false => rfl
        | true =>
          obtain ⟨o', ho', e, he, hb, hon⟩ := Region.waitsFor_spec h
          have : o' = oj := Option.some.inj (ho'.symm.trans hoj)
          subst this
          exact absurd hon (hnot e he hb)
      have hwf2 : Region.waitsFor md ops i j = false := by
        cases h : Region.waitsFor md ops i j with
        | false => rfl
        | true =>
          obtain ⟨_, o', ho', hall'⟩ := mem_ready.1 hr
          obtain ⟨o2, ho2, e, he, hb, hon⟩ := Region.waitsFor_spec h
          have : o2 = o' := Option.some.inj (ho2.symm.trans ho')
          subst this
          have h1 := hall' e he hb
          rw [hon, getD_both hjun] at h1
          cases h1
      have hcomm : (listed.setIfInBounds i true).setIfInBounds j true = (listed.setIfInBounds j true).setIfInBounds i true := (Array.setIfInBounds_comm _ _ hji).symm
      -- what H says of j behind i
      have after : ∀ {v : Value} {fs' : Facts}, wpAnyR P md ops C S D n L (f + 1) (listed.setIfInBounds i true) (a.put oi.dst v) fs' →
          rOp P md ops C S D j (fun a' fs'' => wpAnyR P md ops C S D n L f ((listed.setIfInBounds j true).setIfInBounds i true) a' fs'') (a.put oi.dst v) fs' := fun h => by
        have := (h.2 j (ready_mono hj hji)).2
        rw [hcomm] at this
        exact this
      have wj : ∀ v, Region.wanted oj (yielded ops (a.put oi.dst v).tmps) = Region.wanted oj (yielded ops a.tmps) := fun v => wanted_put oj a oi.dst v p1
      have wi : ∀ u, Region.wanted oi (yielded ops (a.put oj.dst u).tmps) = Region.wanted oi (yielded ops a.tmps) := fun u => wanted_put oi a oj.dst u p3
      unfold rOp at H ⊢
      rw [hi] at H
      rw [hoj]
      simp only at H ⊢
      cases hSi : S i with
      | none =>
        rw [hSi] at H
        simp only at H
        -- the frame behind i
        have key : ∃ v, (Region.wanted oi (yielded ops a.tmps) = true → plainB oi = true ∧ ∀ w, C w → oi.quietAt P a C w v) ∧ (Region.wanted oi (yielded ops a.tmps) = false → v = undef) ∧ wpAnyR P md ops C S D n L (f + 1) (listed.setIfInBounds i true) (a.put oi.dst v) fs := by
          split at H
          · rename_i hw
            obtain ⟨hp, v, hv, hK⟩ := H
            exact ⟨v, fun _ => ⟨hp, hv⟩, (fun h => by rw [hw] at h; cases h), hK⟩
          · rename_i hw
            exact ⟨undef, fun h => absurd h hw, fun _ => rfl, H⟩
        obtain ⟨v, hv1, hv2, hK⟩ := key
        have mk : ∀ (u : Value) (fs' : Facts), Poss C fs' → Kept D fs' → Only (listed.setIfInBounds j true) fs' → wpAnyR P md ops C S D n L f ((listed.setIfInBounds j true).setIfInBounds i true) ((a.put oi.dst v).put oj.dst u) fs' →
            wpAnyR P md ops C S D n L (f + 1) (listed.setIfInBounds j true) (a.put oj.dst u) fs' := fun u fs' q1 q2 q3 h => by
          refine ih (listed.setIfInBounds j true) (a.put oj.dst u) fs' (inv.set hj hjn) hfree' (ready_mono hr (Ne.symm hji)) q1 q2 q3 ?_
          unfold rOp
          rw [hi]
          simp only [hSi]
          rw [wi u]
          rw [Act.put_comm a v u p2] at h
          split
          · rename_i hw
            exact ⟨(hv1 hw).1, v, fun w hw' => (quietAt_put hsi p3 w).2 ((hv1 hw).2 w hw'), h⟩
          · rename_i hw
            rw [hv2 (by simpa using hw)] at h
            exact h
        have h2 := after hK
        unfold rOp at h2
        rw [hoj] at h2
        simp only at h2
        cases hSj : S j with
        | none =>
          rw [hSj] at h2
          simp only at h2 ⊢
          rw [wj v] at h2
          split
          · rename_i hw
            rw [if_pos hw] at h2
            obtain ⟨hp, u, hu, hk⟩ := h2
            exact ⟨hp, u, fun w hw' => (quietAt_put hsj p1 w).1 (hu w hw'), mk u fs hps hkp (hon.set j) hk⟩
          · rename_i hw
            rw [if_neg hw] at h2
            exact mk undef fs hps hkp (hon.set j) h2
        | some Φ =>
          rw [hSj] at h2
          simp only at h2 ⊢
          rw [wj v] at h2
          obtain ⟨hw, hs, hk⟩ := h2
          have hvj : viewS (a.put oi.dst v) Φ.1 = viewS a Φ.1 := hvw.put hSj hi hwf
          rw [hvj] at hk
          exact ⟨hw, (specStep_put hvw hSj hi hwf hsj p1).1 hs, fun u hpu => mk u _ hpu (hkp.updD (fun j' h1 h2 => hlast j Φ hSj j' h1 h2 _ u)) (hon.upd j _) (hk u hpu)⟩
      | some Φi =>
        rw [hSi] at H
        simp only at H
        obtain ⟨hwi, hsti, hK⟩ := H
        obtain ⟨v0, hp0⟩ := poss_step hps hkp hsti
        have mk : ∀ (u : Value) (fs' : Facts), Poss C fs' → Kept D fs' → Only (listed.setIfInBounds j true) fs' → (∀ d, d ≠ j → fs' d = fs d) → (∀ v, Poss C (updD D fs' i (Φi.2 (viewS a Φi.1) v)) → wpAnyR P md ops C S D n L f ((listed.setIfInBounds j true).setIfInBounds i true) ((a.put oi.dst v).put oj.dst u) (updD D fs' i (Φi.2 (viewS a Φi.1) v))) →
            wpAnyR P md ops C S D n L (f + 1) (listed.setIfInBounds j true) (a.put oj.dst u) fs' := fun u fs' q1 q2 q3 hfs h => by
          refine ih (listed.setIfInBounds j true) (a.put oj.dst u) fs' (inv.set hj hjn) hfree' (ready_mono hr (Ne.symm hji)) q1 q2 q3 ?_
          unfold rOp
          rw [hi]
          simp only [hSi]
          rw [wi u]
          have hvi : viewS (a.put oj.dst u) Φi.1 = viewS a Φi.1 := hvw.put hSi hoj hwf2
          rw [hvi]
          refine ⟨hwi, fun w hw' hf => ?_, fun v hpv => ?_⟩
          · rw [hvi]
            refine (gives_put hsi p3 w).2 (hsti w hw' fun d hd => ?_)
            have hdj : d ≠ j := fun e => by rw [e, hwf2] at hd; cases hd
            rw [← hfs d hdj]; exact hf d hd
          · have := h v hpv
            rw [Act.put_comm a v u p2] at this
            exact this
        have h2 : ∀ v, Poss C (updD D fs i (Φi.2 (viewS a Φi.1) v)) → rOp P md ops C S D j (fun a' fs'' => wpAnyR P md ops C S D n L f ((listed.setIfInBounds j true).setIfInBounds i true) a' fs'') (a.put oi.dst v) (updD D fs i (Φi.2 (viewS a Φi.1) v)) := fun v hv => after (hK v hv)
        unfold rOp at h2
        simp only [hoj] at h2
        cases hSj : S j with
        | none =>
          simp only [hSj, wj] at h2 ⊢
          split
          · rename_i hw
            simp only [hw, if_true] at h2
            obtain ⟨hp, u, hu, _⟩ := h2 v0 hp0
            refine ⟨hp, u, fun w hw' => (quietAt_put hsj p1 w).1 (hu w hw'), mk u fs hps hkp (hon.set j) (fun _ _ => rfl) fun v hpv => ?_⟩
            obtain ⟨_, u', hu', hk'⟩ := h2 v hpv
            have : u' = u := quiet_unique hw0 hp (fun w hw' => (quietAt_put hsj p1 w).1 (hu' w hw')) (fun w hw' => (quietAt_put hsj p1 w).1 (hu w hw'))
            rw [this] at hk'
            exact hk'
          · rename_i hw
            simp only [hw] at h2
            exact mk undef fs hps hkp (hon.set j) (fun _ _ => rfl) fun v hpv => h2 v hpv
        | some Φ =>
          have hDi : (D i).1 = false := no_drop hbar inv hr hj hji (by rw [hSj]; simp)
          have hDj : (D j).1 = false := no_drop hbar inv hj hr (Ne.symm hji) (by rw [hSi]; simp)
          have hvj : ∀ v, viewS (a.put oi.dst v) Φ.1 = viewS a Φ.1 := fun v => hvw.put hSj hi hwf
          simp only [hSj, wj, updD_no hDi, updD_no hDj, hvj] at h2 ⊢
          rw [updD_no hDi] at hp0
          have hpost : ∀ u, Poss C (upd fs j (Φ.2 (viewS a Φ.1) u)) → Kept D (upd fs j (Φ.2 (viewS a Φ.1) u)) ∧ Only (listed.setIfInBounds j true) (upd fs j (Φ.2 (viewS a Φ.1) u)) := fun u _ => ⟨hkp.upd (fun j' h1 h2 => hlast j Φ hSj j' h1 h2 _ u), by have := hon.upd (D := D) j (Φ.2 (viewS a Φ.1) u); rwa [updD_no hDj] at this⟩
          refine ⟨(h2 v0 hp0).1, fun w hw' hf => ?_, fun u hpu => mk u _ hpu (hpost u hpu).1 (hpost u hpu).2 (fun d hd => by funext w; exact upd_ne fs _ w hd) fun v hpv => ?_⟩
          · have h3 := (h2 v0 hp0).2.1 w hw' fun d hd => by
              have hdi : d ≠ i := fun e => by rw [e, hwf] at hd; cases hd
              rw [upd_ne _ _ _ hdi]; exact hf d hd
            rw [hvj] at h3
            exact (gives_put hsj p1 w).1 h3
          · rw [updD_no hDi] at hpv
            rw [← upd_comm fs _ _ hji] at hpv
            have hp1 : Poss C (upd fs i (Φi.2 (viewS a Φi.1) v)) := by
              obtain ⟨w, hw, hf⟩ := hpv
              refine ⟨w, hw, fun d => ?_⟩
              by_cases hdj : d = j
              · subst hdj
                rw [upd_ne _ _ _ hji]
                exact hon d w hjun
              · have := hf d
                rwa [upd_ne _ _ _ hdj] at this
            have := (h2 v hp1).2.2 u hpv
            rw [upd_comm fs _ _ hji] at this
            rw [updD_no hDi]
            exact this

/-- The walk in the text's order. -/
def wpSpec (P : Program) (md : Region.Mode) (ops : Array Oper) (C : World → Prop) (S : Specs) (D : Drop) (Q : Act → Facts → Prop) : Nat → List Oper → Act → Facts → Prop
  | _, [], a, fs => Q a fs
  | k, o :: rest, a, fs => match S k with
    | none => if Region.wanted o (yielded ops a.tmps) then plainB o = true ∧ o.quiet P a C (fun a' => wpSpec P md ops C S D Q (k + 1) rest a' fs) else wpSpec P md ops C S D Q (k + 1) rest (a.put o.dst undef) fs
    | some Φ => Region.wanted o (yielded ops a.tmps) = true ∧ specStep P md ops C D k o Φ a fs ∧ ∀ v, Poss C (updD D fs k (Φ.2 (viewS a Φ.1) v)) → wpSpec P md ops C S D Q (k + 1) rest (a.put o.dst v) (updD D fs k (Φ.2 (viewS a Φ.1) v))

theorem wpAnyR_lex {n g : Nat} {Q : Act → Facts → Prop} {w0 : World} (hw0 : C w0) (hbar : Barred md ops S D) (hvw : Viewed md ops S) (hlast : Lasting S D) (hsel : Region.noSelect ops = true)
    (hlt : ∀ i, i < n → ∀ listed, HeadInv md ops n listed → listed.getD i true = false → ∀ j ∈ Region.ready md ops listed, j < n) :
    ∀ (l : List Oper) (k : Nat) (listed : Array Bool) (a : Act) (fs : Facts), (∀ j, j < l.length → l[j]? = ops[k + j]?) → k + l.length = n → HeadInv md ops n listed → Poss C fs → Kept D fs → Only listed fs →
    Region.lexHead md ops g l.length k listed = true → wpSpec P md ops C S D Q k l a fs →
    wpAnyR P md ops C S D n (fun listed' a' fs' => Region.seqB md ops g n listed' = true ∧ Q a' fs') l.length listed a fs
  | [], k, listed, a, fs, _, hk, _, _, _, _, hB, h => by
    have : k = n := by simpa using hk
    subst this
    exact ⟨by simpa [Region.lexHead] using hB, h⟩
  | o :: l, k, listed, a, fs, hl, hk, inv, hps, hkp, hon, hB, h => by
    have h0 : ops[k]? = some o := by simpa using (hl 0 (by simp)).symm
    simp only [List.length_cons, Region.lexHead, Bool.and_eq_true] at hB
    obtain ⟨⟨hr, hf⟩, hB'⟩ := hB
    have hkn : k < n := by simp only [List.length_cons] at hk; omega
    have hr' : k ∈ Region.ready md ops listed := by simpa using hr
    have again := fun a' fs' q1 q2 q3 => wpAnyR_lex (g := g) (Q := Q) hw0 hbar hvw hlast hsel hlt l (k + 1) (listed.setIfInBounds k true) a' fs' (fun j hj => by have := hl (j + 1) (by simp; omega); simpa [Nat.add_assoc, Nat.add_comm 1 j] using this) (by simp only [List.length_cons] at hk; omega) (inv.set hr' hkn) q1 q2 q3 hB'
    refine wpAnyR_first hw0 hbar hvw hlast h0 (Region.noSelect_spec hsel) (hlt k hkn) hkn (fun listed' a' fs' hL => seqB_ready hL.1) l.length listed a fs inv (Region.free_spec h0 hf) hr' hps hkp hon ?_
    unfold rOp
    rw [h0]
    unfold wpSpec at h
    simp only
    cases hS : S k with
    | none =>
      rw [hS] at h
      simp only at h ⊢
      split
      · rename_i hw
        rw [if_pos hw] at h
        exact ⟨h.1, Oper.quiet_mono (fun a' h' => again a' fs hps hkp (hon.set k) h') h.2⟩
      · rename_i hw
        rw [if_neg hw] at h
        exact again _ _ hps hkp (hon.set k) h
    | some Φ =>
      rw [hS] at h
      simp only at h ⊢
      exact ⟨h.1, h.2.1, fun v hv => again _ _ hv (hkp.updD (fun j' h1 h2 => hlast k Φ hS j' h1 h2 _ v)) (hon.upd k _) (h.2.2 v hv)⟩

theorem wpAny_of_R {n g : Nat} {L : Array Bool → Act → Facts → Prop} {Q' : Exit → Act → World → Prop} (hlast : Lasting S D)
    (hL : ∀ listed a fs w, C w → (∀ d, fs d w) → L listed a fs → wpAny P md ops Q' g listed a w) :
    ∀ (f : Nat) (listed : Array Bool) (a : Act) (fs : Facts) (w : World), C w → (∀ d, fs d w) → Kept D fs → wpAnyR P md ops C S D n L f listed a fs → wpAny P md ops Q' (f + g) listed a w
  | 0, listed, a, fs, w, hw, hf, hk, h => by rw [Nat.zero_add]; exact hL _ _ _ _ hw hf h
  | f + 1, listed, a, fs, w, hw, hf, hk, h => by
    rw [show f + 1 + g = (f + g) + 1 by omega]
    refine ⟨fun h0 => absurd h0 h.1, fun i hi => ?_⟩
    have h1 := (h.2 i hi).2
    unfold rOp at h1
    unfold wpOp
    cases ho : ops[i]? with
    | none =>
      rw [ho] at h1
      exact wpAny_of_R hlast hL f _ _ _ _ hw hf hk h1
    | some o =>
      rw [ho] at h1
      simp only at h1 ⊢
      cases hS : S i with
      | none =>
        rw [hS] at h1
        simp only at h1
        split
        · rename_i hwd
          rw [if_pos hwd] at h1
          obtain ⟨hp, v, hv, hK⟩ := h1
          left
          have h3 := hv w hw
          unfold Oper.quietAt at h3
          unfold Oper.wp
          cases hr : (execOp a.eval o).run P w with
          | ok m w' =>
            obtain ⟨x, rfl⟩ := plain_value hp _ _ _ _ hr
            rw [hr] at h3
            simp only [Oper.quietUpon] at h3
            simp only [Oper.upon]
            rw [h3.1, h3.2]
            exact wpAny_of_R hlast hL f _ _ _ _ hw hf hk hK
          | halt x w' => rw [hr] at h3; simp only [Oper.quietUpon] at h3
        · rename_i hwd
          rw [if_neg hwd] at h1
          exact wpAny_of_R hlast hL f _ _ _ _ hw hf hk h1
      | some Φ =>
        rw [hS] at h1
        simp only at h1
        obtain ⟨hwd, hst, hK⟩ := h1
        rw [if_pos hwd]
        left
        refine wp_of_gives (hst w hw fun d _ => hf d) fun v w' ⟨hC', hb, hΦ⟩ => ?_
        have hf' := facts_behind hf hk hb hΦ
        exact wpAny_of_R hlast hL f _ _ _ _ hC' hf' (hk.updD (fun j' h1 h2 => hlast i Φ hS j' h1 h2 _ v)) (hK v ⟨w', hC', hf'⟩)

/-- A region with a head of specified operations, and a chain behind it. -/
theorem wp_region_spec_tail {id : Nat} {Q : Exit → Act → World → Prop} {a : Act} {w : World} {l : List Oper} (n : Nat) (hm : P.follows .mixedOrders = true) (hB : Region.lexTailB .any l.toArray n = true)
    (hC : C { w with drawn := w.drawn + 1 }) (hlast : Lasting S D) (hbar : Barred .any l.toArray S D) (hvw : Viewed .any l.toArray S)
    (h : wpSpec P .any l.toArray C S D (fun a' fs' => ∀ w', C w' → (∀ d, fs' d w') → wpList P l.toArray Q (l.drop n) a' w') 0 (l.take n) a noFacts) : (Code.region id l.toArray true).wp P Q a w := by
  simp only [Region.lexTailB, Bool.and_eq_true, decide_eq_true_eq] at hB
  obtain ⟨⟨⟨⟨hsel, hn⟩, hs⟩, hc⟩, hlex⟩ := hB
  have hn' : n < l.length := by simpa using hn
  have htl : (l.take n).length = n := by simp; omega
  have hdl : (l.drop n).length = l.toArray.size - n := by simp
  have inv0 : HeadInv .any l.toArray n (Array.replicate l.toArray.size false) :=
    ⟨by simp, fun j oj _ hl => (by rw [getD_replicate_false] at hl; cases hl), fun t _ ht => getD_in (by simpa using ht) (getD_replicate_false _ _)⟩
  have H := wpAnyR_lex (md := .any) (g := l.toArray.size - n) hC hbar hvw hlast hsel (fun i hi listed inv hun j hj => by
      rcases Nat.lt_or_ge j n with h' | h'
      · exact h'
      · exact absurd hj (tail_waits hs hc hn inv _ i rfl hi hun j h')) (l.take n) 0 _ a noFacts (fun j hj => by
    have hj' : j < n := by rw [htl] at hj; exact hj
    simp [hj']) (by simpa using htl) inv0 ⟨_, hC, fun _ => trivial⟩ (fun _ _ _ _ _ _ _ _ => trivial) (fun _ _ _ => trivial) (by rw [htl]; exact hlex) h
  refine wp_region_any hm ?_
  have := wpAny_of_R (Q' := Q) (g := l.toArray.size - n) hlast (fun listed a' fs' w' hw' hf' hL => by
    have := wpAny_of_seq (md := .any) (Q' := Q) (l.drop n) n listed a' w' (fun j => by simp [List.getElem?_drop]) (by rw [hdl]; exact hL.1) (hL.2 w' hw' hf')
    rwa [hdl] at this) _ _ _ _ _ hC (fun _ => trivial) (fun _ _ _ _ _ _ _ _ => trivial) H
  rw [htl, show n + (l.toArray.size - n) = l.toArray.size by omega] at this
  exact this
theorem wp_region_spec {id : Nat} {Q : Exit → Act → World → Prop} {a : Act} {w : World} {l : List Oper} (hm : P.follows .mixedOrders = true) (hB : lexAllB .any l.toArray = true)
    (hC : C { w with drawn := w.drawn + 1 }) (hlast : Lasting S D) (hbar : Barred .any l.toArray S D) (hvw : Viewed .any l.toArray S)
    (h : wpSpec P .any l.toArray C S D (fun a' fs' => ∀ w', C w' → (∀ d, fs' d w') → Q .normal a' w') 0 l a noFacts) : (Code.region id l.toArray true).wp P Q a w := by
  simp only [lexAllB, Bool.and_eq_true] at hB
  obtain ⟨hsel, hlex⟩ := hB
  have inv0 : HeadInv .any l.toArray l.length (Array.replicate l.toArray.size false) :=
    ⟨by simp, fun j oj _ hl => (by rw [getD_replicate_false] at hl; cases hl), fun t _ ht => getD_in (by simpa using ht) (getD_replicate_false _ _)⟩
  have H := wpAnyR_lex (md := .any) (n := l.length) (g := 0) hC hbar hvw hlast hsel (fun i hi listed inv hun j hj => by
      obtain ⟨_, o, ho, _⟩ := mem_ready.1 hj
      have := (Array.getElem?_eq_some_iff.1 ho).1
      simpa using this) l 0 _ a noFacts (fun j hj => by simp) (by simp) inv0 ⟨_, hC, fun _ => trivial⟩ (fun _ _ _ _ _ _ _ _ => trivial) (fun _ _ _ => trivial) (by simpa using hlex) h
  refine wp_region_any hm ?_
  have := wpAny_of_R (Q' := Q) (g := 0) hlast (fun listed a' fs' w' hw' hf' hL => by
    have := wpAny_of_seq (md := .any) (P := P) (Q' := Q) [] l.length listed a' w' (fun j => by simp) hL.1 (hL.2 w' hw' hf')
    exact this) _ _ _ _ _ hC (fun _ => trivial) (fun _ _ _ _ _ _ _ _ => trivial) H
  simpa using this

theorem wpSpec_quiet {Q : Act → Facts → Prop} : ∀ (m : Nat) {k : Nat} {l : List Oper} {a : Act} {fs : Facts} (hS : ((List.range m).all fun i => (S (k + i)).isNone) = true) (hp : ((l.take m).all plainB) = true)
    (h : wpQuiet P ops C (fun a' => wpSpec P md ops C S D Q (k + m) (l.drop m) a' fs) (l.take m) a), wpSpec P md ops C S D Q k l a fs
  | 0, k, l, a, fs, _, _, h => h
  | m + 1, k, [], a, fs, _, _, h => h
  | m + 1, k, o :: l, a, fs, hS, hp, h => by
    have hS0 : S k = none := by
      have := List.all_eq_true.1 hS 0 (by simp)
      simpa using this
    simp only [List.take_succ_cons, List.all_cons, Bool.and_eq_true] at hp
    have again : ∀ a', wpQuiet P ops C (fun a' => wpSpec P md ops C S D Q (k + (m + 1)) (List.drop (m + 1) (o :: l)) a' fs) (l.take m) a' → wpSpec P md ops C S D Q (k + 1) l a' fs := fun a' h' =>
      wpSpec_quiet m (k := k + 1) (List.all_eq_true.2 fun i hi => by
        have := List.all_eq_true.1 hS (i + 1) (by simp at hi ⊢; exact hi)
        rwa [show k + (i + 1) = k + 1 + i by omega] at this) hp.2 (by
        rw [show k + (m + 1) = k + 1 + m by omega] at h'
        exact h')
    unfold wpSpec
    rw [hS0]
    simp only
    simp only [List.take_succ_cons] at h
    unfold wpQuiet at h
    split
    · rename_i hw
      rw [if_pos hw] at h
      exact ⟨hp.1, Oper.quiet_mono again h⟩
    · rename_i hw
      rw [if_neg hw] at h
      exact again _ h
end

section
variable {P : Program} {ops : Array Oper} {md : Region.Mode} {S : Specs} {D : Drop}
/-- A later world. -/
def LateR (w w' : World) : Prop := Go.RowKit.Below w.heap.size w w'
theorem viewed_of {l : List (Nat × SpecE)} {vs : List (Nat × List Tmp)} (hvs : (l.map fun p => (p.1, p.2.1)) = vs) (h : viewB md ops vs = true) : Viewed md ops (planS l) := by
  intro i E hS j oj s hj hs hm
  have h1 := List.all_eq_true.1 (List.all_eq_true.1 (List.all_eq_true.1 h (i, E.1) (hvs ▸ planS_in hS)) s hm) j (List.mem_range.2 (Array.getElem?_eq_some_iff.1 hj).1)
  simp only [hj, hs, Bool.or_eq_true] at h1
  rcases h1 with h1 | h1
  · simp at h1
  · exact h1
end

/-- A class of worlds. -/
structure WIn (C : World → Prop) where
  w : World
  h : C w
/-- Its world. -/
def wOf {C : World → Prop} (p : WIn C) : World := p.w
theorem wOf_in {C : World → Prop} (p : WIn C) : C (wOf p) := p.h
def relOf (rs : List (Nat × (World → World → Prop))) (k : Nat) : World → World → Prop := match rs with
  | [] => LateR
  | (i, R) :: r => cond (Nat.beq i k) R (relOf r k)
def relS (rs : List (Nat × (World → World → Prop))) : Drop := fun k => (false, relOf rs k)
theorem relOf_cases {rs : List (Nat × (World → World → Prop))} {k : Nat} : relOf rs k = LateR ∨ ∃ R, (k, R) ∈ rs ∧ relOf rs k = R := by
  induction rs with
  | nil => exact .inl rfl
  | cons p r ih =>
    obtain ⟨i, R⟩ := p
    unfold relOf
    cases hb : Nat.beq i k with
    | true =>
      rw [Nat.eq_of_beq_eq_true hb]
      exact .inr ⟨R, List.mem_cons_self .., rfl⟩
    | false =>
      rcases ih with h | ⟨R', h1, h2⟩
      · exact .inl h
      · exact .inr ⟨R', List.mem_cons_of_mem _ h1, h2⟩
/-- What is asked of the specifications: they stay behind later worlds, and behind each other operation of the list. -/
def StayL (rs : List (Nat × (World → World → Prop))) (i : Nat) (E : List Value → Value → World → Prop) : List (Nat × (World → World → Prop)) → Prop
  | [] => True
  | p :: r => (p.1 ≠ i → ∀ l v w w', E l v w → p.2 w w' → E l v w') ∧ StayL rs i E r
theorem StayL.of {rs0 : List (Nat × (World → World → Prop))} {i : Nat} {E : List Value → Value → World → Prop} : ∀ {rs}, StayL rs0 i E rs → ∀ k R, (k, R) ∈ rs → k ≠ i → ∀ l v w w', E l v w → R w w' → E l v w'
  | [], _, _, _, h, _ => by cases h
  | p :: r, hs, k, R, h, hne => by
    rcases List.mem_cons.1 h with rfl | h
    · exact hs.1 hne
    · exact StayL.of hs.2 k R h hne
def LastR (rs : List (Nat × (World → World → Prop))) : List (Nat × SpecE) → Prop
  | [] => True
  | p :: r => ((∀ l v w w', p.2.2 l v w → Go.RowKit.Below w.heap.size w w' → p.2.2 l v w') ∧ StayL rs p.1 p.2.2 rs) ∧ LastR rs r
theorem LastR.lasting {rs : List (Nat × (World → World → Prop))} : ∀ {l : List (Nat × SpecE)}, LastR rs l → Lasting (planS l) (relS rs)
  | [], _, i, Φ, h => by cases h
  | (j, Ψ) :: r, hl, i, Φ, h => by
    unfold planS at h
    cases hb : Nat.beq j i with
    | true =>
      rw [hb] at h
      cases h
      have hji := Nat.eq_of_beq_eq_true hb
      intro k hk _ l v w w' h1 h2
      change relOf rs k w w' at h2
      rcases relOf_cases (rs := rs) (k := k) with h3 | ⟨R, h3, h4⟩
      · rw [h3] at h2; exact hl.1.1 l v w w' h1 h2
      · rw [h4] at h2; exact hl.1.2.of k R h3 (by rw [hji]; exact hk) l v w w' h1 h2
    | false => rw [hb] at h; exact LastR.lasting hl.2 i Φ h
section
variable {P : Program} {ops : Array Oper} {md : Region.Mode} {S : Specs} {D : Drop} {C0 : World → Prop}
/-- A specified operation, in a class of worlds; R: its relation. -/
theorem wpSpec_atR {Q : Act → Facts → Prop} {k : Nat} {o : Oper} {rest : List Oper} {a : Act} {fs : Facts} (l : List Value) (Φ : Value → World → Prop) (R : World → World → Prop) {sl : List Tmp} {Ψ : List Value → Value → World → Prop} (hS : S k = some (sl, Ψ)) (hv : viewS a sl = l) (hΦ : Ψ l = Φ) (hw : Region.wanted o (yielded ops a.tmps) = true)
    (hst : ∀ w', C0 w' → (∀ d, Region.waitsFor md ops k d = true → fs d w') → Oper.gives P o a w' (fun v w'' => C0 w'' ∧ R w' w'' ∧ Φ v w''))
    (hD : D k = (false, R)) (h : ∀ v, (∃ w', Φ v w') → wpSpec P md ops (fun w' => ∃ p : WIn C0, w' = wOf p) S D Q (k + 1) rest (a.put o.dst v) (upd fs k (Φ v))) : wpSpec P md ops (fun w' => ∃ p : WIn C0, w' = wOf p) S D Q k (o :: rest) a fs := by
  unfold wpSpec
  rw [hS]
  refine ⟨hw, fun w' hw' hf => ?_, fun v hp => by
    simp only [updD_no (show (D k).1 = false by rw [hD]), hv, hΦ] at hp ⊢
    obtain ⟨wp, _, hf⟩ := hp
    have h1 := hf k
    rw [upd_same] at h1
    exact h v ⟨wp, h1⟩⟩
  obtain ⟨p, rfl⟩ := hw'
  simp only [hv, hΦ]
  exact (hst (wOf p) (wOf_in p) hf).mono fun v w2 h2 => ⟨⟨⟨w2, h2.1⟩, rfl⟩, fun _ => by rw [hD]; exact h2.2.1, h2.2.2⟩
theorem wp_region_rel_tail {id : Nat} {Q : Exit → Act → World → Prop} {a : Act} {w : World} {l : List Oper} (C0 : World → Prop) (rs : List (Nat × (World → World → Prop))) (pl : List (Nat × SpecE)) (vs : List (Nat × List Tmp)) (n : Nat) (hm : P.follows .mixedOrders = true) (hB : Region.lexTailB .any l.toArray n = true) (hvs : (pl.map fun p => (p.1, p.2.1)) = vs) (hview : viewB .any l.toArray vs = true) (hlast : LastR rs pl)
    (hC : C0 { w with drawn := w.drawn + 1 })
    (h : wpSpec P .any l.toArray (fun w' => ∃ p : WIn C0, w' = wOf p) (planS pl) (relS rs) (fun a' fs' => ∀ w', C0 w' → (∀ d, fs' d w') → wpList P l.toArray Q (l.drop n) a' w') 0 (l.take n) a noFacts) : (Code.region id l.toArray true).wp P Q a w := by
  have e : (fun (a' : Act) (fs' : Facts) => ∀ w', C0 w' → (∀ d, fs' d w') → wpList P l.toArray Q (l.drop n) a' w') = (fun a' fs' => ∀ w', (∃ p : WIn C0, w' = wOf p) → (∀ d, fs' d w') → wpList P l.toArray Q (l.drop n) a' w') := by
    funext a' fs'
    exact propext ⟨fun h w' ⟨p, hp⟩ => h w' (hp ▸ p.h), fun h w' hb => h w' ⟨⟨w', hb⟩, rfl⟩⟩
  rw [e] at h
  exact wp_region_spec_tail (C := fun w' => ∃ p : WIn C0, w' = wOf p) n hm hB ⟨⟨_, hC⟩, rfl⟩ hlast.lasting (fun i hi => by cases hi) (viewed_of hvs hview) h
theorem wp_region_rel {id : Nat} {Q : Exit → Act → World → Prop} {a : Act} {w : World} {l : List Oper} (C0 : World → Prop) (rs : List (Nat × (World → World → Prop))) (pl : List (Nat × SpecE)) (vs : List (Nat × List Tmp)) (hm : P.follows .mixedOrders = true) (hB : lexAllB .any l.toArray = true) (hvs : (pl.map fun p => (p.1, p.2.1)) = vs) (hview : viewB .any l.toArray vs = true) (hlast : LastR rs pl)
    (hC : C0 { w with drawn := w.drawn + 1 })
    (h : wpSpec P .any l.toArray (fun w' => ∃ p : WIn C0, w' = wOf p) (planS pl) (relS rs) (fun a' fs' => ∀ w', C0 w' → (∀ d, fs' d w') → Q .normal a' w') 0 l a noFacts) : (Code.region id l.toArray true).wp P Q a w := by
  have e : (fun (a' : Act) (fs' : Facts) => ∀ w', C0 w' → (∀ d, fs' d w') → Q .normal a' w') = (fun a' fs' => ∀ w', (∃ p : WIn C0, w' = wOf p) → (∀ d, fs' d w') → Q .normal a' w') := by
    funext a' fs'
    exact propext ⟨fun h w' ⟨p, hp⟩ => h w' (hp ▸ p.h), fun h w' hb => h w' ⟨⟨w', hb⟩, rfl⟩⟩
  rw [e] at h
  exact wp_region_spec (C := fun w' => ∃ p : WIn C0, w' = wOf p) hm hB ⟨⟨_, hC⟩, rfl⟩ hlast.lasting (fun i hi => by cases hi) (viewed_of hvs hview) h
end

end Go.Proofs.YtfabcdpmnbeflaaDoor.Rel

/- append on a row of the call's own: the elder slice is a row of the call's own still. -/
namespace Go.Proofs.YtfabcdpmnbeflaaDoor
open Go.RowKit
set_option linter.unusedVariables false

/-- A row of which only the first elements are looked at. -/
theorem OwnX.prefix {w : World} {base e size : Nat} {g n m cap : Nat} {xs ys : List Value} (h : OwnX w base e size (.slice (some ⟨g, 0, none⟩) (n + m) cap) (n + m) (xs ++ ys)) (hx : xs.length = n * size) :
    OwnX w base e size (.slice (some ⟨g, 0, none⟩) n cap) n xs := by
  refine ⟨hx, ?_⟩
  rcases h.2 with ⟨h1, _⟩ | ⟨g', cap', cur, hv, h3, h4, h5, h6, h7, h8⟩
  · cases h1
  · cases hv
    refine .inr ⟨g, cap, cur, rfl, h3, h4, by omega, h6, h7, ?_⟩
    have e1 : cur.toList.take (n * size) = (cur.toList.take ((n + m) * size)).take (n * size) := by
      rw [List.take_take, Nat.min_eq_left (Nat.mul_le_mul_right _ (by omega))]
    rw [e1, h8, ← hx]
    exact List.take_left
section
variable {P : Program} (w : World)
theorem run_append_y (base : Nat) (t ty e : TypeId) (i : TypeInfo) (z : Value) (size bytes : Nat) (ht : P.underlying t = some (.slice e)) (hi : P.info? e = some i) (hz : i.zero = some z)
    (hsize : i.size = size) (hby : i.bytes = bytes) (hzs : z.cells.size = size) (hsz : 0 < size)
    (v : Value) (n : Nat) (xs : List Value) (hown : OwnX w base e size v n xs)
    (bo : Option Addr) (m c : Nat) (news : List Value) (hl : news.length = m * size) (hnews : CellsAt w bo news) (h1 : ∀ u ∈ news, u.oneCell' = true)
    (h63 : n + m ≤ maxLen) (hbytes : (n + m) * bytes ≤ 140737488355328) (hbase : base ≤ w.heap.size) :
    ∃ a' c' w', (Builtin.append_ #[t, t] ty #[v, .slice bo m c]).run P w = .ok (.slice a' (n + m) c') w' ∧ OwnX w' base e size (.slice a' (n + m) c') (n + m) (xs ++ news) ∧ w.grownBy w' v.ownBlock ∧
      (∀ k, (Value.slice a' (n + m) c').ownBlock = some k → v.ownBlock = some k ∨ k = w.heap.size) ∧ OwnX w' base e size v n xs := by
  obtain ⟨a', c', w', hr, h2, h3, h4⟩ := run_append_x (P := P) w base t ty e i z size bytes ht hi hz hsize hby hzs hsz v n xs hown bo m c news hl hnews h1 h63 hbytes hbase
  refine ⟨a', c', w', hr, h2, h3, h4, ?_⟩
  by_cases hm : m = 0
  · subst hm
    obtain rfl : news = [] := List.eq_nil_of_length_eq_zero (by simpa using hl)
    obtain ⟨ao, cap, hv, hn, _⟩ := hown.cells
    subst hv
    have := run_append_zero (P := P) w t ty e i ht hi ao bo n cap c hn
    rw [this] at hr
    cases hr
    exact hown
  · rcases hown.2 with ⟨rfl, rfl⟩ | ⟨g, cap, cur, rfl, k3, k4, k5, k6, k7, k8⟩
    · have hx : xs = [] := List.eq_nil_of_length_eq_zero (by have := hown.1; simpa using this)
      subst hx
      exact OwnX.nil _ _ _ _
    · rcases hnews with rfl | ⟨b0, o0, rfl, hnews⟩
      · exfalso
        have hl' : m * size = 0 := by simpa using hl.symm
        rcases Nat.mul_eq_zero.1 hl' with h | h <;> omega
      · have hnews : CellsAt w (some ⟨b0, o0, none⟩) news := .inr ⟨b0, o0, rfl, hnews⟩
        by_cases hroom : n + m ≤ cap
        · obtain ⟨w2, hr2, ho2, _⟩ := run_append_fits (P := P) w base t ty e i size ht hi hsize g n cap xs hown ⟨b0, o0, none⟩ m c news hl (cellsAt_news hnews) h1 hroom
          rw [hr2] at hr
          have e2 : w2 = w' := by cases hr; rfl
          subst e2
          exact OwnX.prefix (cap := cap) ho2 hown.1
        · have hr2 := run_append_grow (P := P) w t ty e i z ht hi hz ⟨g, 0, none⟩ n cap xs (by rw [hown.len, hsize]) (cellsAt_news hown.cellsAt) ⟨b0, o0, none⟩ m c news (by rw [hl, hsize]) (cellsAt_news hnews) (by omega) (by unfold maxLen at h63; omega) (growslice_fits (by omega) (by rw [hby]; exact hbytes))
          rw [hr2] at hr
          cases hr
          exact OwnX.alloc (w := w.drew) hown.drew _
end

end Go.Proofs.YtfabcdpmnbeflaaDoor

/- What proves that an id is in a list: plain; rows of the call's own behind other steps. -/
namespace Go.Proofs.YtfabcdpmnbeflaaDoor
set_option linter.unusedSimpArgs false
set_option linter.unusedVariables false
set_option linter.unnecessarySimpa false
open Go.RowKit Go.Sort
set_option maxRecDepth 100000

structure ProofA where
  bits : List Int
  beside : List (List Int)
  only : List Int
  empty : Bool
def proof0 : ProofA := ⟨[], [], List.replicate 32 0, false⟩
def proofE : ProofA := ⟨[], [], List.replicate 32 0, true⟩
def provP (l : List (List Int)) (id : List Int) : ProofA :=
  if l.length = 0 then proofE else if l.length = 1 then ⟨[], [], pc l 0, false⟩
  else if h : (zerosL l (splitN l)).length < l.length ∧ (onesL l (splitN l)).length < l.length then
    if bitB id (splitN l) = true then ⟨(splitN l : Int) :: (provP (onesL l (splitN l)) id).bits, rootP (zerosL l (splitN l)) :: (provP (onesL l (splitN l)) id).beside, (provP (onesL l (splitN l)) id).only, false⟩
    else ⟨(splitN l : Int) :: (provP (zerosL l (splitN l)) id).bits, rootP (onesL l (splitN l)) :: (provP (zerosL l (splitN l)) id).beside, (provP (zerosL l (splitN l)) id).only, false⟩
  else proofE
termination_by l.length
decreasing_by
  all_goals first
    | exact h.1
    | exact h.2
theorem provP_nil (id : List Int) : provP [] id = proofE := by rw [provP]; rfl
theorem provP_one (x id : List Int) : provP [x] id = ⟨[], [], x, false⟩ := by rw [provP]; rfl
theorem provP_two {l z o : List (List Int)} {N : Nat} (hF : CutF l z o N) (hs : splitN l = N) (id : List Int) : provP l id =
    (if bitB id N = true then ⟨(N : Int) :: (provP o id).bits, rootP z :: (provP o id).beside, (provP o id).only, false⟩
    else ⟨(N : Int) :: (provP z id).bits, rootP o :: (provP z id).beside, (provP z id).only, false⟩) := by
  obtain ⟨hN, cat, ez, eo, zl, ol, sum, iz, io, ap, root⟩ := hF
  rw [provP, if_neg (by omega), if_neg (by omega), hs, ez, eo, dif_pos ⟨by omega, by omega⟩]
/-- Steps in front of a proof. -/
def ProofA.behind (b : List Int) (d : List (List Int)) (r : ProofA) : ProofA := ⟨b ++ r.bits, d ++ r.beside, r.only, r.empty⟩
theorem behind_nil (r : ProofA) : r.behind [] [] = r := rfl
theorem behind_cons (b : List Int) (d : List (List Int)) (x : Int) (y : List Int) (r : ProofA) (e : Bool) (he : r.empty = e) : (⟨x :: r.bits, y :: r.beside, r.only, e⟩ : ProofA).behind b d = r.behind (b ++ [x]) (d ++ [y]) := by
  subst he
  simp [ProofA.behind]
theorem provP_empty {l : List (List Int)} (h : IncL l) (hl : 0 < l.length) (id : List Int) : (provP l id).empty = false := by
  by_cases h1 : l.length = 1
  · rw [provP, if_neg (by omega), if_pos h1]
  · rw [provP_two (h.cutF (by omega)) rfl]
    split <;> rfl
theorem CutF.splitN {l z o : List (List Int)} {N : Nat} (h : CutF l z o N) (hl : IncL l) : splitN l = N := by
  have h2 : 2 ≤ l.length := by have := h.sum; have := h.zl; have := h.ol; omega
  rw [← (hl.split h2).2.1]; exact h.ap
/-- Prove's answer. -/
structure ProveA where
  pr : ProofA
  is : Bool
  er : Int
def proveZ (l : List (List Int)) (id : List Int) : ProveA := if chkZ l ≠ 0 then ⟨proof0, false, chkZ l⟩ else if l.length = 0 then ⟨proofE, false, 0⟩ else ⟨provP l id, decide ((provP l id).only = id), 0⟩

/-- The cells of a proof. -/
def prC (ba : Option Addr) (bn bc : Nat) (da : Option Addr) (dn dc : Nat) (only : List Int) (emp : Bool) : List Value := .slice ba bn bc :: .slice da dn dc :: (idC only ++ [.bool emp])
theorem prC_len {ba da : Option Addr} {bn bc dn dc : Nat} {only : List Int} {emp : Bool} (h : IdIn only) : (prC ba bn bc da dn dc only emp).length = 35 := by unfold prC; simp [idC_len h]
theorem prC_one (ba da : Option Addr) (bn bc dn dc : Nat) (only : List Int) (emp : Bool) : ∀ u ∈ prC ba bn bc da dn dc only emp, u.oneCell' = true := by
  intro u hu
  simp only [prC, List.mem_cons, List.mem_append, List.not_mem_nil, or_false] at hu
  rcases hu with rfl | rfl | hu | rfl
  · rfl
  · rfl
  · exact idC_one _ u hu
  · rfl
theorem info35 : (Tryd.prog.info? 41).map (·.size) = some 35 := by kernel_rfl
theorem prC_info {ba da : Option Addr} {bn bc dn dc : Nat} {only : List Int} {emp : Bool} (h : IdIn only) : (Tryd.prog.info? 41).map (·.size) = some (prC ba bn bc da dn dc only emp).length := by rw [prC_len h]; exact info35
theorem prC_only {ba da : Option Addr} {bn bc dn dc : Nat} {only : List Int} {emp : Bool} : ∀ j u, (idC only)[j]? = some u → (prC ba bn bc da dn dc only emp)[2 + j]? = some u := by
  intro j u hj
  unfold prC
  rw [show 2 + j = j + 1 + 1 from by omega, List.getElem?_cons_succ, List.getElem?_cons_succ, List.getElem?_append_left (List.getElem?_eq_some_iff.1 hj).1]
  exact hj
theorem prC_empty {ba da : Option Addr} {bn bc dn dc : Nat} {only : List Int} {emp : Bool} (h : IdIn only) : (prC ba bn bc da dn dc only emp)[34]? = some (.bool emp) := by
  unfold prC
  rw [List.getElem?_cons_succ, List.getElem?_cons_succ, List.getElem?_append_right (by rw [idC_len h]; omega), idC_len h]
  rfl
/-- A proof in memory. -/
structure ProofIn (w : World) (p : ProofA) (ba : Option Addr) (bc : Nat) (da : Option Addr) (dc : Nat) : Prop where
  bits : CellsAt w ba (p.bits.map (Value.int .u8))
  beside : IdsIn w da dc p.beside
theorem ProofIn.later {w w' : World} {p : ProofA} {ba : Option Addr} {bc : Nat} {da : Option Addr} {dc : Nat} (h : ProofIn w p ba bc da dc) (hb : Below w.heap.size w w') : ProofIn w' p ba bc da dc := ⟨h.bits.later hb, h.beside.later hb⟩
def ProveR (w : World) (A : ProveA) (e : Ending) : Prop := ∃ ba bc da dc, e = .returned (.tuple #[.agg (prC ba A.pr.bits.length bc da A.pr.beside.length dc A.pr.only A.pr.empty).toArray, .bool A.is, .int .i64 A.er]) ∧ ProofIn w A.pr ba bc da dc

theorem Blk.grown {w w' : World} {K : Nat} {t : TypeId} {cs : List Value} {r : Option Nat} (h : Blk w K t cs) (hg : w.grownBy w' r) (hr : r ≠ some K) : Blk w' K t cs := (hg.block K h.lt (fun e => hr e.symm)).trans h
theorem CellsAt.grown {w w' : World} {a : Option Addr} {cs : List Value} {r : Option Nat} (h : CellsAt w a cs) (hg : w.grownBy w' r) (hr : ∀ ad, a = some ad → r ≠ some ad.block) : CellsAt w' a cs := by
  rcases h with h | ⟨b, o, ha, h⟩
  · exact .inl h
  · refine .inr ⟨b, o, ha, fun j u hj => ?_⟩
    have h1 := h j u hj
    rw [← h1]
    exact World.cell?_of_block (hg.block b (World.block_lt_of_cell? _ _ h1) (fun e => hr _ ha e.symm))
/-- A row that begins at a number or behind it. -/
def VFar (L n : Nat) (cs : List Value) : Value → World → Prop := fun v w => ∃ a c, v = .slice a n c ∧ CellsAt w a cs ∧ ∀ ad, a = some ad → L ≤ ad.block
theorem VFar.last {L n : Nat} {cs : List Value} (v : Value) (w w' : World) (h : VFar L n cs v w) (hb : Below w.heap.size w w') : VFar L n cs v w' :=
  let ⟨a, c, hv, h, hl⟩ := h
  ⟨a, c, hv, h.later hb, hl⟩
theorem VFar.grown {L n : Nat} {cs : List Value} {r : Option Nat} (hr : ∀ k, r = some k → k < L) (v : Value) (w w' : World) (h : VFar L n cs v w) (hg : w.grownBy w' r) : VFar L n cs v w' :=
  let ⟨a, c, hv, h, hl⟩ := h
  ⟨a, c, hv, h.grown hg fun ad ha e => by have := hr _ e; have := hl ad ha; omega, hl⟩
/-- A row of the call's own: in an elder block, or in one made later. -/
def VRowE (B : Nat) (e : TypeId) (size n : Nat) (cs : List Value) (r : Option Nat) (L : Nat) : Value → World → Prop := fun v w => ∃ a c, v = .slice a n c ∧ OwnX w B e size (.slice a n c) n cs ∧ ∀ k, (Value.slice a n c).ownBlock = some k → r = some k ∨ L ≤ k
theorem VRowE.last {B : Nat} {e : TypeId} {size n : Nat} {cs : List Value} {r : Option Nat} {L : Nat} (v : Value) (w w' : World) (h : VRowE B e size n cs r L v w) (hb : Below w.heap.size w w') : VRowE B e size n cs r L v w' :=
  let ⟨a, c, hv, h, hl⟩ := h
  ⟨a, c, hv, h.later hb, hl⟩
theorem VRowE.grown {B : Nat} {e : TypeId} {size n : Nat} {cs : List Value} {r q : Option Nat} {L : Nat} (hq : ∀ k, q = some k → k < L) (hne : ∀ k, q = some k → r ≠ some k) (v : Value) (w w' : World) (h : VRowE B e size n cs r L v w) (hg : w.grownBy w' q) : VRowE B e size n cs r L v w' := by
  obtain ⟨a, c, hv, h, hl⟩ := h
  refine ⟨a, c, hv, h.kept hg ?_, hl⟩
  cases hb : (Value.slice a n c).ownBlock with
  | none => exact .inl rfl
  | some k =>
    right
    intro e
    rcases hl k hb with h1 | h1
    · exact hne k e.symm h1
    · have := hq k e.symm; omega
/-- A load out of a row, in a quiet walk over any class of worlds. -/
theorem wpQuiet_load_midC {P : Program} {C : World → Prop} {ops : Array Oper} {Q : Act → Prop} {a : Act} {o : Oper} {rest : List Oper} (hw : Region.wanted o (yielded ops a.tmps) = true) (ty : TypeId) (x : Operand) (ho : o.op = .load ty x)
    (B off : Nat) (hx : a.eval x = .pointer (some ⟨B, off, none⟩)) (cs : List Value) (d : TypeDesc) (h : ∀ p : Rel.WIn C, (Rel.wOf p).rangeAt B off cs)
    (hu : P.underlying ty = some d) (hd : d.isRow = true) (hi : (P.info? ty).map (·.size) = some cs.length)
    (hK : wpQuiet P ops (fun w' => ∃ p : Rel.WIn C, w' = Rel.wOf p) Q rest (a.put o.dst (.agg cs.toArray))) : wpQuiet P ops (fun w' => ∃ p : Rel.WIn C, w' = Rel.wOf p) Q (o :: rest) a :=
  wpQuiet_step fun K hK' => by
    rw [if_pos hw]
    refine ⟨.agg cs.toArray, fun w ⟨p, hp⟩ => ?_, hK' _ hK⟩
    subst hp
    have hr := run_loadAt_mid (P := P) (Rel.wOf p) B off ty cs d (h p) hu hd hi
    unfold Oper.quietAt
    simp [execOp, ho, hx, hr, Oper.quietUpon]
theorem results_blk3 {P : Program} {fn : Func} {p q r : Tmp} {ty : TypeId} (h : fn.results = #[.cell p ty, .tmp q, .tmp r]) (tmps : Array Value) (w : World) (B : Nat) (t : TypeId) (cs : List Value) (d : TypeDesc) (u v : Value)
    (hp : tmps.getD p undef = .pointer (some ⟨B, 0, none⟩)) (hq : tmps.getD q undef = u) (hr : tmps.getD r undef = v) (hg : Blk w B t cs)
    (hu : P.underlying ty = some d) (hd : (match d with | .struct _ | .array _ _ => true | _ => false) = true) (hi : (P.info? ty).map (·.size) = some cs.length) :
    (results fn tmps).run P w = .ok (.tuple #[.agg cs.toArray, u, v]) w := by
  have hp' : tmps[p]?.getD undef = .pointer (some ⟨B, 0, none⟩) := by simpa using hp
  have hq' : tmps[q]?.getD undef = u := by simpa using hq
  have hr' : tmps[r]?.getD undef = v := by simpa using hr
  simp [results, h, hp', hq', hr', asAddr, run_loadVar_row w B t ty cs.toArray (0, 0) d hg hu hd (by simpa using hi)]

theorem OwnX.setCellsFar {w : World} {base e size n K : Nat} {v : Value} {xs : List Value} (hne : v.ownBlock ≠ some K) : ∀ (vs : List Value) (o : Nat) (w : World), OwnX w base e size v n xs → OwnX (w.setCells K o vs) base e size v n xs
  | [], _, _, h => h
  | u :: vs, o, w, h => OwnX.setCellsFar (w := w) hne vs (o + 1) _ (h.setFar (a := ⟨K, o, none⟩) hne u)
/-- The worlds of Prove's last region. -/
structure LastC (w : World) (K pb B : Nat) (P ids : List Value) (ba : Option Addr) (nb bc : Nat) (bs : List Value) (da : Option Addr) (dc : Nat) (es : List Value) (w' : World) : Prop where
  bel : Below w.heap.size w w'
  p : Blk w' pb 41 P
  d : Blk w' K 24 ids
  r : ∃ cs, Blk w' (K + 1) 41 cs ∧ cs.length = 35
  a : OwnX w' B 5 1 (.slice ba nb bc) nb bs
  b : OwnX w' B 24 32 (.slice da nb dc) nb es
theorem LastC.later {w : World} {K pb B : Nat} {P ids : List Value} {ba : Option Addr} {nb bc : Nat} {bs : List Value} {da : Option Addr} {dc : Nat} {es : List Value} {u v : World} (h : LastC w K pb B P ids ba nb bc bs da dc es u) (hb : Below u.heap.size u v) : LastC w K pb B P ids ba nb bc bs da dc es v :=
  let ⟨cs, h1, h2⟩ := h.r
  ⟨bchain h.bel hb, h.p.later hb, h.d.later hb, ⟨cs, h1.later hb, h2⟩, h.a.later hb, h.b.later hb⟩
theorem LastC.put {w : World} {K pb B : Nat} {P ids : List Value} {ba : Option Addr} {nb bc : Nat} {bs : List Value} {da : Option Addr} {dc : Nat} {es : List Value} {u : World} (h : LastC w K pb B P ids ba nb bc bs da dc es u) (hK : w.heap.size ≤ K) (hpb : K + 1 < pb) (hB : pb < B) (vs : List Value) (hl : vs.length = 35) : LastC w K pb B P ids ba nb bc bs da dc es (u.setCells (K + 1) 0 vs) ∧ Blk (u.setCells (K + 1) 0 vs) (K + 1) 41 vs := by
  obtain ⟨cs, h1, h2⟩ := h.r
  have h3 := h1.setAll (vs := vs) (by omega)
  exact ⟨⟨below_setCells (by omega) _ _ _ h.bel, h.p.setCellsFar (by omega) _ _ _, h.d.setCellsFar (by omega) _ _ _, ⟨vs, h3, hl⟩,
    OwnX.setCellsFar (w := u) (fun e => by have := (h.a.lt _ e).1; omega) _ _ _ h.a, OwnX.setCellsFar (w := u) (fun e => by have := (h.b.lt _ e).1; omega) _ _ _ h.b⟩, h3⟩

end Go.Proofs.YtfabcdpmnbeflaaDoor

/- Prove: of the program. -/
namespace Go.Proofs.YtfabcdpmnbeflaaDoor
set_option linter.unusedSimpArgs false
set_option linter.unusedVariables false
set_option linter.unnecessarySimpa false
open Go.RowKit Go.Sort
set_option maxRecDepth 100000

/-- The zero proof, as the walk lays it. -/
theorem newPr (w : World) (H : Nat) (hH : w.heap.size = H) : Blk (w.alloc (.cells (prC none 0 0 none 0 0 (List.replicate 32 0) false).toArray 41)) H 41 (prC none 0 0 none 0 0 (List.replicate 32 0) false) := Blk.newA _ _ _ _ _ hH rfl
set_option maxHeartbeats 1000000 in
theorem prove_err (l : List (List Int)) (id : List Int) (a : Option Addr) (n c : Nat) (w : World) (h : IdsIn w a c l) (hn : n = l.length) (hm : n ≤ maxLen) (hid : IdIn id) (hz : chkZ l ≠ 0) :
    Calls Tryd.prog 15 #[.slice a n c, .agg (idC id).toArray] w fun e w' =>
      ProveR w' (proveZ l id) e ∧ Below w.heap.size w w' := by
  have hck := fun W (hI : IdsIn W a c l) => check_any l a n c W hI hn hm
  rw [show proveZ l id = ⟨proof0, false, chkZ l⟩ from by unfold proveZ; rw [if_pos hz]]
  obtain ⟨er, her⟩ : ∃ er, chkZ l = er := ⟨_, rfl⟩
  rw [her] at hz
  simp only [her] at hck ⊢
  obtain ⟨ids, hids⟩ : ∃ ids, ids = idC id := ⟨_, rfl⟩
  rw [← hids]
  have hP1 : Blk ((w.alloc (.cells ids.toArray 24)).alloc (.cells (prC none 0 0 none 0 0 (List.replicate 32 0) false).toArray 41)) (w.heap.size + 1) 41 (prC none 0 0 none 0 0 (List.replicate 32 0) false) := newPr _ _ (by simp)
  have hal : Below w.heap.size w ((w.alloc (.cells ids.toArray 24)).alloc (.cells (prC none 0 0 none 0 0 (List.replicate 32 0) false).toArray 41)) := ((Below.refl _ _).alloc (Nat.le_refl _) _).alloc (by simp) _
  have hzb : (er == 0) = false := by simpa using hz
  have H_hck := Box.mk hck
  have H_h := Box.mk h
  have H_hn := Box.mk hn
  have H_her := Box.mk her
  have H_hids := Box.mk hids
  have H_hid := Box.mk hid
  have H_hal := Box.mk hal
  clear hck h hn her hids hid hal
  clear hm
  go_enter Tryd.func15, Tryd.ntmps15
  have hb0 := Below.refl w.heap.size w
  go_wp2_with fail
  refine (H_hck.out _ (H_h.out.later H_hal.out)).mono ?_
  rintro e w1 ⟨rfl, hc1⟩
  have hP2 := hP1.later hc1
  have hb1 : Below w.heap.size w w1 := bchain H_hal.out hc1
  clear hc1 hP1
  go_wp2_with (refine wpList_store_blk rfl 41 _ _ rfl (w.heap.size + 1) (by rfl) 41 _ (prC none 0 0 none 0 0 (List.replicate 32 0) false) (by rfl) hP2 (by rfl) (by rfl) (prC_one _ _ _ _ _ _ _ _) ?_; intro wz hBz hez; have Hz := Box.mk hez; clear hez)
  go_wp2_with fail
  have hbz : Below w.heap.size w wz := Hz.out ▸ below_setCells (by omega) _ _ _ hb1
  exact bodyPost_ret (results_blk3 (by rfl) _ _ (w.heap.size + 1) 41 _ _ (.bool false) (.int .i64 er) rfl rfl rfl hBz Tryd.underlying41 rfl (by rfl)) rfl ⟨⟨none, 0, none, 0, rfl, .inl rfl, .nil _ _ _⟩, hbz⟩

set_option maxHeartbeats 1000000 in
theorem prove_nil (id : List Int) (a : Option Addr) (c : Nat) (w : World) (hid : IdIn id) :
    Calls Tryd.prog 15 #[.slice a 0 c, .agg (idC id).toArray] w fun e w' =>
      ProveR w' (proveZ [] id) e ∧ Below w.heap.size w w' := by
  have hck := fun W => check_any [] a 0 c W (.nil _ _ _) rfl (by simp [maxLen])
  have hcz : chkZ [] = 0 := rfl
  rw [hcz] at hck
  rw [show proveZ [] id = ⟨proofE, false, 0⟩ from by unfold proveZ; rw [if_neg (by rw [hcz]; decide)]; rfl]
  obtain ⟨ids, hids⟩ : ∃ ids, ids = idC id := ⟨_, rfl⟩
  rw [← hids]
  have hP1 : Blk ((w.alloc (.cells ids.toArray 24)).alloc (.cells (prC none 0 0 none 0 0 (List.replicate 32 0) false).toArray 41)) (w.heap.size + 1) 41 (prC none 0 0 none 0 0 (List.replicate 32 0) false) := newPr _ _ (by simp)
  have hal : Below w.heap.size w ((w.alloc (.cells ids.toArray 24)).alloc (.cells (prC none 0 0 none 0 0 (List.replicate 32 0) false).toArray 41)) := ((Below.refl _ _).alloc (Nat.le_refl _) _).alloc (by simp) _
  have H_hck := Box.mk hck
  have H_hids := Box.mk hids
  have H_hid := Box.mk hid
  have H_hal := Box.mk hal
  clear hck hids hid hal
  go_enter Tryd.func15, Tryd.ntmps15
  have hb0 := Below.refl w.heap.size w
  go_wp2_with fail
  refine (H_hck.out _).mono ?_
  rintro e w1 ⟨rfl, hc1⟩
  have hP2 := hP1.later hc1
  have hb1 : Below w.heap.size w w1 := bchain H_hal.out hc1
  clear hc1 hP1
  go_wp2_with (refine wpList_store_blk rfl 41 _ _ rfl (w.heap.size + 1) (by rfl) 41 _ (prC none 0 0 none 0 0 (List.replicate 32 0) true) (by rfl) hP2 (by rfl) (by rfl) (prC_one _ _ _ _ _ _ _ _) ?_; intro wz hBz hez; have Hz := Box.mk hez; clear hez)
  go_wp2_with fail
  have hbz : Below w.heap.size w wz := Hz.out ▸ below_setCells (by omega) _ _ _ hb1
  exact bodyPost_ret (results_blk3 (by rfl) _ _ (w.heap.size + 1) 41 _ _ (.bool false) (.int .i64 0) rfl rfl rfl hBz Tryd.underlying41 rfl (by rfl)) rfl ⟨⟨none, 0, none, 0, rfl, .inl rfl, .nil _ _ _⟩, hbz⟩

/-- The worlds of the region in which both rows grow: what they have in common. B: the rows' blocks are not below it. -/
structure GrowC (w0 : World) (B pb db : Nat) (P : List Value) (ds : List Value) (ba : Option Addr) (nb bc : Nat) (bs : List Value) (da : Option Addr) (dc : Nat) (es : List Value) (w : World) : Prop where
  bel : Below B w0 w
  size : w0.heap.size ≤ w.heap.size
  p : Blk w pb 41 P
  d : Blk w db 24 ds
  a : OwnX w B 5 1 (.slice ba nb bc) nb bs
  b : OwnX w B 24 32 (.slice da nb dc) nb es
theorem GrowC.later {w0 : World} {B pb db : Nat} {P ds : List Value} {ba : Option Addr} {nb bc : Nat} {bs : List Value} {da : Option Addr} {dc : Nat} {es : List Value} {w w' : World} (h : GrowC w0 B pb db P ds ba nb bc bs da dc es w) (hB : B ≤ w0.heap.size) (hb : Below w.heap.size w w') : GrowC w0 B pb db P ds ba nb bc bs da dc es w' :=
  ⟨h.bel.trans (hb.mono (Nat.le_trans hB h.size)), Nat.le_trans h.size hb.size, h.p.later hb, h.d.later hb, h.a.later hb, h.b.later hb⟩
/-- What the region is told of the elder rows. -/
structure GrowF (w0 : World) (B pb db : Nat) (ba : Option Addr) (nb bc : Nat) (da : Option Addr) (dc : Nat) : Prop where
  hB : B ≤ w0.heap.size
  la : ∀ k, (Value.slice ba nb bc).ownBlock = some k → k < w0.heap.size ∧ k ≠ pb ∧ k ≠ db
  lb : ∀ k, (Value.slice da nb dc).ownBlock = some k → k < w0.heap.size ∧ k ≠ pb ∧ k ≠ db
  ne : ∀ k, (Value.slice ba nb bc).ownBlock = some k → (Value.slice da nb dc).ownBlock ≠ some k
theorem OwnX.ne_type {w : World} {B B' e1 e2 s1 s2 n m : Nat} {v u : Value} {xs ys : List Value} (ha : OwnX w B e1 s1 v n xs) (hb : OwnX w B' e2 s2 u m ys) (he : e1 ≠ e2) : ∀ k, v.ownBlock = some k → u.ownBlock ≠ some k := by
  intro k hk hk2
  rcases ha.2 with ⟨rfl, _⟩ | ⟨g, cap, cur, rfl, _, h4, _⟩
  · simp [Value.ownBlock] at hk
  · rcases hb.2 with ⟨rfl, _⟩ | ⟨g', cap', cur', rfl, _, h4', _⟩
    · simp [Value.ownBlock] at hk2
    · simp only [Value.ownBlock, Option.some.injEq] at hk hk2
      subst hk
      subst hk2
      rw [h4] at h4'
      cases h4'
      exact he rfl
theorem u8_ne_id : 5 ≠ 24 := by decide
theorem gives_build_id {o : Oper} {a : Act} {w : World} {R : Value → World → Prop} (x : Operand) (ho : o.op = .buildSlice 22 1 #[(0, x)]) (us : List Value) (hx : a.eval x = .agg us.toArray) (hl : us.length = 32)
    (h : R (.slice (some ⟨w.heap.size, 0, none⟩) 1 1) (w.alloc (.cells us.toArray 24))) : Oper.gives Tryd.prog o a w R := by
  have hr : (Instr.buildSlice 22 1 (#[(0, x)].map fun (i, x) => (i, a.eval x))).run Tryd.prog w = .ok (.slice (some ⟨w.heap.size, 0, none⟩) 1 1) (w.alloc (.cells us.toArray 24)) := by
    simp only [List.map_toArray, List.map_cons, List.map_nil, hx]
    exact run_build_id1 us hl w
  refine gives_run _ _ ?_ h
  simp only [execOp, ho, Sem.run_bind, hr, Result.andThen, Sem.run_pure]
theorem Blk.setCellsAt {B : Nat} {t : TypeId} : ∀ (vs cs : List Value) (o : Nat) (w : World), Blk w B t cs → o + vs.length ≤ cs.length → Blk (w.setCells B o vs) B t (cs.take o ++ vs ++ cs.drop (o + vs.length))
  | [], cs, o, w, h, _ => by
    have e : cs.take o ++ [] ++ cs.drop (o + ([] : List Value).length) = cs := by simp
    rw [e]; exact h
  | v :: vs, cs, o, w, h, hl => by
    simp only [List.length_cons] at hl
    have h1 := Blk.setCellsAt vs (cs.set o v) (o + 1) _ (h.set o v) (by rw [List.length_set]; omega)
    have e1 : (cs.set o v).take (o + 1) = cs.take o ++ [v] := by
      rw [List.take_succ_eq_append_getElem (by rw [List.length_set]; omega), List.take_set_of_le (Nat.le_refl _), List.getElem_set_self]
    have e2 : (cs.set o v).drop (o + 1 + vs.length) = cs.drop (o + (vs.length + 1)) := by
      rw [List.drop_set_of_lt (by omega)]
      congr 1
      omega
    rw [e1, e2] at h1
    simpa [World.setCells] using h1
section
variable {w0 : World} {B pb db : Nat} {P ds : List Value} {ba : Option Addr} {nb bc : Nat} {bs : List Value} {da : Option Addr} {dc : Nat} {es : List Value} {w w' : World}
theorem GrowC.appA (h : GrowC w0 B pb db P ds ba nb bc bs da dc es w) (hF : GrowF w0 B pb db ba nb bc da dc) (hg : w.grownBy w' (Value.slice ba nb bc).ownBlock) (ha : OwnX w' B 5 1 (.slice ba nb bc) nb bs) : GrowC w0 B pb db P ds ba nb bc bs da dc es w' :=
  ⟨below_grownX h.bel hg (Nat.le_trans hF.hB h.size) fun k hk => (h.a.lt k hk).1, Nat.le_trans h.size hg.size, h.p.grown hg fun e => (hF.la _ e).2.1 rfl, h.d.grown hg fun e => (hF.la _ e).2.2 rfl, ha,
    h.b.kept hg (by
      cases e : (Value.slice da nb dc).ownBlock with
      | none => exact .inl rfl
      | some k => exact .inr fun e2 => hF.ne k e2.symm e)⟩
theorem GrowC.appB (h : GrowC w0 B pb db P ds ba nb bc bs da dc es w) (hF : GrowF w0 B pb db ba nb bc da dc) (hg : w.grownBy w' (Value.slice da nb dc).ownBlock) (hb : OwnX w' B 24 32 (.slice da nb dc) nb es) : GrowC w0 B pb db P ds ba nb bc bs da dc es w' :=
  ⟨below_grownX h.bel hg (Nat.le_trans hF.hB h.size) fun k hk => (h.b.lt k hk).1, Nat.le_trans h.size hg.size, h.p.grown hg fun e => (hF.lb _ e).2.1 rfl, h.d.grown hg fun e => (hF.lb _ e).2.2 rfl,
    h.a.kept hg (by
      cases e : (Value.slice ba nb bc).ownBlock with
      | none => exact .inl rfl
      | some k => exact .inr fun e2 => hF.ne k e e2.symm), hb⟩
end
/-- The loop's state: what holds of the values. -/
structure LoopF (id : List Int) (A : ProofA) (n : Nat) (l' : List (List Int)) (n' nb : Nat) (bits : List Int) (bes : List (List Int)) : Prop where
  inc : IncL l'
  hn : n' = l'.length
  pos : 0 < n'
  lb : bits.length = nb
  ld : bes.length = nb
  sum : nb + n' ≤ n
  eq : A = (provP l' id).behind bits bes
  ids : ∀ x ∈ bes, IdIn x
/-- The loop's state: what holds of the memory. -/
structure LoopW (w wr : World) (B pb : Nat) (ids : List Value) (a' : Option Addr) (c' : Nat) (l' : List (List Int)) (ba : Option Addr) (nb bc : Nat) (bits : List Int) (da : Option Addr) (dc : Nat) (bes : List (List Int)) : Prop where
  bel : Below w.heap.size w wr
  size : B ≤ wr.heap.size
  l : IdsIn wr a' c' l'
  ad : ∀ x, a' = some x → x.block < w.heap.size
  p : Blk wr pb 41 (prC ba nb bc da nb dc (List.replicate 32 0) false)
  d : Blk wr w.heap.size 24 ids
  r : Blk wr (w.heap.size + 1) 41 (prC none 0 0 none 0 0 (List.replicate 32 0) false)
  a : OwnX wr B 5 1 (.slice ba nb bc) nb (bits.map (Value.int .u8))
  b : OwnX wr B 24 32 (.slice da nb dc) nb (idsC bes)
theorem LoopW.later {w wr w' : World} {B pb : Nat} {ids : List Value} {a' : Option Addr} {c' : Nat} {l' : List (List Int)} {ba : Option Addr} {nb bc : Nat} {bits : List Int} {da : Option Addr} {dc : Nat} {bes : List (List Int)} (h : LoopW w wr B pb ids a' c' l' ba nb bc bits da dc bes) (hb : Below wr.heap.size wr w') : LoopW w w' B pb ids a' c' l' ba nb bc bits da dc bes :=
  ⟨bchain h.bel hb, Nat.le_trans h.size hb.size, h.l.later hb, h.ad, h.p.later hb, h.d.later hb, h.r.later hb, h.a.later hb, h.b.later hb⟩
set_option maxHeartbeats 4000000 in
theorem prove_ok (l : List (List Int)) (id : List Int) (a : Option Addr) (n c : Nat) (w : World) (h : IdsIn w a c l) (hinc : IncL l) (hn : n = l.length) (h0 : 0 < n) (h60 : n ≤ 60) (hid : IdIn id) (hT : TabK w) :
    Calls Tryd.prog 15 #[.slice a n c, .agg (idC id).toArray] w fun e w' =>
      ProveR w' (proveZ l id) e ∧ Below w.heap.size w w' := by
  obtain ⟨i0, hif, hz0, hz1, hz2⟩ := info_parts info_u8
  obtain ⟨j0, jif, jz0, jz1, jz2⟩ := info_parts info_id32
  have hck := fun W (hI : IdsIn W a c l) => check_any l a n c W hI hn (by unfold maxLen; omega)
  have hcz := chk_of_inc hinc (by omega)
  rw [hcz] at hck
  rw [show proveZ l id = ⟨provP l id, decide ((provP l id).only = id), 0⟩ from by unfold proveZ; rw [if_neg (by rw [hcz]; decide), if_neg (by omega)]]
  obtain ⟨ids, hids⟩ : ∃ v, v = idC (id) := ⟨_, rfl⟩
  have hidsl := idC_len hid
  have hidsi := idC_info hid
  have hidso := idC_one (id)
  rw [← hids] at hidsl hidsi hidso
  have hidsr : ids.length = (List.replicate 32 (Value.int .u8 0)).length := by rw [hidsl]; rfl
  rw [← hids]
  obtain ⟨A, hA⟩ : ∃ A, provP l id = A := ⟨_, rfl⟩
  rw [hA]
  have hP1 : Blk ((w.alloc (.cells ids.toArray 24)).alloc (.cells (prC none 0 0 none 0 0 (List.replicate 32 0) false).toArray 41)) (w.heap.size + 1) 41 (prC none 0 0 none 0 0 (List.replicate 32 0) false) := newPr _ _ (by simp)
  have hD1 : Blk ((w.alloc (.cells ids.toArray 24)).alloc (.cells (prC none 0 0 none 0 0 (List.replicate 32 0) false).toArray 41)) w.heap.size 24 ids := (Blk.newA w _ _ _ ids rfl rfl).alloc _
  have hal : Below w.heap.size w ((w.alloc (.cells ids.toArray 24)).alloc (.cells (prC none 0 0 none 0 0 (List.replicate 32 0) false).toArray 41)) := ((Below.refl _ _).alloc (Nat.le_refl _) _).alloc (by simp) _
  have hn0 : ¬ (n : Int) = 0 := by omega
  have hn0b : ((n : Int) == 0) = false := by simpa using hn0
  have hnI : (n : Int) ≤ 60 := by omega
  obtain ⟨b, of, ha, hbl, _⟩ := h.row (by omega)
  have hab : ∀ ad, a = some ad → ad.block < w.heap.size := fun ad e => by rw [ha] at e; cases e; exact hbl
  have H_hif := Box.mk hif
  have H_hz0 := Box.mk hz0
  have H_hz1 := Box.mk hz1
  have H_hz2 := Box.mk hz2
  have H_jif := Box.mk jif
  have H_jz0 := Box.mk jz0
  have H_jz1 := Box.mk jz1
  have H_jz2 := Box.mk jz2
  have H_hck := Box.mk hck
  have H_hcz := Box.mk hcz
  have H_hn := Box.mk hn
  have H_hid := Box.mk hid
  have H_hal := Box.mk hal
  have H_hA := Box.mk hA
  have H_hab := Box.mk hab
  have H_ha := Box.mk ha
  have H_hidsl := Box.mk hidsl
  have H_hidsi := Box.mk hidsi
  have H_hidso := Box.mk hidso
  have H_hidsr := Box.mk hidsr
  have H_hids := Box.mk hids
  have H_hinc := Box.mk hinc
  have H_hT := Box.mk hT
  have H_h := Box.mk h
  clear hif hz0 hz1 hz2 jif jz0 jz1 jz2 hck hcz hn hid hal hA hab ha hidsl hidsi hidso hidsr hids hinc hT h
  go_enter Tryd.func15, Tryd.ntmps15
  have hb0 := Below.refl w.heap.size w
  go_wp2_with fail
  refine (H_hck.out _ (H_h.out.later H_hal.out)).mono ?_
  rintro e w1 ⟨rfl, hc1⟩
  have hR1 := hP1.later hc1
  have hD2 := hD1.later hc1
  have hb1 : Below w.heap.size w w1 := bchain H_hal.out hc1
  have z1 := hc1.size
  simp only [World.size_alloc] at z1
  clear hc1 hP1 hD1
  go_upto_region 7 with fail
  have hPp : Blk (w1.alloc (.cells (prC none 0 0 none 0 0 (List.replicate 32 0) false).toArray 41)) w1.heap.size 41 (prC none 0 0 none 0 0 (List.replicate 32 0) false) := newPr _ _ rfl
  refine wp_gen fun w2 hc2 => ?_
  have hPp2 := hPp.later hc2
  have hc1' : Below w1.heap.size w1 (w1.alloc (.cells (prC none 0 0 none 0 0 (List.replicate 32 0) false).toArray 41)) := (Below.refl _ _).alloc (Nat.le_refl _) _
  have hc12 := bchain hc1' hc2
  have hR2 := hR1.later hc12
  have hD3 := hD2.later hc12
  have hb2 := bchain hb1 hc12
  have z2 : w1.heap.size + 1 ≤ w2.heap.size := hPp2.lt
  obtain ⟨pb, hpb⟩ : ∃ pb, w1.heap.size = pb := ⟨_, rfl⟩
  have hpw : w.heap.size + 1 + 1 ≤ pb := by have := hR1.lt; omega
  rw [hpb] at z2 hPp2 ⊢
  have hLF : LoopF id A n l n 0 [] [] := ⟨H_hinc.out, H_hn.out, h0, rfl, rfl, by omega, by rw [← H_hA.out, behind_nil], fun x hx => by simp at hx⟩
  have hLW : LoopW w w2 (pb + 1) pb ids a c l none 0 0 [] none 0 [] := ⟨hb2, z2, H_h.out.later hb2, H_hab.out, hPp2, hD3, hR2, OwnX.nil _ _ _ _, OwnX.nil _ _ _ _⟩
  clear hc2 hc1' hc12 hPp hR1 hR2 hD2 hD3 hb1 z1 hPp2 hb2 hpb hb0
  go_loopw [0] (fun q wr => ∃ (a' : Option Addr) (n' c' : Nat) (l' : List (List Int)) (bits : List Int) (bes : List (List Int)) (ba : Option Addr) (nb bc : Nat) (da : Option Addr) (dc : Nat), q = .slice a' n' c' ∧ LoopF id A n l' n' nb bits bes ∧ LoopW w wr (pb + 1) pb ids a' c' l' ba nb bc bits da dc bes) (fun q _ => match q with | .slice _ k _ => k | _ => 0)
  case atStart => exact ⟨a, n, c, l, [], [], none, 0, 0, none, 0, rfl, hLF, hLW⟩
  case round =>
    clear hLF hLW z2
    obtain ⟨a', n', c', l', bits, bes, ba, nb, bc, da, dc, rfl, hF, hW⟩ := hrel
    by_cases h1 : n' = 1
    · subst h1
      obtain ⟨x, rfl⟩ : ∃ x, l' = [x] := by
        match l', hF.hn with
        | [x], _ => exact ⟨x, rfl⟩
      obtain ⟨b1, of1, rfl, hbl1, hr1⟩ := hW.l.row (by simp)
      have hx : IdIn x := hW.l.ids x (by simp)
      have hr0 := hr1 0 (by simp)
      rw [Nat.zero_mul, Nat.add_zero] at hr0
      have hr0 : wr.rangeAt b1 of1 (idC x) := hr0
      have hAe := hF.eq
      rw [provP_one] at hAe
      have heq := fun w => eq_ids x id hx.len H_hid.out.len w
      obtain ⟨us, hus⟩ : ∃ v, v = idC (x) := ⟨_, rfl⟩
      have husl := idC_len hx
      have husi := idC_info hx
      have huso := idC_one (x)
      rw [← hus] at husl husi huso
      have husr : us.length = (List.replicate 32 (Value.int .u8 0)).length := by rw [husl]; rfl
      rw [← hus] at hr0
      have heq' : ∀ w, (Op.equalIn 10000 24 (.agg us.toArray) (.agg ids.toArray)).run Tryd.prog w = .ok (decide (x = id)) w := fun w => by
        have e1 : (x == id) = decide (x = id) := by
          by_cases h : x = id
          · simp [h]
          · simp [h]
        have := heq w
        rw [e1] at this
        rw [hus, H_hids.out]
        exact this
      obtain ⟨is, his⟩ : ∃ is, decide (x = id) = is := ⟨_, rfl⟩
      simp only [his] at heq'
      have hpl : w.heap.size + 1 < pb := hpw
      have H_hus := Box.mk hus
      have H_husl := Box.mk husl
      have H_husi := Box.mk husi
      have H_huso := Box.mk huso
      have H_husr := Box.mk husr
      have H_heq := Box.mk heq
      have H_hAe := Box.mk hAe
      have H_hx := Box.mk hx
      have H_his := Box.mk his
      have H_hr1 := Box.mk hr1
      clear hus husl husi huso husr heq hAe hx his hr1
      have hWb := hW.bel
      have hx4 : wr.there pb 2 us.length := fun j hj => by
        have h1 : 2 + j < (prC ba nb bc da nb dc (List.replicate 32 0) false).length := by rw [prC_len zeroIdIn]; have := H_husl.out; omega
        exact ⟨by rw [hW.p.cell (List.getElem?_eq_getElem h1)]; rfl, hW.p.free _⟩
      go_upto_region 18 with (first | (refine wpList_load_mid rfl 24 _ rfl b1 of1 (by rfl) us _ hr0 Tryd.underlying24 rfl H_husi.out ?_) | (refine wpList_store_mid rfl 24 _ _ rfl pb 2 us.toArray (by rfl) (by rfl) (by simpa using hx4) (by simpa using H_husi.out) (all_oneCell_toArray H_huso.out) ?_))
      simp only [Act.put]
      refine wp_gen fun w11 hc11 => ?_
      have hPp : Blk (wr.setCells pb 2 us) pb 41 (prC ba nb bc da nb dc x false) := by
        have h1 := Blk.setCellsAt us _ 2 wr hW.p (by rw [prC_len zeroIdIn]; have := H_husl.out; omega)
        have h2 : (prC ba nb bc da nb dc (List.replicate 32 0) false).take 2 ++ us ++ (prC ba nb bc da nb dc (List.replicate 32 0) false).drop (2 + us.length) = prC ba nb bc da nb dc x false := by
          rw [H_husl.out, H_hus.out]
          unfold prC
          rw [show (2 : Nat) + 32 = 34 from rfl]
          simp only [List.take_succ_cons, List.take_zero, List.drop_succ_cons]
          rw [List.drop_append, List.drop_of_length_le (by rw [idC_len zeroIdIn]; omega), idC_len zeroIdIn]
          rfl
        rw [h2] at h1
        exact h1
      have hbs : Below w.heap.size w (wr.setCells pb 2 us) := below_setCells (by omega) _ _ _ hW.bel
      have hL0 : LastC w w.heap.size pb (pb + 1) (prC ba nb bc da nb dc x false) ids ba nb bc (bits.map (Value.int .u8)) da dc (idsC bes) (wr.setCells pb 2 us) := ⟨hbs, hPp, hW.d.setCellsFar (by omega) _ _ _, ⟨_, hW.r.setCellsFar (by omega) _ _ _, prC_len zeroIdIn⟩, OwnX.setCellsFar (w := wr) (fun e => by have := (hW.a.lt _ e).1; omega) _ _ _ hW.a, OwnX.setCellsFar (w := wr) (fun e => by have := (hW.b.lt _ e).1; omega) _ _ _ hW.b⟩
      have hL1 := hL0.later hc11
      obtain ⟨C, hCd⟩ : ∃ C : World → Prop, ∀ v, C v ↔ LastC w w.heap.size pb (pb + 1) (prC ba nb bc da nb dc x false) ids ba nb bc (bits.map (Value.int .u8)) da dc (idsC bes) v := ⟨_, fun _ => Iff.rfl⟩
      obtain ⟨PV, hPV⟩ : ∃ PV, PV = prC ba nb bc da nb dc x false := ⟨_, rfl⟩
      have hPVl : PV.length = 35 := by rw [hPV, prC_len H_hx.out]
      have hPVi : (Tryd.prog.info? 41).map (·.size) = some PV.length := by rw [hPVl]; exact info35
      have hPV1 : ∀ u ∈ PV, u.oneCell' = true := by rw [hPV]; exact prC_one _ _ _ _ _ _ _ _
      refine Rel.wp_region_rel C [(5, fun u v => v = u.setCells (w.heap.size + 1) 0 PV)] [(5, [], fun _ _ v => Blk v (w.heap.size + 1) 41 PV)] [(5, [])] (by kernel_rfl) (by kernel_rfl) rfl (by kernel_rfl) ⟨⟨fun _ _ _ _ h hb => h.later hb, fun h => absurd rfl h, trivial⟩, trivial⟩ ((hCd _).2 (hL1.later (Below.drew (Below.refl _ _)))) ?_
      haveI hinh : Nonempty (Rel.WIn C) := ⟨⟨w11, (hCd _).2 hL1⟩⟩
      have hpP : ∀ p : Rel.WIn C, (Rel.wOf p).rangeAt pb 0 PV := fun p => by rw [hPV]; exact ((hCd _).1 (Rel.wOf_in p)).p.rangeAt
      have hpX : ∀ p : Rel.WIn C, (Rel.wOf p).rangeAt pb 2 us := fun p j v hj => ((hCd _).1 (Rel.wOf_in p)).p.cell (prC_only j v (by rw [← H_hus.out]; exact hj))
      have hpI : ∀ p : Rel.WIn C, (Rel.wOf p).rangeAt w.heap.size 0 ids := fun p => ((hCd _).1 (Rel.wOf_in p)).d.rangeAt
      have H_hPp := Box.mk hPp
      have H_hbs := Box.mk hbs
      have H_hL0 := Box.mk hL0
      have H_hL1 := Box.mk hL1
      have H_hCd := Box.mk hCd
      have H_hPV := Box.mk hPV
      have H_hPVl := Box.mk hPVl
      have H_hPVi := Box.mk hPVi
      have H_hPV1 := Box.mk hPV1
      have H_hpP := Box.mk hpP
      have H_hpX := Box.mk hpX
      have H_hpI := Box.mk hpI
      clear hPp hbs hL0 hL1 hCd hPV hPVl hPVi hPV1 hpP hpX hpI
      clear hc11
      refine Rel.wpSpec_quiet 5 (by kernel_rfl) (by kernel_rfl) ?_
      simp only [List.take_succ_cons, List.take_zero, List.drop_succ_cons, List.drop_zero]
      repeat (first | (refine wpQuiet_load_midC (by first | rfl | (simp [Region.wanted]; done)) 41 _ rfl pb 0 (by rfl) PV _ H_hpP.out Tryd.underlying41 rfl H_hPVi.out ?_; simp only [Act.put, List.setIfInBounds_toArray, List.set_cons_succ, List.set_cons_zero]) | (refine wpQuiet_load_midC (by first | rfl | (simp [Region.wanted]; done)) 24 _ rfl pb 2 (by rfl) us _ H_hpX.out Tryd.underlying24 rfl H_husi.out ?_; simp only [Act.put, List.setIfInBounds_toArray, List.set_cons_succ, List.set_cons_zero]) | (refine wpQuiet_load_midC (by first | rfl | (simp [Region.wanted]; done)) 24 _ rfl w.heap.size 0 (by rfl) ids _ H_hpI.out Tryd.underlying24 rfl H_hidsi.out ?_; simp only [Act.put, List.setIfInBounds_toArray, List.set_cons_succ, List.set_cons_zero]) | (go_big_quiet_step (fail)))
      refine wpQuiet_nil ?_
      show Rel.wpSpec _ _ _ _ _ _ _ _ _ _ _
      refine Rel.wpSpec_atR [] (fun _ v => Blk v (w.heap.size + 1) 41 PV) (fun u v => v = u.setCells (w.heap.size + 1) 0 PV) rfl (by first | rfl | (simp [viewS, Act.eval]; done)) rfl (by first | rfl | (simp [Region.wanted]; done)) ?_ rfl ?_
      · intro wq hq hfq
        clear hfq
        have hG := (H_hCd.out _).1 hq
        obtain ⟨h1, h2⟩ := hG.put (Nat.le_refl _) hpl (by omega) PV H_hPVl.out
        obtain ⟨cs, k1, k2⟩ := hG.r
        exact gives_store_blk 41 _ _ rfl (w.heap.size + 1) (by rfl) 41 cs PV (by rfl) k1 (by rw [H_hPVl.out, k2]) H_hPVi.out H_hPV1.out fun _ => ⟨(H_hCd.out _).2 h1, rfl, h2⟩
      rintro x5 -
      simp only [Act.put, List.setIfInBounds_toArray, List.set_cons_succ, List.set_cons_zero]
      refine Rel.wpSpec_quiet 2 (by kernel_rfl) (by kernel_rfl) ?_
      simp only [List.take_succ_cons, List.take_zero, List.drop_succ_cons, List.drop_zero]
      repeat (go_big_quiet_step (fail))
      refine wpQuiet_nil ?_
      show Rel.wpSpec _ _ _ _ _ _ _ _ _ _ _
      intro w18 hq18 hfq
      have f5 := hfq 5
      simp only [upd, Nat.beq, cond] at f5
      clear hfq
      have hG := (H_hCd.out _).1 hq18
      clear hq18
      go_wp2_with fail
      refine bodyPost_ret (results_blk3 (by rfl) _ _ (w.heap.size + 1) 41 _ _ (.bool is) (.int .i64 0) rfl rfl rfl f5 Tryd.underlying41 rfl H_hPVi.out) rfl ⟨⟨ba, bc, da, dc, ?_, ?_⟩, hG.bel⟩
      · rw [H_hPV.out, ← H_his.out, H_hAe.out]
        simp [ProofA.behind, hF.lb, hF.ld]
      · rw [H_hAe.out]
        refine ⟨?_, ?_⟩
        · simp [ProofA.behind]; exact hG.a.cellsAt
        · have := hG.b.idsIn hF.ld.symm hF.ids
          simp [ProofA.behind]; exact this
    · have hC := hF.inc.cutF (by have := hF.hn; have := hF.pos; omega)
      obtain ⟨z, hz⟩ : ∃ z, zerosL l' (splitN l') = z := ⟨_, rfl⟩
      obtain ⟨o, ho⟩ : ∃ o, onesL l' (splitN l') = o := ⟨_, rfl⟩
      obtain ⟨N, hNN⟩ : ∃ N, splitN l' = N := ⟨_, rfl⟩
      rw [hz, ho, hNN] at hC
      have hpr := provP_two hC hNN id
      obtain ⟨hN, cat, ez, eo, zl, ol, sum, iz, io, ap, root⟩ := hC
      have hn' := hF.hn
      have hpos := hF.pos
      have hsum := hF.sum
      obtain ⟨k, hk⟩ : ∃ k, l'.length = k + 1 := ⟨l'.length - 1, by omega⟩
      obtain ⟨b1, of1, rfl, hbl1, hr1⟩ := hW.l.row (by omega)
      have hx : IdIn (pc l' 0) := hW.l.ids _ (pc_mem (by omega))
      have hy : IdIn (pc l' k) := hW.l.ids _ (pc_mem (by omega))
      have hr0 := hr1 0 (by omega)
      have hrk := hr1 k (by omega)
      rw [Nat.zero_mul, Nat.add_zero] at hr0
      rw [show l'.length - 1 = k from by omega] at ap
      have hap := fun W => apart_any (pc l' 0) (pc l' k) W hx hy
      rw [ap] at hap
      have hcut := fun W (hI : IdsIn W (some ⟨b1, of1, none⟩) c' l') => cut_any2 l' (some ⟨b1, of1, none⟩) n' c' N W hI hn' (by omega) hN cat
      rw [ez, eo] at hcut
      have hbit := fun W => bit_any id N W H_hid.out hN
      rw [← H_hids.out] at hbit
      have hrz := root_ok z.length z (Nat.le_refl _) (by omega) iz
      have hro := root_ok o.length o (Nat.le_refl _) (by omega) io
      unfold RootOk GivesId at hrz hro
      obtain ⟨us, hus⟩ : ∃ v, v = idC (pc l' 0) := ⟨_, rfl⟩
      have husl := idC_len hx
      have husi := idC_info hx
      have huso := idC_one (pc l' 0)
      rw [← hus] at husl husi huso
      have husr : us.length = (List.replicate 32 (Value.int .u8 0)).length := by rw [husl]; rfl
      obtain ⟨vs, hvs⟩ : ∃ v, v = idC (pc l' k) := ⟨_, rfl⟩
      have hvsl := idC_len hy
      have hvsi := idC_info hy
      have hvso := idC_one (pc l' k)
      rw [← hvs] at hvsl hvsi hvso
      have hvsr : vs.length = (List.replicate 32 (Value.int .u8 0)).length := by rw [hvsl]; rfl
      simp only [← hus, ← hvs] at hap hr0 hrk
      have hkI : (k : Int) ≤ 60 := by omega
      have hkn : (k : Int) < (n' : Int) := by omega
      have hk1 : (n' : Int) - 1 = (k : Int) := by omega
      have hn2 : (1 : Int) < (n' : Int) := by omega
      have hnN : 1 < n' := by omega
      have hNI : (N : Int) < 256 := by omega
      have hnb : nb ≤ 60 := by omega
      cases hbb : bitB id N with
      | true =>
        rw [hbb] at hpr
        simp only [hbb] at hbit
        rw [if_pos rfl] at hpr
        obtain ⟨ds, hds⟩ : ∃ v, v = idC (rootP z) := ⟨_, rfl⟩
        have hdsl := idC_len (rootP_id z)
        have hdsi := idC_info (rootP_id z)
        have hdso := idC_one (rootP z)
        rw [← hds] at hdsl hdsi hdso
        have hdsr : ds.length = (List.replicate 32 (Value.int .u8 0)).length := by rw [hdsl]; rfl
        simp only [← hds] at hrz
        have H_hus := Box.mk hus
        have H_husl := Box.mk husl
        have H_husi := Box.mk husi
        have H_huso := Box.mk huso
        have H_husr := Box.mk husr
        have H_hvs := Box.mk hvs
        have H_hvsl := Box.mk hvsl
        have H_hvsi := Box.mk hvsi
        have H_hvso := Box.mk hvso
        have H_hvsr := Box.mk hvsr
        have H_hds := Box.mk hds
        have H_hdsl := Box.mk hdsl
        have H_hdsi := Box.mk hdsi
        have H_hdso := Box.mk hdso
        have H_hdsr := Box.mk hdsr
        have H_hap := Box.mk hap
        have H_hcut := Box.mk hcut
        have H_hbit := Box.mk hbit
        have H_hrz := Box.mk hrz
        have H_hro := Box.mk hro
        have H_hx := Box.mk hx
        have H_hy := Box.mk hy
        have H_hn' := Box.mk hn'
        have H_hpos := Box.mk hpos
        have H_hsum := Box.mk hsum
        have H_hk := Box.mk hk
        have H_cat := Box.mk cat
        have H_ez := Box.mk ez
        have H_eo := Box.mk eo
        have H_zl := Box.mk zl
        have H_ol := Box.mk ol
        have H_sum := Box.mk sum
        have H_iz := Box.mk iz
        have H_io := Box.mk io
        have H_ap := Box.mk ap
        have H_root := Box.mk root
        have H_hpr := Box.mk hpr
        have H_hz := Box.mk hz
        have H_ho := Box.mk ho
        have H_hNN := Box.mk hNN
        have H_hr1 := Box.mk hr1
        have H_hbb := Box.mk hbb
        clear hus husl husi huso husr hvs hvsl hvsi hvso hvsr hds hdsl hdsi hdso hdsr hap hcut hbit hrz hro hx hy hn' hpos hsum hk cat ez eo zl ol sum iz io ap root hpr hz ho hNN hr1 hbb
        clear h1
        have hWb := hW.bel
        go_wp2_with fail
        refine wp_gen fun w11 hc11 => ?_
        have hb11 : Below w.heap.size w w11 := bchain (by repeat' (first | with_reducible exact hWb | with_reducible refine Below.drew ?_ | with_reducible refine below_drewN ?_ _ | with_reducible refine Below.alloc ?_ (by have := hWb.size; first | (simp; done) | (simp; omega) | omega) _ | with_reducible refine Below.setCell ?_ (by first | (simp; done) | (simp; omega) | omega) _)) hc11
        have hr0 := rangeAt_later hr0 hc11
        have hrk := rangeAt_later hrk hc11
        have hW := hW.later hc11
        clear hc11
        refine wp_region_on (by kernel_rfl) (by kernel_rfl) ?_
        repeat (first | ((refine wpQuiet_load_mid (by first | rfl | (simp [Region.wanted]; done)) 24 _ rfl b1 of1 (by rfl) us _ hr0 Tryd.underlying24 rfl H_husi.out ?_); simp only [Act.put, List.setIfInBounds_toArray, List.set_cons_succ, List.set_cons_zero]) | ((refine wpQuiet_load_mid (by first | rfl | (simp [Region.wanted]; done)) 24 _ rfl b1 (of1 + k * 32) (by rfl) vs _ hrk Tryd.underlying24 rfl H_hvsi.out ?_); simp only [Act.put, List.setIfInBounds_toArray, List.set_cons_succ, List.set_cons_zero]) | (go_big_quiet_step ((first | (go_at_call 34; with_reducible exact calls_on (H_hap.out _))))))
        refine wpQuiet_nil ?_
        intro w12 hc12
        have hb12 : Below w.heap.size w w12 := bchain (by repeat' (first | with_reducible exact hb11 | with_reducible refine Below.drew ?_ | with_reducible refine below_drewN ?_ _ | with_reducible refine Below.alloc ?_ (by have := hb11.size; first | (simp; done) | (simp; omega) | omega) _ | with_reducible refine Below.setCell ?_ (by first | (simp; done) | (simp; omega) | omega) _)) hc12
        have hW := hW.later hc12
        clear hc12 hr0 hrk
        go_wp2_with fail
        with_reducible refine (H_hcut.out _ hW.l).mono ?_
        rintro e w13 ⟨⟨a1, a2, c2, rfl, hZ, hO, hA1, hA2⟩, hc13⟩
        have hW := hW.later hc13
        have hb13 : Below w.heap.size w w13 := bchain (by repeat' (first | with_reducible exact hb12 | with_reducible refine Below.drew ?_ | with_reducible refine below_drewN ?_ _ | with_reducible refine Below.alloc ?_ (by have := hb12.size; first | (simp; done) | (simp; omega) | omega) _ | with_reducible refine Below.setCell ?_ (by first | (simp; done) | (simp; omega) | omega) _)) hc13
        clear hc13
        go_wp2_with (refine wpList_load_blk rfl 24 _ rfl w.heap.size (by rfl) 24 ids _ hW.d Tryd.underlying24 rfl H_hidsi.out ?_)
        with_reducible refine (H_hbit.out _).mono ?_
        rintro e w14 ⟨rfl, hc14⟩
        have hW := hW.later hc14
        have hZ := hZ.later hc14
        have hO := hO.later hc14
        have hb14 : Below w.heap.size w w14 := bchain (by repeat' (first | with_reducible exact hb13 | with_reducible refine Below.drew ?_ | with_reducible refine below_drewN ?_ _ | with_reducible refine Below.alloc ?_ (by have := hb13.size; first | (simp; done) | (simp; omega) | omega) _ | with_reducible refine Below.setCell ?_ (by first | (simp; done) | (simp; omega) | omega) _)) hc14
        clear hc14
        go_wp2_with fail
        with_reducible refine (H_hrz.out _ _ _ hZ (H_hT.out.later hb14)).mono ?_
        rintro e w15 ⟨rfl, hc15⟩
        have hW := hW.later hc15
        have hO := hO.later hc15
        have hb15 : Below w.heap.size w w15 := bchain (by repeat' (first | with_reducible exact hb14 | with_reducible refine Below.drew ?_ | with_reducible refine below_drewN ?_ _ | with_reducible refine Below.alloc ?_ (by have := hb14.size; first | (simp; done) | (simp; omega) | omega) _ | with_reducible refine Below.setCell ?_ (by first | (simp; done) | (simp; omega) | omega) _)) hc15
        clear hc15 hZ
        have hN15 := Blk.newA w15 w15.heap.size _ 24 (List.replicate 32 (Value.int .u8 0)) rfl rfl
        go_upto_region 13 with (refine wpList_store_blk rfl 24 _ _ rfl w15.heap.size (by rfl) 24 _ ds (by rfl) hN15 H_hdsr.out H_hdsi.out H_hdso.out ?_; intro w16 hX16 he16; have H16 := Box.mk he16; clear he16)
        have hc16 : Below w15.heap.size w15 w16 := H16.out ▸ below_setCells (Nat.le_refl _) _ _ _ ((Below.refl _ _).alloc (Nat.le_refl _) _)
        have hlt := hW.a.lt
        have hltb := hW.b.lt
        have hlp := hW.p.lt
        have hW := hW.later hc16
        have hO := hO.later hc16
        have hb16 : Below w.heap.size w w16 := bchain (by repeat' (first | with_reducible exact hb15 | with_reducible refine Below.drew ?_ | with_reducible refine below_drewN ?_ _ | with_reducible refine Below.alloc ?_ (by have := hb15.size; first | (simp; done) | (simp; omega) | omega) _ | with_reducible refine Below.setCell ?_ (by first | (simp; done) | (simp; omega) | omega) _)) hc16
        clear hc16 hN15 H16
        go_wp2_with fail
        refine wp_gen fun w17 hc17 => ?_
        have hW := hW.later hc17
        have hO := hO.later hc17
        have hX17 := hX16.later hc17
        have hb17 : Below w.heap.size w w17 := bchain (by repeat' (first | with_reducible exact hb16 | with_reducible refine Below.drew ?_ | with_reducible refine below_drewN ?_ _ | with_reducible refine Below.alloc ?_ (by have := hb16.size; first | (simp; done) | (simp; omega) | omega) _ | with_reducible refine Below.setCell ?_ (by first | (simp; done) | (simp; omega) | omega) _)) hc17
        obtain ⟨db, hdb⟩ : ∃ db, w15.heap.size = db := ⟨_, rfl⟩
        rw [hdb] at hX17 hlt hltb hlp ⊢
        have hGF : GrowF w17 (pb + 1) pb db ba nb bc da dc := ⟨hW.size, fun k hk => by have := hlt k hk; have := (hW.a.lt k hk).2; omega, fun k hk => by have := hltb k hk; have := (hW.b.lt k hk).2; omega, hW.a.ne_type hW.b u8_ne_id⟩
        obtain ⟨C, hCd⟩ : ∃ C : World → Prop, ∀ v, C v ↔ GrowC w17 (pb + 1) pb db (prC ba nb bc da nb dc (List.replicate 32 0) false) ds ba nb bc (bits.map (Value.int .u8)) da dc (idsC bes) v := ⟨_, fun _ => Iff.rfl⟩
        have hC0 : GrowC w17 (pb + 1) pb db (prC ba nb bc da nb dc (List.replicate 32 0) false) ds ba nb bc (bits.map (Value.int .u8)) da dc (idsC bes) w17 := ⟨Below.refl _ _, Nat.le_refl _, hW.p, hX17, hW.a, hW.b⟩
        refine Rel.wp_region_rel_tail C [(5, fun u v => u.grownBy v (Value.slice ba nb bc).ownBlock), (10, fun u v => u.grownBy v (Value.slice da nb dc).ownBlock)]
          [(4, [], fun _ => VFar w17.heap.size 1 [.int .u8 N]), (5, [], fun _ => VRowE (pb + 1) 5 1 (nb + 1) (bits.map (Value.int .u8) ++ [.int .u8 N]) (Value.slice ba nb bc).ownBlock w17.heap.size), (9, [], fun _ => VFar w17.heap.size 1 ds), (10, [], fun _ => VRowE (pb + 1) 24 32 (nb + 1) (idsC bes ++ ds) (Value.slice da nb dc).ownBlock w17.heap.size)]
          [(4, []), (5, []), (9, []), (10, [])] 12 (by kernel_rfl) (by kernel_rfl) rfl (by kernel_rfl) ⟨⟨fun _ => VFar.last, ⟨fun _ _ => VFar.grown fun k h => (hGF.la k h).1, fun _ _ => VFar.grown fun k h => (hGF.lb k h).1, trivial⟩⟩, ⟨fun _ => VRowE.last, ⟨fun h => absurd rfl h, fun _ _ => VRowE.grown (fun k h => (hGF.lb k h).1) (fun k h e => hGF.ne k e h), trivial⟩⟩, ⟨fun _ => VFar.last, ⟨fun _ _ => VFar.grown fun k h => (hGF.la k h).1, fun _ _ => VFar.grown fun k h => (hGF.lb k h).1, trivial⟩⟩, ⟨fun _ => VRowE.last, ⟨fun _ _ => VRowE.grown (fun k h => (hGF.la k h).1) (fun k h e => hGF.ne k h e), fun h => absurd rfl h, trivial⟩⟩, trivial⟩ ((hCd _).2 (hC0.later hGF.hB (Below.drew (Below.refl _ _)))) ?_
        simp only [List.take_succ_cons, List.take_zero, List.drop_succ_cons, List.drop_zero]
        have hp0 : ∀ p : Rel.WIn C, (Rel.wOf p).cell? ⟨pb, 0, none⟩ = some (.slice ba nb bc) := fun p => ((hCd _).1 (Rel.wOf_in p)).p.cell rfl
        have hp1 : ∀ p : Rel.WIn C, (Rel.wOf p).cell? ⟨pb, 1, none⟩ = some (.slice da nb dc) := fun p => ((hCd _).1 (Rel.wOf_in p)).p.cell rfl
        have hpd : ∀ p : Rel.WIn C, (Rel.wOf p).rangeAt db 0 ds := fun p => ((hCd _).1 (Rel.wOf_in p)).d.rangeAt
        haveI hinh : Nonempty (Rel.WIn C) := ⟨⟨w17, (hCd _).2 hC0⟩⟩
        have H_hC0 := Box.mk hC0
        have H_hGF := Box.mk hGF
        have H_hCd := Box.mk hCd
        have H_hpd := Box.mk hpd
        clear hC0 hGF hCd hpd
        refine Rel.wpSpec_quiet 4 (by kernel_rfl) (by kernel_rfl) ?_
        simp only [List.take_succ_cons, List.take_zero, List.drop_succ_cons, List.drop_zero]
        repeat (go_big_quiet_step (fail))
        refine wpQuiet_nil ?_
        show Rel.wpSpec _ _ _ _ _ _ _ _ _ _ _
        refine Rel.wpSpec_atR [] (VFar w17.heap.size 1 [.int .u8 N]) Rel.LateR rfl (by first | rfl | (simp [viewS, Act.eval]; done)) rfl (by first | rfl | (simp [Region.wanted]; done)) ?_ rfl ?_
        · intro wq hq hfq
          clear hfq
          have hG := (H_hCd.out _).1 hq
          unfold Oper.gives
          go_simp
          exact ⟨(H_hCd.out _).2 (hG.later H_hGF.out.hB ((Below.refl _ _).alloc (Nat.le_refl _) _)), (Below.refl _ _).alloc (Nat.le_refl _) _, _, _, rfl, cellsAt_one wq _ _, fun ad e => by cases e; exact hG.size⟩
        rintro x4 ⟨_, ⟨a4, c4, rfl, _⟩⟩
        simp only [Act.put, List.setIfInBounds_toArray, List.set_cons_succ, List.set_cons_zero]
        refine Rel.wpSpec_atR [] (VRowE (pb + 1) 5 1 (nb + 1) (bits.map (Value.int .u8) ++ [.int .u8 N]) (Value.slice ba nb bc).ownBlock w17.heap.size) (fun u v => u.grownBy v (Value.slice ba nb bc).ownBlock) rfl (by first | rfl | (simp [viewS, Act.eval]; done)) rfl (by first | rfl | (simp [Region.wanted]; done)) ?_ rfl ?_
        · intro wq hq hfq
          have f4 := hfq 4 (by kernel_rfl)
          simp only [upd, Nat.beq, cond] at f4
          clear hfq
          obtain ⟨a4', c4', e4, k4, l4⟩ := f4
          cases e4
          have hG := (H_hCd.out _).1 hq
          obtain ⟨a', c', w', hr, h2, h3, h4, h5⟩ := run_append_y (P := Tryd.prog) wq (pb + 1) 39 39 5 i0 (.int .u8 0) 1 1 Tryd.underlying39 H_hif.out H_hz0.out H_hz1.out H_hz2.out rfl (by decide) (.slice ba nb bc) nb _ hG.a a4 1 c4 [.int .u8 N] rfl k4 (oneCell_int _ _) (by unfold maxLen; omega) (by omega) (Nat.le_trans H_hGF.out.hB hG.size)
          exact gives_append _ _ _ _ rfl _ _ rfl rfl ⟨_, _, hr, (H_hCd.out _).2 (hG.appA H_hGF.out h3 h5), h3, _, _, rfl, h2, fun k hk => (h4 k hk).imp (fun e => e) fun e => by rw [e]; exact hG.size⟩
        rintro x5 ⟨_, ⟨a5, c5, rfl, _⟩⟩
        simp only [Act.put, List.setIfInBounds_toArray, List.set_cons_succ, List.set_cons_zero]
        refine Rel.wpSpec_quiet 3 (by kernel_rfl) (by kernel_rfl) ?_
        simp only [List.take_succ_cons, List.take_zero, List.drop_succ_cons, List.drop_zero]
        repeat (first | (refine wpQuiet_load_midC (by first | rfl | (simp [Region.wanted]; done)) 24 _ rfl db 0 (by rfl) ds _ H_hpd.out Tryd.underlying24 rfl H_hdsi.out ?_; simp only [Act.put, List.setIfInBounds_toArray, List.set_cons_succ, List.set_cons_zero]) | (go_big_quiet_step (fail)))
        refine wpQuiet_nil ?_
        show Rel.wpSpec _ _ _ _ _ _ _ _ _ _ _
        refine Rel.wpSpec_atR [] (VFar w17.heap.size 1 ds) Rel.LateR rfl (by first | rfl | (simp [viewS, Act.eval]; done)) rfl (by first | rfl | (simp [Region.wanted]; done)) ?_ rfl ?_
        · intro wq hq hfq
          clear hfq
          have hG := (H_hCd.out _).1 hq
          refine gives_build_id _ rfl ds (by rfl) H_hdsl.out ?_
          exact ⟨(H_hCd.out _).2 (hG.later H_hGF.out.hB ((Below.refl _ _).alloc (Nat.le_refl _) _)), (Below.refl _ _).alloc (Nat.le_refl _) _, _, _, rfl, Blk.cellsRow (Blk.newA wq _ _ _ ds rfl rfl), fun ad e => by cases e; exact hG.size⟩
        rintro x9 ⟨_, ⟨a9, c9, rfl, _⟩⟩
        simp only [Act.put, List.setIfInBounds_toArray, List.set_cons_succ, List.set_cons_zero]
        refine Rel.wpSpec_atR [] (VRowE (pb + 1) 24 32 (nb + 1) (idsC bes ++ ds) (Value.slice da nb dc).ownBlock w17.heap.size) (fun u v => u.grownBy v (Value.slice da nb dc).ownBlock) rfl (by first | rfl | (simp [viewS, Act.eval]; done)) rfl (by first | rfl | (simp [Region.wanted]; done)) ?_ rfl ?_
        · intro wq hq hfq
          have f9 := hfq 9 (by kernel_rfl)
          simp only [upd, Nat.beq, cond] at f9
          clear hfq
          obtain ⟨a9', c9', e9, k9, l9⟩ := f9
          cases e9
          have hG := (H_hCd.out _).1 hq
          obtain ⟨a', c', w', hr, h2, h3, h4, h5⟩ := run_append_y (P := Tryd.prog) wq (pb + 1) 22 22 24 j0 _ 32 32 Tryd.underlying22 H_jif.out H_jz0.out H_jz1.out H_jz2.out oneCell_idz (by decide) (.slice da nb dc) nb _ hG.b a9 1 c9 ds (by rw [H_hdsl.out]) k9 H_hdso.out (by unfold maxLen; omega) (by omega) (Nat.le_trans H_hGF.out.hB hG.size)
          exact gives_append _ _ _ _ rfl _ _ rfl rfl ⟨_, _, hr, (H_hCd.out _).2 (hG.appB H_hGF.out h3 h5), h3, _, _, rfl, h2, fun k hk => (h4 k hk).imp (fun e => e) fun e => by rw [e]; exact hG.size⟩
        rintro x10 ⟨_, ⟨a10, c10, rfl, _⟩⟩
        simp only [Act.put, List.setIfInBounds_toArray, List.set_cons_succ, List.set_cons_zero]
        refine Rel.wpSpec_quiet 1 (by kernel_rfl) (by kernel_rfl) ?_
        simp only [List.take_succ_cons, List.take_zero, List.drop_succ_cons, List.drop_zero]
        repeat (go_big_quiet_step (fail))
        refine wpQuiet_nil ?_
        show Rel.wpSpec _ _ _ _ _ _ _ _ _ _ _
        intro w18 hq18 hfq
        have f5 := hfq 5
        have f10 := hfq 10
        simp only [upd, Nat.beq, cond] at f5 f10
        clear hfq hp0 hp1
        obtain ⟨a5', c5', e5, o5, l5⟩ := f5
        cases e5
        obtain ⟨a10', c10', e10, o10, l10⟩ := f10
        cases e10
        have hG := (H_hCd.out _).1 hq18
        have hGF := H_hGF.out
        have P_0 := hG.p.cell (j := 0) rfl
        have P_1 := hG.p.cell (j := 1) rfl
        have P_f0 := hG.p.free 0
        have P_f1 := hG.p.free 1
        have wp := hG.p.set 0 (.slice a5 (nb + 1) c5)
        have wp := wp.set 1 (.slice a10 (nb + 1) c10)
        have hpl : w.heap.size + 1 < pb := hpw
        have hn1 : ∀ k, (Value.slice a5 (nb + 1) c5).ownBlock = some k → k ≠ pb := fun k hk e => by
          rcases l5 k hk with h | h
          · exact (hGF.la k h).2.1 e
          · have := hW.p.lt; omega
        have hn2' : ∀ k, (Value.slice a10 (nb + 1) c10).ownBlock = some k → k ≠ pb := fun k hk e => by
          rcases l10 k hk with h | h
          · exact (hGF.lb k h).2.1 e
          · have := hW.p.lt; omega
        have hbel : Below w.heap.size w w18 := hb17.trans (hG.bel.mono (by omega))
        have hA2b : ∀ x, a2 = some x → x.block < w.heap.size := fun x hx => by
          obtain ⟨y, hy, he⟩ := hA2 x hx
          rw [he]; exact hW.ad y hy
        have hO18 : IdsIn w18 a2 c2 o := ⟨hO.cells.below hG.bel fun b' o' e => by have := hA2b _ e; simp only at this; omega, hO.ids, hO.cap⟩
        have hd18 := hW.d.below hG.bel (show w.heap.size < pb + 1 by omega)
        have hr18 := hW.r.below hG.bel (show w.heap.size + 1 < pb + 1 by omega)
        have hs18 := hG.size
        have hs17 := hW.size
        clear hG hq18 hX17
        go_wp2_with fail
        go_roundw
        case rel =>
          refine ⟨a2, o.length, c2, o, bits ++ [(N : Int)], bes ++ [rootP z], a5, nb + 1, c5, a10, c10, rfl, ?_, ?_⟩
          · refine ⟨H_io.out, rfl, H_ol.out, by rw [List.length_append, hF.lb]; rfl, by rw [List.length_append, hF.ld]; rfl, ?_, ?_, ?_⟩
            · have := H_sum.out; have := H_zl.out; have := H_hsum.out; have := H_hn'.out; omega
            · rw [hF.eq, H_hpr.out]
              exact behind_cons _ _ _ _ _ _ (provP_empty H_io.out H_ol.out _)
            · intro x hx
              rcases List.mem_append.1 hx with h | h
              · exact hF.ids x h
              · simp at h; subst h; exact rootP_id _
          · refine ⟨(hbel.setCell (by simp; omega) _).setCell (by simp; omega) _, by simp; omega, ⟨(hO18.cells.setFarG (fun ad e => by have := hA2b _ e; simp; omega) _).setFarG (fun ad e => by have := hA2b _ e; simp; omega) _, hO18.ids, hO18.cap⟩, hA2b, wp, (hd18.setFar (by simp; omega) _).setFar (by simp; omega) _, (hr18.setFar (by simp; omega) _).setFar (by simp; omega) _, ?_, ?_⟩
            · have := (o5.setFar (a := ⟨pb, 0, none⟩) (fun e => hn1 _ e rfl) (.slice a5 (nb + 1) c5)).setFar (a := ⟨pb, 1, none⟩) (fun e => hn1 _ e rfl) (.slice a10 (nb + 1) c10)
              rw [List.map_append]; exact this
            · have := (o10.setFar (a := ⟨pb, 0, none⟩) (fun e => hn2' _ e rfl) (.slice a5 (nb + 1) c5)).setFar (a := ⟨pb, 1, none⟩) (fun e => hn2' _ e rfl) (.slice a10 (nb + 1) c10)
              rw [idsC_append, idsC_single, ← H_hds.out]; exact this
        case measure => have := H_sum.out; have := H_zl.out; have := H_hn'.out; simp; omega
      | false =>
        rw [hbb] at hpr
        simp only [hbb] at hbit
        rw [if_neg (by decide)] at hpr
        obtain ⟨ds, hds⟩ : ∃ v, v = idC (rootP o) := ⟨_, rfl⟩
        have hdsl := idC_len (rootP_id o)
        have hdsi := idC_info (rootP_id o)
        have hdso := idC_one (rootP o)
        rw [← hds] at hdsl hdsi hdso
        have hdsr : ds.length = (List.replicate 32 (Value.int .u8 0)).length := by rw [hdsl]; rfl
        simp only [← hds] at hro
        have H_hus := Box.mk hus
        have H_husl := Box.mk husl
        have H_husi := Box.mk husi
        have H_huso := Box.mk huso
        have H_husr := Box.mk husr
        have H_hvs := Box.mk hvs
        have H_hvsl := Box.mk hvsl
        have H_hvsi := Box.mk hvsi
        have H_hvso := Box.mk hvso
        have H_hvsr := Box.mk hvsr
        have H_hds := Box.mk hds
        have H_hdsl := Box.mk hdsl
        have H_hdsi := Box.mk hdsi
        have H_hdso := Box.mk hdso
        have H_hdsr := Box.mk hdsr
        have H_hap := Box.mk hap
        have H_hcut := Box.mk hcut
        have H_hbit := Box.mk hbit
        have H_hrz := Box.mk hrz
        have H_hro := Box.mk hro
        have H_hx := Box.mk hx
        have H_hy := Box.mk hy
        have H_hn' := Box.mk hn'
        have H_hpos := Box.mk hpos
        have H_hsum := Box.mk hsum
        have H_hk := Box.mk hk
        have H_cat := Box.mk cat
        have H_ez := Box.mk ez
        have H_eo := Box.mk eo
        have H_zl := Box.mk zl
        have H_ol := Box.mk ol
        have H_sum := Box.mk sum
        have H_iz := Box.mk iz
        have H_io := Box.mk io
        have H_ap := Box.mk ap
        have H_root := Box.mk root
        have H_hpr := Box.mk hpr
        have H_hz := Box.mk hz
        have H_ho := Box.mk ho
        have H_hNN := Box.mk hNN
        have H_hr1 := Box.mk hr1
        have H_hbb := Box.mk hbb
        clear hus husl husi huso husr hvs hvsl hvsi hvso hvsr hds hdsl hdsi hdso hdsr hap hcut hbit hrz hro hx hy hn' hpos hsum hk cat ez eo zl ol sum iz io ap root hpr hz ho hNN hr1 hbb
        clear h1
        have hWb := hW.bel
        go_wp2_with fail
        refine wp_gen fun w11 hc11 => ?_
        have hb11 : Below w.heap.size w w11 := bchain (by repeat' (first | with_reducible exact hWb | with_reducible refine Below.drew ?_ | with_reducible refine below_drewN ?_ _ | with_reducible refine Below.alloc ?_ (by have := hWb.size; first | (simp; done) | (simp; omega) | omega) _ | with_reducible refine Below.setCell ?_ (by first | (simp; done) | (simp; omega) | omega) _)) hc11
        have hr0 := rangeAt_later hr0 hc11
        have hrk := rangeAt_later hrk hc11
        have hW := hW.later hc11
        clear hc11
        refine wp_region_on (by kernel_rfl) (by kernel_rfl) ?_
        repeat (first | ((refine wpQuiet_load_mid (by first | rfl | (simp [Region.wanted]; done)) 24 _ rfl b1 of1 (by rfl) us _ hr0 Tryd.underlying24 rfl H_husi.out ?_); simp only [Act.put, List.setIfInBounds_toArray, List.set_cons_succ, List.set_cons_zero]) | ((refine wpQuiet_load_mid (by first | rfl | (simp [Region.wanted]; done)) 24 _ rfl b1 (of1 + k * 32) (by rfl) vs _ hrk Tryd.underlying24 rfl H_hvsi.out ?_); simp only [Act.put, List.setIfInBounds_toArray, List.set_cons_succ, List.set_cons_zero]) | ((refine wpQuiet_load_mid (by first | rfl | (simp [Region.wanted]; done)) 24 _ rfl b1 of1 (by rfl) us _ hr0 Tryd.underlying24 rfl H_husi.out ?_); simp only [Act.put, List.setIfInBounds_toArray, List.set_cons_succ, List.set_cons_zero]) | ((refine wpQuiet_load_mid (by first | rfl | (simp [Region.wanted]; done)) 24 _ rfl b1 (of1 + k * 32) (by rfl) vs _ hrk Tryd.underlying24 rfl H_hvsi.out ?_); simp only [Act.put, List.setIfInBounds_toArray, List.set_cons_succ, List.set_cons_zero]) | (go_big_quiet_step ((first | (go_at_call 34; with_reducible exact calls_on (H_hap.out _))))))
        refine wpQuiet_nil ?_
        intro w12 hc12
        have hb12 : Below w.heap.size w w12 := bchain (by repeat' (first | with_reducible exact hb11 | with_reducible refine Below.drew ?_ | with_reducible refine below_drewN ?_ _ | with_reducible refine Below.alloc ?_ (by have := hb11.size; first | (simp; done) | (simp; omega) | omega) _ | with_reducible refine Below.setCell ?_ (by first | (simp; done) | (simp; omega) | omega) _)) hc12
        have hW := hW.later hc12
        clear hc12 hr0 hrk
        go_wp2_with fail
        with_reducible refine (H_hcut.out _ hW.l).mono ?_
        rintro e w13 ⟨⟨a1, a2, c2, rfl, hZ, hO, hA1, hA2⟩, hc13⟩
        have hW := hW.later hc13
        have hb13 : Below w.heap.size w w13 := bchain (by repeat' (first | with_reducible exact hb12 | with_reducible refine Below.drew ?_ | with_reducible refine below_drewN ?_ _ | with_reducible refine Below.alloc ?_ (by have := hb12.size; first | (simp; done) | (simp; omega) | omega) _ | with_reducible refine Below.setCell ?_ (by first | (simp; done) | (simp; omega) | omega) _)) hc13
        clear hc13
        go_wp2_with (refine wpList_load_blk rfl 24 _ rfl w.heap.size (by rfl) 24 ids _ hW.d Tryd.underlying24 rfl H_hidsi.out ?_)
        with_reducible refine (H_hbit.out _).mono ?_
        rintro e w14 ⟨rfl, hc14⟩
        have hW := hW.later hc14
        have hZ := hZ.later hc14
        have hO := hO.later hc14
        have hb14 : Below w.heap.size w w14 := bchain (by repeat' (first | with_reducible exact hb13 | with_reducible refine Below.drew ?_ | with_reducible refine below_drewN ?_ _ | with_reducible refine Below.alloc ?_ (by have := hb13.size; first | (simp; done) | (simp; omega) | omega) _ | with_reducible refine Below.setCell ?_ (by first | (simp; done) | (simp; omega) | omega) _)) hc14
        clear hc14
        go_wp2_with fail
        with_reducible refine (H_hro.out _ _ _ hO (H_hT.out.later hb14)).mono ?_
        rintro e w15 ⟨rfl, hc15⟩
        have hW := hW.later hc15
        have hZ := hZ.later hc15
        have hb15 : Below w.heap.size w w15 := bchain (by repeat' (first | with_reducible exact hb14 | with_reducible refine Below.drew ?_ | with_reducible refine below_drewN ?_ _ | with_reducible refine Below.alloc ?_ (by have := hb14.size; first | (simp; done) | (simp; omega) | omega) _ | with_reducible refine Below.setCell ?_ (by first | (simp; done) | (simp; omega) | omega) _)) hc15
        clear hc15 hO
        have hN15 := Blk.newA w15 w15.heap.size _ 24 (List.replicate 32 (Value.int .u8 0)) rfl rfl
        go_upto_region 13 with (refine wpList_store_blk rfl 24 _ _ rfl w15.heap.size (by rfl) 24 _ ds (by rfl) hN15 H_hdsr.out H_hdsi.out H_hdso.out ?_; intro w16 hX16 he16; have H16 := Box.mk he16; clear he16)
        have hc16 : Below w15.heap.size w15 w16 := H16.out ▸ below_setCells (Nat.le_refl _) _ _ _ ((Below.refl _ _).alloc (Nat.le_refl _) _)
        have hlt := hW.a.lt
        have hltb := hW.b.lt
        have hlp := hW.p.lt
        have hW := hW.later hc16
        have hZ := hZ.later hc16
        have hb16 : Below w.heap.size w w16 := bchain (by repeat' (first | with_reducible exact hb15 | with_reducible refine Below.drew ?_ | with_reducible refine below_drewN ?_ _ | with_reducible refine Below.alloc ?_ (by have := hb15.size; first | (simp; done) | (simp; omega) | omega) _ | with_reducible refine Below.setCell ?_ (by first | (simp; done) | (simp; omega) | omega) _)) hc16
        clear hc16 hN15 H16
        go_wp2_with fail
        refine wp_gen fun w17 hc17 => ?_
        have hW := hW.later hc17
        have hZ := hZ.later hc17
        have hX17 := hX16.later hc17
        have hb17 : Below w.heap.size w w17 := bchain (by repeat' (first | with_reducible exact hb16 | with_reducible refine Below.drew ?_ | with_reducible refine below_drewN ?_ _ | with_reducible refine Below.alloc ?_ (by have := hb16.size; first | (simp; done) | (simp; omega) | omega) _ | with_reducible refine Below.setCell ?_ (by first | (simp; done) | (simp; omega) | omega) _)) hc17
        obtain ⟨db, hdb⟩ : ∃ db, w15.heap.size = db := ⟨_, rfl⟩
        rw [hdb] at hX17 hlt hltb hlp ⊢
        have hGF : GrowF w17 (pb + 1) pb db ba nb bc da dc := ⟨hW.size, fun k hk => by have := hlt k hk; have := (hW.a.lt k hk).2; omega, fun k hk => by have := hltb k hk; have := (hW.b.lt k hk).2; omega, hW.a.ne_type hW.b u8_ne_id⟩
        obtain ⟨C, hCd⟩ : ∃ C : World → Prop, ∀ v, C v ↔ GrowC w17 (pb + 1) pb db (prC ba nb bc da nb dc (List.replicate 32 0) false) ds ba nb bc (bits.map (Value.int .u8)) da dc (idsC bes) v := ⟨_, fun _ => Iff.rfl⟩
        have hC0 : GrowC w17 (pb + 1) pb db (prC ba nb bc da nb dc (List.replicate 32 0) false) ds ba nb bc (bits.map (Value.int .u8)) da dc (idsC bes) w17 := ⟨Below.refl _ _, Nat.le_refl _, hW.p, hX17, hW.a, hW.b⟩
        refine Rel.wp_region_rel_tail C [(5, fun u v => u.grownBy v (Value.slice ba nb bc).ownBlock), (10, fun u v => u.grownBy v (Value.slice da nb dc).ownBlock)]
          [(4, [], fun _ => VFar w17.heap.size 1 [.int .u8 N]), (5, [], fun _ => VRowE (pb + 1) 5 1 (nb + 1) (bits.map (Value.int .u8) ++ [.int .u8 N]) (Value.slice ba nb bc).ownBlock w17.heap.size), (9, [], fun _ => VFar w17.heap.size 1 ds), (10, [], fun _ => VRowE (pb + 1) 24 32 (nb + 1) (idsC bes ++ ds) (Value.slice da nb dc).ownBlock w17.heap.size)]
          [(4, []), (5, []), (9, []), (10, [])] 12 (by kernel_rfl) (by kernel_rfl) rfl (by kernel_rfl) ⟨⟨fun _ => VFar.last, ⟨fun _ _ => VFar.grown fun k h => (hGF.la k h).1, fun _ _ => VFar.grown fun k h => (hGF.lb k h).1, trivial⟩⟩, ⟨fun _ => VRowE.last, ⟨fun h => absurd rfl h, fun _ _ => VRowE.grown (fun k h => (hGF.lb k h).1) (fun k h e => hGF.ne k e h), trivial⟩⟩, ⟨fun _ => VFar.last, ⟨fun _ _ => VFar.grown fun k h => (hGF.la k h).1, fun _ _ => VFar.grown fun k h => (hGF.lb k h).1, trivial⟩⟩, ⟨fun _ => VRowE.last, ⟨fun _ _ => VRowE.grown (fun k h => (hGF.la k h).1) (fun k h e => hGF.ne k h e), fun h => absurd rfl h, trivial⟩⟩, trivial⟩ ((hCd _).2 (hC0.later hGF.hB (Below.drew (Below.refl _ _)))) ?_
        simp only [List.take_succ_cons, List.take_zero, List.drop_succ_cons, List.drop_zero]
        have hp0 : ∀ p : Rel.WIn C, (Rel.wOf p).cell? ⟨pb, 0, none⟩ = some (.slice ba nb bc) := fun p => ((hCd _).1 (Rel.wOf_in p)).p.cell rfl
        have hp1 : ∀ p : Rel.WIn C, (Rel.wOf p).cell? ⟨pb, 1, none⟩ = some (.slice da nb dc) := fun p => ((hCd _).1 (Rel.wOf_in p)).p.cell rfl
        have hpd : ∀ p : Rel.WIn C, (Rel.wOf p).rangeAt db 0 ds := fun p => ((hCd _).1 (Rel.wOf_in p)).d.rangeAt
        haveI hinh : Nonempty (Rel.WIn C) := ⟨⟨w17, (hCd _).2 hC0⟩⟩
        have H_hC0 := Box.mk hC0
        have H_hGF := Box.mk hGF
        have H_hCd := Box.mk hCd
        have H_hpd := Box.mk hpd
        clear hC0 hGF hCd hpd
        refine Rel.wpSpec_quiet 4 (by kernel_rfl) (by kernel_rfl) ?_
        simp only [List.take_succ_cons, List.take_zero, List.drop_succ_cons, List.drop_zero]
        repeat (go_big_quiet_step (fail))
        refine wpQuiet_nil ?_
        show Rel.wpSpec _ _ _ _ _ _ _ _ _ _ _
        refine Rel.wpSpec_atR [] (VFar w17.heap.size 1 [.int .u8 N]) Rel.LateR rfl (by first | rfl | (simp [viewS, Act.eval]; done)) rfl (by first | rfl | (simp [Region.wanted]; done)) ?_ rfl ?_
        · intro wq hq hfq
          clear hfq
          have hG := (H_hCd.out _).1 hq
          unfold Oper.gives
          go_simp
          exact ⟨(H_hCd.out _).2 (hG.later H_hGF.out.hB ((Below.refl _ _).alloc (Nat.le_refl _) _)), (Below.refl _ _).alloc (Nat.le_refl _) _, _, _, rfl, cellsAt_one wq _ _, fun ad e => by cases e; exact hG.size⟩
        rintro x4 ⟨_, ⟨a4, c4, rfl, _⟩⟩
        simp only [Act.put, List.setIfInBounds_toArray, List.set_cons_succ, List.set_cons_zero]
        refine Rel.wpSpec_atR [] (VRowE (pb + 1) 5 1 (nb + 1) (bits.map (Value.int .u8) ++ [.int .u8 N]) (Value.slice ba nb bc).ownBlock w17.heap.size) (fun u v => u.grownBy v (Value.slice ba nb bc).ownBlock) rfl (by first | rfl | (simp [viewS, Act.eval]; done)) rfl (by first | rfl | (simp [Region.wanted]; done)) ?_ rfl ?_
        · intro wq hq hfq
          have f4 := hfq 4 (by kernel_rfl)
          simp only [upd, Nat.beq, cond] at f4
          clear hfq
          obtain ⟨a4', c4', e4, k4, l4⟩ := f4
          cases e4
          have hG := (H_hCd.out _).1 hq
          obtain ⟨a', c', w', hr, h2, h3, h4, h5⟩ := run_append_y (P := Tryd.prog) wq (pb + 1) 39 39 5 i0 (.int .u8 0) 1 1 Tryd.underlying39 H_hif.out H_hz0.out H_hz1.out H_hz2.out rfl (by decide) (.slice ba nb bc) nb _ hG.a a4 1 c4 [.int .u8 N] rfl k4 (oneCell_int _ _) (by unfold maxLen; omega) (by omega) (Nat.le_trans H_hGF.out.hB hG.size)
          exact gives_append _ _ _ _ rfl _ _ rfl rfl ⟨_, _, hr, (H_hCd.out _).2 (hG.appA H_hGF.out h3 h5), h3, _, _, rfl, h2, fun k hk => (h4 k hk).imp (fun e => e) fun e => by rw [e]; exact hG.size⟩
        rintro x5 ⟨_, ⟨a5, c5, rfl, _⟩⟩
        simp only [Act.put, List.setIfInBounds_toArray, List.set_cons_succ, List.set_cons_zero]
        refine Rel.wpSpec_quiet 3 (by kernel_rfl) (by kernel_rfl) ?_
        simp only [List.take_succ_cons, List.take_zero, List.drop_succ_cons, List.drop_zero]
        repeat (first | (refine wpQuiet_load_midC (by first | rfl | (simp [Region.wanted]; done)) 24 _ rfl db 0 (by rfl) ds _ H_hpd.out Tryd.underlying24 rfl H_hdsi.out ?_; simp only [Act.put, List.setIfInBounds_toArray, List.set_cons_succ, List.set_cons_zero]) | (go_big_quiet_step (fail)))
        refine wpQuiet_nil ?_
        show Rel.wpSpec _ _ _ _ _ _ _ _ _ _ _
        refine Rel.wpSpec_atR [] (VFar w17.heap.size 1 ds) Rel.LateR rfl (by first | rfl | (simp [viewS, Act.eval]; done)) rfl (by first | rfl | (simp [Region.wanted]; done)) ?_ rfl ?_
        · intro wq hq hfq
          clear hfq
          have hG := (H_hCd.out _).1 hq
          refine gives_build_id _ rfl ds (by rfl) H_hdsl.out ?_
          exact ⟨(H_hCd.out _).2 (hG.later H_hGF.out.hB ((Below.refl _ _).alloc (Nat.le_refl _) _)), (Below.refl _ _).alloc (Nat.le_refl _) _, _, _, rfl, Blk.cellsRow (Blk.newA wq _ _ _ ds rfl rfl), fun ad e => by cases e; exact hG.size⟩
        rintro x9 ⟨_, ⟨a9, c9, rfl, _⟩⟩
        simp only [Act.put, List.setIfInBounds_toArray, List.set_cons_succ, List.set_cons_zero]
        refine Rel.wpSpec_atR [] (VRowE (pb + 1) 24 32 (nb + 1) (idsC bes ++ ds) (Value.slice da nb dc).ownBlock w17.heap.size) (fun u v => u.grownBy v (Value.slice da nb dc).ownBlock) rfl (by first | rfl | (simp [viewS, Act.eval]; done)) rfl (by first | rfl | (simp [Region.wanted]; done)) ?_ rfl ?_
        · intro wq hq hfq
          have f9 := hfq 9 (by kernel_rfl)
          simp only [upd, Nat.beq, cond] at f9
          clear hfq
          obtain ⟨a9', c9', e9, k9, l9⟩ := f9
          cases e9
          have hG := (H_hCd.out _).1 hq
          obtain ⟨a', c', w', hr, h2, h3, h4, h5⟩ := run_append_y (P := Tryd.prog) wq (pb + 1) 22 22 24 j0 _ 32 32 Tryd.underlying22 H_jif.out H_jz0.out H_jz1.out H_jz2.out oneCell_idz (by decide) (.slice da nb dc) nb _ hG.b a9 1 c9 ds (by rw [H_hdsl.out]) k9 H_hdso.out (by unfold maxLen; omega) (by omega) (Nat.le_trans H_hGF.out.hB hG.size)
          exact gives_append _ _ _ _ rfl _ _ rfl rfl ⟨_, _, hr, (H_hCd.out _).2 (hG.appB H_hGF.out h3 h5), h3, _, _, rfl, h2, fun k hk => (h4 k hk).imp (fun e => e) fun e => by rw [e]; exact hG.size⟩
        rintro x10 ⟨_, ⟨a10, c10, rfl, _⟩⟩
        simp only [Act.put, List.setIfInBounds_toArray, List.set_cons_succ, List.set_cons_zero]
        refine Rel.wpSpec_quiet 1 (by kernel_rfl) (by kernel_rfl) ?_
        simp only [List.take_succ_cons, List.take_zero, List.drop_succ_cons, List.drop_zero]
        repeat (go_big_quiet_step (fail))
        refine wpQuiet_nil ?_
        show Rel.wpSpec _ _ _ _ _ _ _ _ _ _ _
        intro w18 hq18 hfq
        have f5 := hfq 5
        have f10 := hfq 10
        simp only [upd, Nat.beq, cond] at f5 f10
        clear hfq hp0 hp1
        obtain ⟨a5', c5', e5, o5, l5⟩ := f5
        cases e5
        obtain ⟨a10', c10', e10, o10, l10⟩ := f10
        cases e10
        have hG := (H_hCd.out _).1 hq18
        have hGF := H_hGF.out
        have P_0 := hG.p.cell (j := 0) rfl
        have P_1 := hG.p.cell (j := 1) rfl
        have P_f0 := hG.p.free 0
        have P_f1 := hG.p.free 1
        have wp := hG.p.set 0 (.slice a5 (nb + 1) c5)
        have wp := wp.set 1 (.slice a10 (nb + 1) c10)
        have hpl : w.heap.size + 1 < pb := hpw
        have hn1 : ∀ k, (Value.slice a5 (nb + 1) c5).ownBlock = some k → k ≠ pb := fun k hk e => by
          rcases l5 k hk with h | h
          · exact (hGF.la k h).2.1 e
          · have := hW.p.lt; omega
        have hn2' : ∀ k, (Value.slice a10 (nb + 1) c10).ownBlock = some k → k ≠ pb := fun k hk e => by
          rcases l10 k hk with h | h
          · exact (hGF.lb k h).2.1 e
          · have := hW.p.lt; omega
        have hbel : Below w.heap.size w w18 := hb17.trans (hG.bel.mono (by omega))
        have hA2b : ∀ x, a1 = some x → x.block < w.heap.size := fun x hx => by
          obtain ⟨y, hy, he⟩ := hA1 x hx
          rw [he]; exact hW.ad y hy
        have hO18 : IdsIn w18 a1 z.length z := ⟨hZ.cells.below hG.bel fun b' o' e => by have := hA2b _ e; simp only at this; omega, hZ.ids, hZ.cap⟩
        have hd18 := hW.d.below hG.bel (show w.heap.size < pb + 1 by omega)
        have hr18 := hW.r.below hG.bel (show w.heap.size + 1 < pb + 1 by omega)
        have hs18 := hG.size
        have hs17 := hW.size
        clear hG hq18 hX17
        go_wp2_with fail
        go_roundw
        case rel =>
          refine ⟨a1, z.length, z.length, z, bits ++ [(N : Int)], bes ++ [rootP o], a5, nb + 1, c5, a10, c10, rfl, ?_, ?_⟩
          · refine ⟨H_iz.out, rfl, H_zl.out, by rw [List.length_append, hF.lb]; rfl, by rw [List.length_append, hF.ld]; rfl, ?_, ?_, ?_⟩
            · have := H_sum.out; have := H_ol.out; have := H_hsum.out; have := H_hn'.out; omega
            · rw [hF.eq, H_hpr.out]
              exact behind_cons _ _ _ _ _ _ (provP_empty H_iz.out H_zl.out _)
            · intro x hx
              rcases List.mem_append.1 hx with h | h
              · exact hF.ids x h
              · simp at h; subst h; exact rootP_id _
          · refine ⟨(hbel.setCell (by simp; omega) _).setCell (by simp; omega) _, by simp; omega, ⟨(hO18.cells.setFarG (fun ad e => by have := hA2b _ e; simp; omega) _).setFarG (fun ad e => by have := hA2b _ e; simp; omega) _, hO18.ids, hO18.cap⟩, hA2b, wp, (hd18.setFar (by simp; omega) _).setFar (by simp; omega) _, (hr18.setFar (by simp; omega) _).setFar (by simp; omega) _, ?_, ?_⟩
            · have := (o5.setFar (a := ⟨pb, 0, none⟩) (fun e => hn1 _ e rfl) (.slice a5 (nb + 1) c5)).setFar (a := ⟨pb, 1, none⟩) (fun e => hn1 _ e rfl) (.slice a10 (nb + 1) c10)
              rw [List.map_append]; exact this
            · have := (o10.setFar (a := ⟨pb, 0, none⟩) (fun e => hn2' _ e rfl) (.slice a5 (nb + 1) c5)).setFar (a := ⟨pb, 1, none⟩) (fun e => hn2' _ e rfl) (.slice a10 (nb + 1) c10)
              rw [idsC_append, idsC_single, ← H_hds.out]; exact this
        case measure => have := H_sum.out; have := H_ol.out; have := H_hn'.out; simp; omega

end Go.Proofs.YtfabcdpmnbeflaaDoor
