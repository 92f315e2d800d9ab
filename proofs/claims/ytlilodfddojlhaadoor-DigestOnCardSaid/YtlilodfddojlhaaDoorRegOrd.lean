/- As RegRel; a specification need not stay under an operation that always comes before its own. -/
import Derived.Test.YtlilodfddojlhaaDoorRegMore
namespace Go.Proofs.YtlilodfddojlhaaDoor.Ord
open Go.RowKit Go.Sort
set_option linter.unusedVariables false

/-- Which operations may store into what others hold; what the others' steps are (another world, by this relation). -/
abbrev Drop := Nat → Bool × (World → World → Prop)
/-- Behind an operation that may store into what others hold (D): its own fact alone. -/
def updD (D : Drop) (fs : Facts) (i : Nat) (φ : World → Prop) : Facts := cond (D i).1 (upd (fun _ _ => True) i φ) (upd fs i φ)
theorem updD_no {D : Drop} {i : Nat} (h : (D i).1 = false) (fs : Facts) (φ : World → Prop) : updD D fs i φ = upd fs i φ := by simp [updD, h]
def barB (md : Region.Mode) (ops : Array Oper) (sp ds : List Nat) : Bool := ds.all fun i => sp.all fun j => j == i || (cond (Nat.blt j i) (reaches md ops j ops.size i) (reaches md ops i ops.size j))

section
variable {P : Program} {ops : Array Oper} {md : Region.Mode} {C : World → Prop} {S : Specs} {D : Drop}

/-- What is asked of an operation that has a specification. -/
def specStep (P : Program) (md : Region.Mode) (ops : Array Oper) (C : World → Prop) (D : Drop) (i : Nat) (o : Oper) (E : SpecE) (a : Act) (fs : Facts) : Prop :=
  ∀ w, C w → (∀ d, Region.waitsFor md ops i d = true → fs d w) → Oper.gives P o a w (fun v w' => C w' ∧ ((D i).1 = false → (D i).2 w w') ∧ E.2 (viewS a E.1) v w')

def rOp (P : Program) (md : Region.Mode) (ops : Array Oper) (C : World → Prop) (S : Specs) (D : Drop) (i : Nat) (K : Act → Facts → Prop) (a : Act) (fs : Facts) : Prop :=
  match ops[i]? with
  | none => K a fs
  | some o => match S i with
    | none => if Region.wanted o (yielded ops a.tmps) then plainB o = true ∧ o.quiet P a C (fun a' => K a' fs) else K (a.put o.dst undef) fs
    | some Φ => Region.wanted o (yielded ops a.tmps) = true ∧ specStep P md ops C D i o Φ a fs ∧ ∀ v, Poss C (updD D fs i (Φ.2 (viewS a Φ.1) v)) → K (a.put o.dst v) (updD D fs i (Φ.2 (viewS a Φ.1) v))

def wpAnyR (P : Program) (md : Region.Mode) (ops : Array Oper) (C : World → Prop) (S : Specs) (D : Drop) (n : Nat) (L : Array Bool → Act → Facts → Prop) : Nat → Array Bool → Act → Facts → Prop
  | 0, listed, a, fs => L listed a fs
  | f + 1, listed, a, fs =>
    Region.ready md ops listed ≠ [] ∧ ∀ i ∈ Region.ready md ops listed, i < n ∧ rOp P md ops C S D i (fun a' fs' => wpAnyR P md ops C S D n L f (listed.setIfInBounds i true) a' fs') a fs

/-- The specifications are kept by the other operations' steps. -/
def Lasting (md : Region.Mode) (ops : Array Oper) (S : Specs) (D : Drop) : Prop := ∀ i E, S i = some E → ∀ j, j ≠ i → (D j).1 = false → reaches md ops j ops.size i = false → ∀ l v w w', E.2 l v w → (D j).2 w w' → E.2 l v w'
def Kept (D : Drop) (listed : Array Bool) (fs : Facts) : Prop := ∀ d j w w', listed.getD j true = false → j ≠ d → (D j).1 = false → fs d w → (D j).2 w w' → fs d w'
theorem unset {listed : Array Bool} {i j : Nat} (h : (listed.setIfInBounds i true).getD j true = false) : listed.getD j true = false := by
  by_cases hij : i = j
  · subst hij
    exfalso
    rcases Nat.lt_or_ge i listed.size with h' | h'
    · simp [h'] at h
    · simp at h
  · rwa [getD_set_ne true hij] at h
theorem Kept.set {listed : Array Bool} {fs : Facts} (h : Kept D listed fs) (i : Nat) : Kept D (listed.setIfInBounds i true) fs := fun d j w w' hu => h d j w w' (unset hu)
theorem Kept.upd {listed : Array Bool} {fs : Facts} (h : Kept D listed fs) {i : Nat} {φ : World → Prop} (hφ : ∀ j, listed.getD j true = false → j ≠ i → (D j).1 = false → ∀ w w', φ w → (D j).2 w w' → φ w') : Kept D (listed.setIfInBounds i true) (upd fs i φ) := fun d j w w' hu hj hD hd hb => by
  by_cases hdi : d = i
  · subst hdi; rw [upd_same] at hd ⊢; exact hφ j (unset hu) hj hD w w' hd hb
  · rw [upd_ne _ _ _ hdi] at hd ⊢; exact h d j w w' (unset hu) hj hD hd hb

def Only (listed : Array Bool) (fs : Facts) : Prop := ∀ d w, listed.getD d true = false → fs d w
theorem Only.set {listed : Array Bool} {fs : Facts} (h : Only listed fs) (j : Nat) : Only (listed.setIfInBounds j true) fs := fun d w hd => by
  by_cases hjd : j = d
  · subst hjd
    exfalso
    rcases Nat.lt_or_ge j listed.size with h' | h'
    · simp [h'] at hd
    · simp at hd
  · rw [getD_set_ne true hjd] at hd; exact h d w hd
theorem Only.upd {listed : Array Bool} {fs : Facts} (h : Only listed fs) (j : Nat) (φ : World → Prop) : Only (listed.setIfInBounds j true) (updD D fs j φ) := fun d w hd => by
  have hdj : d ≠ j := by
    intro e
    subst e
    rcases Nat.lt_or_ge d listed.size with h' | h'
    · simp [h'] at hd
    · simp at hd
  have h1 : fs d w := h.set j d w hd
  cases hD : (D j).1 with
  | false => rw [updD_no hD, upd_ne _ _ _ hdj]; exact h1
  | true => simp only [updD, hD, cond]; rw [upd_ne _ _ _ hdj]; trivial
theorem Kept.updD {listed : Array Bool} {fs : Facts} (h : Kept D listed fs) {i : Nat} {φ : World → Prop} (hφ : ∀ j, listed.getD j true = false → j ≠ i → (D j).1 = false → ∀ w w', φ w → (D j).2 w w' → φ w') : Kept D (listed.setIfInBounds i true) (updD D fs i φ) := by
  cases hD : (D i).1 with
  | false => rw [updD_no hD]; exact h.upd hφ
  | true => simp only [Go.Proofs.YtlilodfddojlhaaDoor.Ord.updD, hD, cond]; exact Kept.upd (listed := listed) (fun _ _ _ _ _ _ _ _ _ => trivial) hφ
theorem facts_behind {listed : Array Bool} {fs : Facts} {i : Nat} {φ : World → Prop} {w w' : World} (hf : ∀ d, fs d w) (hk : Kept D listed fs) (hu : listed.getD i true = false) (hb : (D i).1 = false → (D i).2 w w') (hφ : φ w') : ∀ d, updD D fs i φ d w' := fun d => by
  cases hd : (D i).1 with
  | false =>
    rw [updD_no hd]
    by_cases hdi : d = i
    · subst hdi; rw [upd_same]; exact hφ
    · rw [upd_ne _ _ _ hdi]; exact hk d i _ _ hu (Ne.symm hdi) hd (hf d) (hb hd)
  | true =>
    simp only [updD, hd, cond]
    by_cases hdi : d = i
    · subst hdi; rw [upd_same]; exact hφ
    · rw [upd_ne _ _ _ hdi]; trivial
theorem poss_step {listed : Array Bool} {i : Nat} {o : Oper} {E : SpecE} {a : Act} {fs : Facts} (hp : Poss C fs) (hk : Kept D listed fs) (hu : listed.getD i true = false) (hst : specStep P md ops C D i o E a fs) : ∃ v, Poss C (updD D fs i (E.2 (viewS a E.1) v)) := by
  obtain ⟨w, hw, hf⟩ := hp
  have h := hst w hw fun d _ => hf d
  unfold Oper.gives at h
  cases hr : (execOp a.eval o).run P w with
  | halt x w' => rw [hr] at h; exact h.elim
  | ok n w' =>
    rw [hr] at h
    cases n <;> simp only at h
    case value u => exact ⟨u, w', h.1, facts_behind hf hk hu h.2.1 h.2.2⟩
    case skip => exact ⟨undef, w', h.1, facts_behind hf hk hu h.2.1 h.2.2⟩
    case enter f args =>
      obtain ⟨e, w'', fr, ⟨v, _, h1, h2, h3⟩, _⟩ := h []
      exact ⟨v, w'', h1, facts_behind hf hk hu h2 h3⟩
def Barred (md : Region.Mode) (ops : Array Oper) (S : Specs) (D : Drop) : Prop :=
  ∀ i, (D i).1 = true → ∀ j, j ≠ i → S j ≠ none → reaches md ops j ops.size i = true ∨ reaches md ops i ops.size j = true
/-- Specifications look at no slot that may be written behind their back. -/
def Viewed (md : Region.Mode) (ops : Array Oper) (S : Specs) : Prop := ∀ i E, S i = some E → ∀ (j : Nat) (oj : Oper) s, ops[j]? = some oj → oj.dst = some s → s ∈ E.1 → Region.waitsFor md ops i j = true
theorem Viewed.put {i j : Nat} {oj : Oper} {E : SpecE} {a : Act} {u : Value} (h : Viewed md ops S) (hS : S i = some E) (hj : ops[j]? = some oj) (hw : Region.waitsFor md ops i j = false) : viewS (a.put oj.dst u) E.1 = viewS a E.1 :=
  viewS_put fun s hs hm => by rw [h i E hS j oj s hj hs hm] at hw; cases hw
theorem specStep_put {i j : Nat} {oi oj : Oper} {E : SpecE} {a : Act} {u : Value} {fs : Facts} (h : Viewed md ops S) (hS : S i = some E) (hj : ops[j]? = some oj) (hw : Region.waitsFor md ops i j = false) (hsi : ∀ cs b, oi.op ≠ .select cs b) (hp : ∀ x, oj.dst = some x → x ∉ oi.looksAt ops) :
    specStep P md ops C D i oi E (a.put oj.dst u) fs ↔ specStep P md ops C D i oi E a fs := by
  unfold specStep
  rw [h.put hS hj hw]
  constructor
  · intro k w hw' hf; exact (gives_put hsi hp w).1 (k w hw' hf)
  · intro k w hw' hf; exact (gives_put hsi hp w).2 (k w hw' hf)
theorem reaches_listed {n i : Nat} {listed : Array Bool} (inv : HeadInv md ops n listed) : ∀ (f j : Nat), reaches md ops i f j = true → (j ∈ Region.ready md ops listed ∨ listed.getD j false = true) → listed.getD i false = true
  | 0, j, h, _ => by cases h
  | f + 1, j, h, hj => by
    unfold reaches at h
    cases ho : ops[j]? with
    | none => rw [ho] at h; cases h
    | some o =>
      rw [ho] at h
      simp only at h
      obtain ⟨e, he, hb⟩ := Array.any_eq_true'.1 h
      simp only [Bool.and_eq_true, Bool.or_eq_true, beq_iff_eq] at hb
      have hl : listed.getD e.on false = true := by
        rcases hj with hj | hj
        · obtain ⟨_, o', ho', hall⟩ := mem_ready.1 hj
          have : o' = o := Option.some.inj (ho'.symm.trans ho)
          subst this
          exact hall e he hb.1
        · exact inv.closed j o ho hj e he hb.1
      rcases hb.2 with h2 | h2
      · rw [← h2]; exact hl
      · exact reaches_listed inv f e.on h2 (.inr hl)
theorem not_before {n i j : Nat} {listed : Array Bool} (inv : HeadInv md ops n listed) (hi : i ∈ Region.ready md ops listed) (hj : listed.getD j true = false) : reaches md ops j ops.size i = false := by
  cases h : reaches md ops j ops.size i with
  | false => rfl
  | true =>
    have := reaches_listed inv _ _ h (.inl hi)
    rw [getD_both hj] at this; cases this
theorem no_drop {n i j : Nat} {listed : Array Bool} (hbar : Barred md ops S D) (inv : HeadInv md ops n listed) (hi : i ∈ Region.ready md ops listed) (hj : j ∈ Region.ready md ops listed) (hne : j ≠ i) (hS : S j ≠ none) : (D i).1 = false := by
  cases hd : (D i).1 with
  | false => rfl
  | true =>
    exfalso
    rcases hbar i hd j hne hS with h | h
    · have := reaches_listed inv _ _ h (.inl hi)
      rw [getD_both (mem_ready.1 hj).1] at this; cases this
    · have := reaches_listed inv _ _ h (.inl hj)
      rw [getD_both (mem_ready.1 hi).1] at this; cases this

theorem wpAnyR_first {n i : Nat} {oi : Oper} {w0 : World} {L : Array Bool → Act → Facts → Prop} (hw0 : C w0) (hbar : Barred md ops S D) (hvw : Viewed md ops S) (hlast : Lasting md ops S D) (hi : ops[i]? = some oi) (hsel : ∀ (j : Nat) (o : Oper) cs b, ops[j]? = some o → o.op ≠ .select cs b)
    (hlt : ∀ listed, HeadInv md ops n listed → listed.getD i true = false → ∀ j ∈ Region.ready md ops listed, j < n) (hin : i < n)
    (hdone : ∀ listed a fs, L listed a fs → ∀ j ∈ Region.ready md ops listed, n ≤ j) :
    ∀ (f : Nat) (listed : Array Bool) (a : Act) (fs : Facts), HeadInv md ops n listed →
      (∀ j oj, ops[j]? = some oj → j ≠ i → listed.getD j true = false → (∀ e ∈ oj.after, Region.binds md e = true → e.on ≠ i) → oi.apart ops oj = true) →
      i ∈ Region.ready md ops listed → Poss C fs → Kept D listed fs → Only listed fs →
      rOp P md ops C S D i (fun a' fs' => wpAnyR P md ops C S D n L f (listed.setIfInBounds i true) a' fs') a fs → wpAnyR P md ops C S D n L (f + 1) listed a fs := by
  intro f
  induction f with
  | zero =>
    intro listed a fs inv _ hr hps hkp hon H
    have hun := (mem_ready.1 hr).1
    refine ⟨fun h => (by rw [h] at hr; cases hr), fun j hj => ?_⟩
    have hjn := hlt listed inv hun j hj
    refine ⟨hjn, ?_⟩
    by_cases hji : j = i
    · subst hji; exact H
    · exfalso
      have key : ∃ a' fs', L (listed.setIfInBounds i true) a' fs' := by
        unfold rOp at H
        rw [hi] at H
        simp only at H
        cases hS : S i with
        | none =>
          rw [hS] at H
          simp only at H
          split at H
          · obtain ⟨_, v, _, hK⟩ := H; exact ⟨_, _, hK⟩
          · exact ⟨_, _, H⟩
        | some Φ =>
          rw [hS] at H
          simp only at H
          obtain ⟨v, hv⟩ := poss_step hps hkp hun H.2.1
          exact ⟨_, _, H.2.2 v hv⟩
      obtain ⟨a', fs', hL⟩ := key
      have := hdone _ _ _ hL j (ready_mono hj hji)
      omega
  | succ f ih =>
    intro listed a fs inv hfree hr hps hkp hon H
    have hun := (mem_ready.1 hr).1
    refine ⟨fun h => (by rw [h] at hr; cases hr), fun j hj => ?_⟩
    have hjn := hlt listed inv hun j hj
    refine ⟨hjn, ?_⟩
    by_cases hji : j = i
    · subst hji; exact H
    · obtain ⟨hjun, oj, hoj, hall⟩ := mem_ready.1 hj
      have hnot : ∀ e ∈ oj.after, Region.binds md e = true → e.on ≠ i := fun e he hb heq => by
        have h1 := hall e he hb
        rw [heq, getD_both hun] at h1
        cases h1
      have hap := hfree j oj hoj hji hjun hnot
      obtain ⟨p1, p2, p3⟩ := Oper.apart_spec hap
      have hsj : ∀ cs b, oj.op ≠ .select cs b := fun cs b => hsel j oj cs b hoj
      have hsi : ∀ cs b, oi.op ≠ .select cs b := fun cs b => hsel i oi cs b hi
      have hfree' : ∀ k ok, ops[k]? = some ok → k ≠ i → (listed.setIfInBounds j true).getD k true = false →
          (∀ e ∈ ok.after, Region.binds md e = true → e.on ≠ i) → oi.apart ops ok = true := fun k ok hk hki hun hno => by
        refine hfree k ok hk hki ?_ hno
        by_cases hjk : j = k
        · subst hjk; exact hjun
        · rw [getD_set_ne true hjk] at hun; exact hun
      have hwf : Region.waitsFor md ops j i = false := by
        cases h : Region.waitsFor md ops j i with
        | false => rfl
        | true =>
          obtain ⟨o', ho', e, he, hb, hon⟩ := Region.waitsFor_spec h
          have : o' = oj := Option.some.inj (ho'.symm.trans hoj)
          subst this
          exact absurd hon (hnot e he hb)
      have hwf2 : Region.waitsFor md ops i j = false := by
        cases h : Region.waitsFor md ops i j with
        | false => rfl
        | true =>
          obtain ⟨_, o', ho', hall'⟩ := mem_ready.1 hr
          obtain ⟨o2, ho2, e, he, hb, hon⟩ := Region.waitsFor_spec h
          have : o2 = o' := Option.some.inj (ho2.symm.trans ho')
          subst this
          have h1 := hall' e he hb
          rw [hon, getD_both hjun] at h1
          cases h1
      have hcomm : (listed.setIfInBounds i true).setIfInBounds j true = (listed.setIfInBounds j true).setIfInBounds i true := (Array.setIfInBounds_comm _ _ hji).symm
      -- what H says of j behind i
      have after : ∀ {v : Value} {fs' : Facts}, wpAnyR P md ops C S D n L (f + 1) (listed.setIfInBounds i true) (a.put oi.dst v) fs' →
          rOp P md ops C S D j (fun a' fs'' => wpAnyR P md ops C S D n L f ((listed.setIfInBounds j true).setIfInBounds i true) a' fs'') (a.put oi.dst v) fs' := fun h => by
        have := (h.2 j (ready_mono hj hji)).2
        rw [hcomm] at this
        exact this
      have wj : ∀ v, Region.wanted oj (yielded ops (a.put oi.dst v).tmps) = Region.wanted oj (yielded ops a.tmps) := fun v => wanted_put oj a oi.dst v p1
      have wi : ∀ u, Region.wanted oi (yielded ops (a.put oj.dst u).tmps) = Region.wanted oi (yielded ops a.tmps) := fun u => wanted_put oi a oj.dst u p3
      unfold rOp at H ⊢
      rw [hi] at H
      rw [hoj]
      simp only at H ⊢
      cases hSi : S i with
      | none =>
        rw [hSi] at H
        simp only at H
        -- the frame behind i
        have key : ∃ v, (Region.wanted oi (yielded ops a.tmps) = true → plainB oi = true ∧ ∀ w, C w → oi.quietAt P a C w v) ∧ (Region.wanted oi (yielded ops a.tmps) = false → v = undef) ∧ wpAnyR P md ops C S D n L (f + 1) (listed.setIfInBounds i true) (a.put oi.dst v) fs := by
          split at H
          · rename_i hw
            obtain ⟨hp, v, hv, hK⟩ := H
            exact ⟨v, fun _ => ⟨hp, hv⟩, (fun h => by rw [hw] at h; cases h), hK⟩
          · rename_i hw
            exact ⟨undef, fun h => absurd h hw, fun _ => rfl, H⟩
        obtain ⟨v, hv1, hv2, hK⟩ := key
        have mk : ∀ (u : Value) (fs' : Facts), Poss C fs' → Kept D (listed.setIfInBounds j true) fs' → Only (listed.setIfInBounds j true) fs' → wpAnyR P md ops C S D n L f ((listed.setIfInBounds j true).setIfInBounds i true) ((a.put oi.dst v).put oj.dst u) fs' →
            wpAnyR P md ops C S D n L (f + 1) (listed.setIfInBounds j true) (a.put oj.dst u) fs' := fun u fs' q1 q2 q3 h => by
          refine ih (listed.setIfInBounds j true) (a.put oj.dst u) fs' (inv.set hj hjn) hfree' (ready_mono hr (Ne.symm hji)) q1 q2 q3 ?_
          unfold rOp
          rw [hi]
          simp only [hSi]
          rw [wi u]
          rw [Act.put_comm a v u p2] at h
          split
          · rename_i hw
            exact ⟨(hv1 hw).1, v, fun w hw' => (quietAt_put hsi p3 w).2 ((hv1 hw).2 w hw'), h⟩
          · rename_i hw
            rw [hv2 (by simpa using hw)] at h
            exact h
        have h2 := after hK
        unfold rOp at h2
        rw [hoj] at h2
        simp only at h2
        cases hSj : S j with
        | none =>
          rw [hSj] at h2
          simp only at h2 ⊢
          rw [wj v] at h2
          split
          · rename_i hw
            rw [if_pos hw] at h2
            obtain ⟨hp, u, hu, hk⟩ := h2
            exact ⟨hp, u, fun w hw' => (quietAt_put hsj p1 w).1 (hu w hw'), mk u fs hps (hkp.set j) (hon.set j) hk⟩
          · rename_i hw
            rw [if_neg hw] at h2
            exact mk undef fs hps (hkp.set j) (hon.set j) h2
        | some Φ =>
          rw [hSj] at h2
          simp only at h2 ⊢
          rw [wj v] at h2
          obtain ⟨hw, hs, hk⟩ := h2
          have hvj : viewS (a.put oi.dst v) Φ.1 = viewS a Φ.1 := hvw.put hSj hi hwf
          rw [hvj] at hk
          exact ⟨hw, (specStep_put hvw hSj hi hwf hsj p1).1 hs, fun u hpu => mk u _ hpu (hkp.updD (fun j' h0 h1 h2 => hlast j Φ hSj j' h1 h2 (not_before inv hj h0) _ u)) (hon.upd j _) (hk u hpu)⟩
      | some Φi =>
        rw [hSi] at H
        simp only at H
        obtain ⟨hwi, hsti, hK⟩ := H
        obtain ⟨v0, hp0⟩ := poss_step hps hkp hun hsti
        have mk : ∀ (u : Value) (fs' : Facts), Poss C fs' → Kept D (listed.setIfInBounds j true) fs' → Only (listed.setIfInBounds j true) fs' → (∀ d, d ≠ j → fs' d = fs d) → (∀ v, Poss C (updD D fs' i (Φi.2 (viewS a Φi.1) v)) → wpAnyR P md ops C S D n L f ((listed.setIfInBounds j true).setIfInBounds i true) ((a.put oi.dst v).put oj.dst u) (updD D fs' i (Φi.2 (viewS a Φi.1) v))) →
            wpAnyR P md ops C S D n L (f + 1) (listed.setIfInBounds j true) (a.put oj.dst u) fs' := fun u fs' q1 q2 q3 hfs h => by
          refine ih (listed.setIfInBounds j true) (a.put oj.dst u) fs' (inv.set hj hjn) hfree' (ready_mono hr (Ne.symm hji)) q1 q2 q3 ?_
          unfold rOp
          rw [hi]
          simp only [hSi]
          rw [wi u]
          have hvi : viewS (a.put oj.dst u) Φi.1 = viewS a Φi.1 := hvw.put hSi hoj hwf2
          rw [hvi]
          refine ⟨hwi, fun w hw' hf => ?_, fun v hpv => ?_⟩
          · rw [hvi]
            refine (gives_put hsi p3 w).2 (hsti w hw' fun d hd => ?_)
            have hdj : d ≠ j := fun e => by rw [e, hwf2] at hd; cases hd
            rw [← hfs d hdj]; exact hf d hd
          · have := h v hpv
            rw [Act.put_comm a v u p2] at this
            exact this
        have h2 : ∀ v, Poss C (updD D fs i (Φi.2 (viewS a Φi.1) v)) → rOp P md ops C S D j (fun a' fs'' => wpAnyR P md ops C S D n L f ((listed.setIfInBounds j true).setIfInBounds i true) a' fs'') (a.put oi.dst v) (updD D fs i (Φi.2 (viewS a Φi.1) v)) := fun v hv => after (hK v hv)
        unfold rOp at h2
        simp only [hoj] at h2
        cases hSj : S j with
        | none =>
          simp only [hSj, wj] at h2 ⊢
          split
          · rename_i hw
            simp only [hw, if_true] at h2
            obtain ⟨hp, u, hu, _⟩ := h2 v0 hp0
            refine ⟨hp, u, fun w hw' => (quietAt_put hsj p1 w).1 (hu w hw'), mk u fs hps (hkp.set j) (hon.set j) (fun _ _ => rfl) fun v hpv => ?_⟩
            obtain ⟨_, u', hu', hk'⟩ := h2 v hpv
            have : u' = u := quiet_unique hw0 hp (fun w hw' => (quietAt_put hsj p1 w).1 (hu' w hw')) (fun w hw' => (quietAt_put hsj p1 w).1 (hu w hw'))
            rw [this] at hk'
            exact hk'
          · rename_i hw
            simp only [hw] at h2
            exact mk undef fs hps (hkp.set j) (hon.set j) (fun _ _ => rfl) fun v hpv => h2 v hpv
        | some Φ =>
          have hDi : (D i).1 = false := no_drop hbar inv hr hj hji (by rw [hSj]; simp)
          have hDj : (D j).1 = false := no_drop hbar inv hj hr (Ne.symm hji) (by rw [hSi]; simp)
          have hvj : ∀ v, viewS (a.put oi.dst v) Φ.1 = viewS a Φ.1 := fun v => hvw.put hSj hi hwf
          simp only [hSj, wj, updD_no hDi, updD_no hDj, hvj] at h2 ⊢
          rw [updD_no hDi] at hp0
          have hpost : ∀ u, Poss C (upd fs j (Φ.2 (viewS a Φ.1) u)) → Kept D (listed.setIfInBounds j true) (upd fs j (Φ.2 (viewS a Φ.1) u)) ∧ Only (listed.setIfInBounds j true) (upd fs j (Φ.2 (viewS a Φ.1) u)) := fun u _ => ⟨hkp.upd (fun j' h0 h1 h2 => hlast j Φ hSj j' h1 h2 (not_before inv hj h0) _ u), by have := hon.upd (D := D) j (Φ.2 (viewS a Φ.1) u); rwa [updD_no hDj] at this⟩
          refine ⟨(h2 v0 hp0).1, fun w hw' hf => ?_, fun u hpu => mk u _ hpu (hpost u hpu).1 (hpost u hpu).2 (fun d hd => by funext w; exact upd_ne fs _ w hd) fun v hpv => ?_⟩
          · have h3 := (h2 v0 hp0).2.1 w hw' fun d hd => by
              have hdi : d ≠ i := fun e => by rw [e, hwf] at hd; cases hd
              rw [upd_ne _ _ _ hdi]; exact hf d hd
            rw [hvj] at h3
            exact (gives_put hsj p1 w).1 h3
          · rw [updD_no hDi] at hpv
            rw [← upd_comm fs _ _ hji] at hpv
            have hp1 : Poss C (upd fs i (Φi.2 (viewS a Φi.1) v)) := by
              obtain ⟨w, hw, hf⟩ := hpv
              refine ⟨w, hw, fun d => ?_⟩
              by_cases hdj : d = j
              · subst hdj
                rw [upd_ne _ _ _ hji]
                exact hon d w hjun
              · have := hf d
                rwa [upd_ne _ _ _ hdj] at this
            have := (h2 v hp1).2.2 u hpv
            rw [upd_comm fs _ _ hji] at this
            rw [updD_no hDi]
            exact this

/-- The walk in the text's order. -/
def wpSpec (P : Program) (md : Region.Mode) (ops : Array Oper) (C : World → Prop) (S : Specs) (D : Drop) (Q : Act → Facts → Prop) : Nat → List Oper → Act → Facts → Prop
  | _, [], a, fs => Q a fs
  | k, o :: rest, a, fs => match S k with
    | none => if Region.wanted o (yielded ops a.tmps) then plainB o = true ∧ o.quiet P a C (fun a' => wpSpec P md ops C S D Q (k + 1) rest a' fs) else wpSpec P md ops C S D Q (k + 1) rest (a.put o.dst undef) fs
    | some Φ => Region.wanted o (yielded ops a.tmps) = true ∧ specStep P md ops C D k o Φ a fs ∧ ∀ v, Poss C (updD D fs k (Φ.2 (viewS a Φ.1) v)) → wpSpec P md ops C S D Q (k + 1) rest (a.put o.dst v) (updD D fs k (Φ.2 (viewS a Φ.1) v))

theorem wpAnyR_lex {n g : Nat} {Q : Act → Facts → Prop} {w0 : World} (hw0 : C w0) (hbar : Barred md ops S D) (hvw : Viewed md ops S) (hlast : Lasting md ops S D) (hsel : Region.noSelect ops = true)
    (hlt : ∀ i, i < n → ∀ listed, HeadInv md ops n listed → listed.getD i true = false → ∀ j ∈ Region.ready md ops listed, j < n) :
    ∀ (l : List Oper) (k : Nat) (listed : Array Bool) (a : Act) (fs : Facts), (∀ j, j < l.length → l[j]? = ops[k + j]?) → k + l.length = n → HeadInv md ops n listed → Poss C fs → Kept D listed fs → Only listed fs →
    Region.lexHead md ops g l.length k listed = true → wpSpec P md ops C S D Q k l a fs →
    wpAnyR P md ops C S D n (fun listed' a' fs' => Region.seqB md ops g n listed' = true ∧ Q a' fs') l.length listed a fs
  | [], k, listed, a, fs, _, hk, _, _, _, _, hB, h => by
    have : k = n := by simpa using hk
    subst this
    exact ⟨by simpa [Region.lexHead] using hB, h⟩
  | o :: l, k, listed, a, fs, hl, hk, inv, hps, hkp, hon, hB, h => by
    have h0 : ops[k]? = some o := by simpa using (hl 0 (by simp)).symm
    simp only [List.length_cons, Region.lexHead, Bool.and_eq_true] at hB
    obtain ⟨⟨hr, hf⟩, hB'⟩ := hB
    have hkn : k < n := by simp only [List.length_cons] at hk; omega
    have hr' : k ∈ Region.ready md ops listed := by simpa using hr
    have again := fun a' fs' q1 q2 q3 => wpAnyR_lex (g := g) (Q := Q) hw0 hbar hvw hlast hsel hlt l (k + 1) (listed.setIfInBounds k true) a' fs' (fun j hj => by have := hl (j + 1) (by simp; omega); simpa [Nat.add_assoc, Nat.add_comm 1 j] using this) (by simp only [List.length_cons] at hk; omega) (inv.set hr' hkn) q1 q2 q3 hB'
    refine wpAnyR_first hw0 hbar hvw hlast h0 (Region.noSelect_spec hsel) (hlt k hkn) hkn (fun listed' a' fs' hL => seqB_ready hL.1) l.length listed a fs inv (Region.free_spec h0 hf) hr' hps hkp hon ?_
    unfold rOp
    rw [h0]
    unfold wpSpec at h
    simp only
    cases hS : S k with
    | none =>
      rw [hS] at h
      simp only at h ⊢
      split
      · rename_i hw
        rw [if_pos hw] at h
        exact ⟨h.1, Oper.quiet_mono (fun a' h' => again a' fs hps (hkp.set k) (hon.set k) h') h.2⟩
      · rename_i hw
        rw [if_neg hw] at h
        exact again _ _ hps (hkp.set k) (hon.set k) h
    | some Φ =>
      rw [hS] at h
      simp only at h ⊢
      exact ⟨h.1, h.2.1, fun v hv => again _ _ hv (hkp.updD (fun j' h0 h1 h2 => hlast k Φ hS j' h1 h2 (not_before inv hr' h0) _ v)) (hon.upd k _) (h.2.2 v hv)⟩

theorem wpAny_of_R {n g : Nat} {L : Array Bool → Act → Facts → Prop} {Q' : Exit → Act → World → Prop} (hlast : Lasting md ops S D)
    (hL : ∀ listed a fs w, C w → (∀ d, fs d w) → L listed a fs → wpAny P md ops Q' g listed a w) :
    ∀ (f : Nat) (listed : Array Bool) (a : Act) (fs : Facts) (w : World), HeadInv md ops n listed → C w → (∀ d, fs d w) → Kept D listed fs → wpAnyR P md ops C S D n L f listed a fs → wpAny P md ops Q' (f + g) listed a w
  | 0, listed, a, fs, w, inv, hw, hf, hk, h => by rw [Nat.zero_add]; exact hL _ _ _ _ hw hf h
  | f + 1, listed, a, fs, w, inv, hw, hf, hk, h => by
    rw [show f + 1 + g = (f + g) + 1 by omega]
    refine ⟨fun h0 => absurd h0 h.1, fun i hi => ?_⟩
    have h1 := (h.2 i hi).2
    have inv' := inv.set hi (h.2 i hi).1
    have hun := (mem_ready.1 hi).1
    unfold rOp at h1
    unfold wpOp
    cases ho : ops[i]? with
    | none =>
      rw [ho] at h1
      exact wpAny_of_R hlast hL f _ _ _ _ inv' hw hf (hk.set i) h1
    | some o =>
      rw [ho] at h1
      simp only at h1 ⊢
      cases hS : S i with
      | none =>
        rw [hS] at h1
        simp only at h1
        split
        · rename_i hwd
          rw [if_pos hwd] at h1
          obtain ⟨hp, v, hv, hK⟩ := h1
          left
          have h3 := hv w hw
          unfold Oper.quietAt at h3
          unfold Oper.wp
          cases hr : (execOp a.eval o).run P w with
          | ok m w' =>
            obtain ⟨x, rfl⟩ := plain_value hp _ _ _ _ hr
            rw [hr] at h3
            simp only [Oper.quietUpon] at h3
            simp only [Oper.upon]
            rw [h3.1, h3.2]
            exact wpAny_of_R hlast hL f _ _ _ _ inv' hw hf (hk.set i) hK
          | halt x w' => rw [hr] at h3; simp only [Oper.quietUpon] at h3
        · rename_i hwd
          rw [if_neg hwd] at h1
          exact wpAny_of_R hlast hL f _ _ _ _ inv' hw hf (hk.set i) h1
      | some Φ =>
        rw [hS] at h1
        simp only at h1
        obtain ⟨hwd, hst, hK⟩ := h1
        rw [if_pos hwd]
        left
        refine wp_of_gives (hst w hw fun d _ => hf d) fun v w' ⟨hC', hb, hΦ⟩ => ?_
        have hf' := facts_behind hf hk hun hb hΦ
        exact wpAny_of_R hlast hL f _ _ _ _ inv' hC' hf' (hk.updD (fun j' h0 h1 h2 => hlast i Φ hS j' h1 h2 (not_before inv hi h0) _ v)) (hK v ⟨w', hC', hf'⟩)

/-- A region with a head of specified operations, and a chain behind it. -/
theorem wp_region_spec_tail {id : Nat} {Q : Exit → Act → World → Prop} {a : Act} {w : World} {l : List Oper} (n : Nat) (hm : P.follows .mixedOrders = true) (hB : Region.lexTailB .any l.toArray n = true)
    (hC : C { w with drawn := w.drawn + 1 }) (hlast : Lasting .any l.toArray S D) (hbar : Barred .any l.toArray S D) (hvw : Viewed .any l.toArray S)
    (h : wpSpec P .any l.toArray C S D (fun a' fs' => ∀ w', C w' → (∀ d, fs' d w') → wpList P l.toArray Q (l.drop n) a' w') 0 (l.take n) a noFacts) : (Code.region id l.toArray true).wp P Q a w := by
  simp only [Region.lexTailB, Bool.and_eq_true, decide_eq_true_eq] at hB
  obtain ⟨⟨⟨⟨hsel, hn⟩, hs⟩, hc⟩, hlex⟩ := hB
  have hn' : n < l.length := by simpa using hn
  have htl : (l.take n).length = n := by simp; omega
  have hdl : (l.drop n).length = l.toArray.size - n := by simp
  have inv0 : HeadInv .any l.toArray n (Array.replicate l.toArray.size false) :=
    ⟨by simp, fun j oj _ hl => (by rw [getD_replicate_false] at hl; cases hl), fun t _ ht => getD_in (by simpa using ht) (getD_replicate_false _ _)⟩
  have H := wpAnyR_lex (md := .any) (g := l.toArray.size - n) hC hbar hvw hlast hsel (fun i hi listed inv hun j hj => by
      rcases Nat.lt_or_ge j n with h' | h'
      · exact h'
      · exact absurd hj (tail_waits hs hc hn inv _ i rfl hi hun j h')) (l.take n) 0 _ a noFacts (fun j hj => by
    have hj' : j < n := by rw [htl] at hj; exact hj
    simp [hj']) (by simpa using htl) inv0 ⟨_, hC, fun _ => trivial⟩ (fun _ _ _ _ _ _ _ _ _ => trivial) (fun _ _ _ => trivial) (by rw [htl]; exact hlex) h
  refine wp_region_any hm ?_
  have := wpAny_of_R (Q' := Q) (g := l.toArray.size - n) hlast (fun listed a' fs' w' hw' hf' hL => by
    have := wpAny_of_seq (md := .any) (Q' := Q) (l.drop n) n listed a' w' (fun j => by simp [List.getElem?_drop]) (by rw [hdl]; exact hL.1) (hL.2 w' hw' hf')
    rwa [hdl] at this) _ _ _ _ _ inv0 hC (fun _ => trivial) (fun _ _ _ _ _ _ _ _ _ => trivial) H
  rw [htl, show n + (l.toArray.size - n) = l.toArray.size by omega] at this
  exact this
theorem wp_region_spec {id : Nat} {Q : Exit → Act → World → Prop} {a : Act} {w : World} {l : List Oper} (hm : P.follows .mixedOrders = true) (hB : lexAllB .any l.toArray = true)
    (hC : C { w with drawn := w.drawn + 1 }) (hlast : Lasting .any l.toArray S D) (hbar : Barred .any l.toArray S D) (hvw : Viewed .any l.toArray S)
    (h : wpSpec P .any l.toArray C S D (fun a' fs' => ∀ w', C w' → (∀ d, fs' d w') → Q .normal a' w') 0 l a noFacts) : (Code.region id l.toArray true).wp P Q a w := by
  simp only [lexAllB, Bool.and_eq_true] at hB
  obtain ⟨hsel, hlex⟩ := hB
  have inv0 : HeadInv .any l.toArray l.length (Array.replicate l.toArray.size false) :=
    ⟨by simp, fun j oj _ hl => (by rw [getD_replicate_false] at hl; cases hl), fun t _ ht => getD_in (by simpa using ht) (getD_replicate_false _ _)⟩
  have H := wpAnyR_lex (md := .any) (n := l.length) (g := 0) hC hbar hvw hlast hsel (fun i hi listed inv hun j hj => by
      obtain ⟨_, o, ho, _⟩ := mem_ready.1 hj
      have := (Array.getElem?_eq_some_iff.1 ho).1
      simpa using this) l 0 _ a noFacts (fun j hj => by simp) (by simp) inv0 ⟨_, hC, fun _ => trivial⟩ (fun _ _ _ _ _ _ _ _ _ => trivial) (fun _ _ _ => trivial) (by simpa using hlex) h
  refine wp_region_any hm ?_
  have := wpAny_of_R (Q' := Q) (g := 0) hlast (fun listed a' fs' w' hw' hf' hL => by
    have := wpAny_of_seq (md := .any) (P := P) (Q' := Q) [] l.length listed a' w' (fun j => by simp) hL.1 (hL.2 w' hw' hf')
    exact this) _ _ _ _ _ inv0 hC (fun _ => trivial) (fun _ _ _ _ _ _ _ _ _ => trivial) H
  simpa using this

theorem wpSpec_quiet {Q : Act → Facts → Prop} : ∀ (m : Nat) {k : Nat} {l : List Oper} {a : Act} {fs : Facts} (hS : ((List.range m).all fun i => (S (k + i)).isNone) = true) (hp : ((l.take m).all plainB) = true)
    (h : wpQuiet P ops C (fun a' => wpSpec P md ops C S D Q (k + m) (l.drop m) a' fs) (l.take m) a), wpSpec P md ops C S D Q k l a fs
  | 0, k, l, a, fs, _, _, h => h
  | m + 1, k, [], a, fs, _, _, h => h
  | m + 1, k, o :: l, a, fs, hS, hp, h => by
    have hS0 : S k = none := by
      have := List.all_eq_true.1 hS 0 (by simp)
      simpa using this
    simp only [List.take_succ_cons, List.all_cons, Bool.and_eq_true] at hp
    have again : ∀ a', wpQuiet P ops C (fun a' => wpSpec P md ops C S D Q (k + (m + 1)) (List.drop (m + 1) (o :: l)) a' fs) (l.take m) a' → wpSpec P md ops C S D Q (k + 1) l a' fs := fun a' h' =>
      wpSpec_quiet m (k := k + 1) (List.all_eq_true.2 fun i hi => by
        have := List.all_eq_true.1 hS (i + 1) (by simp at hi ⊢; exact hi)
        rwa [show k + (i + 1) = k + 1 + i by omega] at this) hp.2 (by
        rw [show k + (m + 1) = k + 1 + m by omega] at h'
        exact h')
    unfold wpSpec
    rw [hS0]
    simp only
    simp only [List.take_succ_cons] at h
    unfold wpQuiet at h
    split
    · rename_i hw
      rw [if_pos hw] at h
      exact ⟨hp.1, Oper.quiet_mono again h⟩
    · rename_i hw
      rw [if_neg hw] at h
      exact again _ h
end

section
variable {P : Program} {ops : Array Oper} {md : Region.Mode} {S : Specs} {D : Drop}
/-- A later world. -/
def LateR (w w' : World) : Prop := Go.RowKit.Below w.heap.size w w'
theorem viewed_of {l : List (Nat × SpecE)} {vs : List (Nat × List Tmp)} (hvs : (l.map fun p => (p.1, p.2.1)) = vs) (h : viewB md ops vs = true) : Viewed md ops (planS l) := by
  intro i E hS j oj s hj hs hm
  have h1 := List.all_eq_true.1 (List.all_eq_true.1 (List.all_eq_true.1 h (i, E.1) (hvs ▸ planS_in hS)) s hm) j (List.mem_range.2 (Array.getElem?_eq_some_iff.1 hj).1)
  simp only [hj, hs, Bool.or_eq_true] at h1
  rcases h1 with h1 | h1
  · simp at h1
  · exact h1
end

/-- A class of worlds. -/
structure WIn (C : World → Prop) where
  w : World
  h : C w
/-- Its world. -/
def wOf {C : World → Prop} (p : WIn C) : World := p.w
theorem wOf_in {C : World → Prop} (p : WIn C) : C (wOf p) := p.h
def relOf (rs : List (Nat × (World → World → Prop))) (k : Nat) : World → World → Prop := match rs with
  | [] => LateR
  | (i, R) :: r => cond (Nat.beq i k) R (relOf r k)
def relS (rs : List (Nat × (World → World → Prop))) : Drop := fun k => (false, relOf rs k)
theorem relOf_cases {rs : List (Nat × (World → World → Prop))} {k : Nat} : relOf rs k = LateR ∨ ∃ R, (k, R) ∈ rs ∧ relOf rs k = R := by
  induction rs with
  | nil => exact .inl rfl
  | cons p r ih =>
    obtain ⟨i, R⟩ := p
    unfold relOf
    cases hb : Nat.beq i k with
    | true =>
      rw [Nat.eq_of_beq_eq_true hb]
      exact .inr ⟨R, List.mem_cons_self .., rfl⟩
    | false =>
      rcases ih with h | ⟨R', h1, h2⟩
      · exact .inl h
      · exact .inr ⟨R', List.mem_cons_of_mem _ h1, h2⟩
/-- What is asked of the specifications: they stay behind later worlds, and behind each other operation of the list. -/
def StayL (bef : Nat → Nat → Bool) (i : Nat) (E : List Value → Value → World → Prop) : List (Nat × (World → World → Prop)) → Prop
  | [] => True
  | p :: r => (p.1 ≠ i → bef p.1 i = false → ∀ l v w w', E l v w → p.2 w w' → E l v w') ∧ StayL bef i E r
theorem StayL.of {bef : Nat → Nat → Bool} {i : Nat} {E : List Value → Value → World → Prop} : ∀ {rs}, StayL bef i E rs → ∀ k R, (k, R) ∈ rs → k ≠ i → bef k i = false → ∀ l v w w', E l v w → R w w' → E l v w'
  | [], _, _, _, h, _, _ => by cases h
  | p :: r, hs, k, R, h, hne, hbf => by
    rcases List.mem_cons.1 h with rfl | h
    · exact hs.1 hne hbf
    · exact StayL.of hs.2 k R h hne hbf
def LastR (bef : Nat → Nat → Bool) (rs : List (Nat × (World → World → Prop))) : List (Nat × SpecE) → Prop
  | [] => True
  | p :: r => ((∀ l v w w', p.2.2 l v w → Go.RowKit.Below w.heap.size w w' → p.2.2 l v w') ∧ StayL bef p.1 p.2.2 rs) ∧ LastR bef rs r
theorem LastR.lasting {md : Region.Mode} {ops : Array Oper} {rs : List (Nat × (World → World → Prop))} : ∀ {l : List (Nat × SpecE)}, LastR (fun j i => reaches md ops j ops.size i) rs l → Lasting md ops (planS l) (relS rs)
  | [], _, i, Φ, h => by cases h
  | (j, Ψ) :: r, hl, i, Φ, h => by
    unfold planS at h
    cases hb : Nat.beq j i with
    | true =>
      rw [hb] at h
      cases h
      have hji := Nat.eq_of_beq_eq_true hb
      intro k hk _ hbf l v w w' h1 h2
      change relOf rs k w w' at h2
      rcases relOf_cases (rs := rs) (k := k) with h3 | ⟨R, h3, h4⟩
      · rw [h3] at h2; exact hl.1.1 l v w w' h1 h2
      · rw [h4] at h2; exact hl.1.2.of k R h3 (by rw [hji]; exact hk) (by rw [hji]; exact hbf) l v w w' h1 h2
    | false => rw [hb] at h; exact LastR.lasting hl.2 i Φ h
section
variable {P : Program} {ops : Array Oper} {md : Region.Mode} {S : Specs} {D : Drop} {C0 : World → Prop}
/-- A specified operation, in a class of worlds; R: its relation. -/
theorem wpSpec_atR {Q : Act → Facts → Prop} {k : Nat} {o : Oper} {rest : List Oper} {a : Act} {fs : Facts} (l : List Value) (Φ : Value → World → Prop) (R : World → World → Prop) {sl : List Tmp} {Ψ : List Value → Value → World → Prop} (hS : S k = some (sl, Ψ)) (hv : viewS a sl = l) (hΦ : Ψ l = Φ) (hw : Region.wanted o (yielded ops a.tmps) = true)
    (hst : ∀ w', C0 w' → (∀ d, Region.waitsFor md ops k d = true → fs d w') → Oper.gives P o a w' (fun v w'' => C0 w'' ∧ R w' w'' ∧ Φ v w''))
    (hD : D k = (false, R)) (h : ∀ v, (∃ w', Φ v w') → wpSpec P md ops (fun w' => ∃ p : WIn C0, w' = wOf p) S D Q (k + 1) rest (a.put o.dst v) (upd fs k (Φ v))) : wpSpec P md ops (fun w' => ∃ p : WIn C0, w' = wOf p) S D Q k (o :: rest) a fs := by
  unfold wpSpec
  rw [hS]
  refine ⟨hw, fun w' hw' hf => ?_, fun v hp => by
    simp only [updD_no (show (D k).1 = false by rw [hD]), hv, hΦ] at hp ⊢
    obtain ⟨wp, _, hf⟩ := hp
    have h1 := hf k
    rw [upd_same] at h1
    exact h v ⟨wp, h1⟩⟩
  obtain ⟨p, rfl⟩ := hw'
  simp only [hv, hΦ]
  exact (hst (wOf p) (wOf_in p) hf).mono fun v w2 h2 => ⟨⟨⟨w2, h2.1⟩, rfl⟩, fun _ => by rw [hD]; exact h2.2.1, h2.2.2⟩
theorem wp_region_rel_tail {id : Nat} {Q : Exit → Act → World → Prop} {a : Act} {w : World} {l : List Oper} (C0 : World → Prop) (rs : List (Nat × (World → World → Prop))) (pl : List (Nat × SpecE)) (vs : List (Nat × List Tmp)) (n : Nat) (hm : P.follows .mixedOrders = true) (hB : Region.lexTailB .any l.toArray n = true) (hvs : (pl.map fun p => (p.1, p.2.1)) = vs) (hview : viewB .any l.toArray vs = true) (hlast : LastR (fun j i => reaches .any l.toArray j l.toArray.size i) rs pl)
    (hC : C0 { w with drawn := w.drawn + 1 })
    (h : wpSpec P .any l.toArray (fun w' => ∃ p : WIn C0, w' = wOf p) (planS pl) (relS rs) (fun a' fs' => ∀ w', C0 w' → (∀ d, fs' d w') → wpList P l.toArray Q (l.drop n) a' w') 0 (l.take n) a noFacts) : (Code.region id l.toArray true).wp P Q a w := by
  have e : (fun (a' : Act) (fs' : Facts) => ∀ w', C0 w' → (∀ d, fs' d w') → wpList P l.toArray Q (l.drop n) a' w') = (fun a' fs' => ∀ w', (∃ p : WIn C0, w' = wOf p) → (∀ d, fs' d w') → wpList P l.toArray Q (l.drop n) a' w') := by
    funext a' fs'
    exact propext ⟨fun h w' ⟨p, hp⟩ => h w' (hp ▸ p.h), fun h w' hb => h w' ⟨⟨w', hb⟩, rfl⟩⟩
  rw [e] at h
  exact wp_region_spec_tail (C := fun w' => ∃ p : WIn C0, w' = wOf p) n hm hB ⟨⟨_, hC⟩, rfl⟩ hlast.lasting (fun i hi => by cases hi) (viewed_of hvs hview) h
theorem wp_region_rel {id : Nat} {Q : Exit → Act → World → Prop} {a : Act} {w : World} {l : List Oper} (C0 : World → Prop) (rs : List (Nat × (World → World → Prop))) (pl : List (Nat × SpecE)) (vs : List (Nat × List Tmp)) (hm : P.follows .mixedOrders = true) (hB : lexAllB .any l.toArray = true) (hvs : (pl.map fun p => (p.1, p.2.1)) = vs) (hview : viewB .any l.toArray vs = true) (hlast : LastR (fun j i => reaches .any l.toArray j l.toArray.size i) rs pl)
    (hC : C0 { w with drawn := w.drawn + 1 })
    (h : wpSpec P .any l.toArray (fun w' => ∃ p : WIn C0, w' = wOf p) (planS pl) (relS rs) (fun a' fs' => ∀ w', C0 w' → (∀ d, fs' d w') → Q .normal a' w') 0 l a noFacts) : (Code.region id l.toArray true).wp P Q a w := by
  have e : (fun (a' : Act) (fs' : Facts) => ∀ w', C0 w' → (∀ d, fs' d w') → Q .normal a' w') = (fun a' fs' => ∀ w', (∃ p : WIn C0, w' = wOf p) → (∀ d, fs' d w') → Q .normal a' w') := by
    funext a' fs'
    exact propext ⟨fun h w' ⟨p, hp⟩ => h w' (hp ▸ p.h), fun h w' hb => h w' ⟨⟨w', hb⟩, rfl⟩⟩
  rw [e] at h
  exact wp_region_spec (C := fun w' => ∃ p : WIn C0, w' = wOf p) hm hB ⟨⟨_, hC⟩, rfl⟩ hlast.lasting (fun i hi => by cases hi) (viewed_of hvs hview) h
end

end Go.Proofs.YtlilodfddojlhaaDoor.Ord
