/- A region that draws its order: operations that only compute or read are walked once (as in a quiet walk); calls, appends and the like each have a specification of their value, whatever the order; then a chain that waits for all of it. -/
import Derived.Test.YthdldmkeoglflaaDoorQTail
import Derived.Test.YthdldmkeoglflaaDoorCup
namespace Go.Proofs.YthdldmkeoglflaaDoor
set_option maxRecDepth 100000
open Go.RowKit Go.Sort
set_option linter.unusedVariables false

/-- Of these operations the model enters no function. -/
def plainB (o : Oper) : Bool := match o.op with
  | .move _ | .assign _ | .pick _ _ _ | .build _ _ | .load _ _ | .binOp _ _ _ _ _ | .unOp _ _ _ | .convert _ _ _ | .slice _ _ _ _ _ | .fieldAddr _ _ _ | .field _ _ _ | .indexAddr _ _ _ | .index _ _ _ | .extract _ _ => true
  | .call c => match c.callee with
    | .builtin .len | .builtin .cap => true
    | _ => false
  | _ => false
theorem run_value {P : Program} {s : Sem Value} {w w' : World} {n : Next} (h : (do pure (Next.value (← s)) : Sem Next).run P w = .ok n w') : ∃ v, n = .value v := by
  rw [Sem.run_bind] at h
  cases hs : s.run P w with
  | ok v w1 => rw [hs] at h; simp [Result.andThen] at h; exact ⟨v, h.1.symm⟩
  | halt x w1 => rw [hs] at h; simp [Result.andThen] at h
theorem plain_value {P : Program} {o : Oper} (h : plainB o = true) (ρ : Operand → Value) (w w' : World) (n : Next) (hr : (execOp ρ o).run P w = .ok n w') : ∃ v, n = .value v := by
  obtain ⟨dst, op, type, pos, after, guard⟩ := o
  cases op
  case call c =>
    obtain ⟨callee, args, argTypes⟩ := c
    cases callee
    case builtin b =>
      cases b <;> simp [plainB] at h
      all_goals
        simp only [execOp, resolve, invoke, builtin] at hr
        exact run_value hr
    all_goals simp [plainB] at h
  all_goals first
    | (simp [plainB] at h; done)
    | (simp only [execOp] at hr; first | (exact run_value hr) | (simp at hr; exact ⟨_, hr.1.symm⟩))
    | (simp only [execOp] at hr; rw [Sem.run_bind] at hr; revert hr; generalize (asBool _).run P w = r; intro hr; cases r <;> simp [Result.andThen] at hr; exact ⟨_, hr.1.symm⟩)

/-- Specifications of operations; a specification may look at slots that its operation waits for. -/
abbrev SpecE := List Tmp × (List Value → Value → World → Prop)
abbrev Specs := Nat → Option SpecE
def viewS (a : Act) (sl : List Tmp) : List Value := sl.map fun s => a.eval (.tmp s)
theorem viewS_put {a : Act} {d : Option Tmp} {u : Value} {sl : List Tmp} (h : ∀ s, d = some s → s ∉ sl) : viewS (a.put d u) sl = viewS a sl :=
  List.map_congr_left fun s hs => Act.eval_put fun x hx e => by cases e; exact h s hx hs
abbrev Facts := Nat → World → Prop
def upd (fs : Facts) (i : Nat) (φ : World → Prop) : Facts := fun j w => cond (Nat.beq j i) (φ w) (fs j w)
theorem upd_same (fs : Facts) (i : Nat) (φ : World → Prop) (w : World) : upd fs i φ i w = φ w := by simp [upd, Nat.beq_refl]
theorem upd_ne (fs : Facts) {i j : Nat} (φ : World → Prop) (w : World) (h : j ≠ i) : upd fs i φ j w = fs j w := by
  have : Nat.beq j i = false := by
    cases hb : Nat.beq j i with
    | false => rfl
    | true => exact absurd (Nat.eq_of_beq_eq_true hb) h
  simp [upd, this]
theorem upd_comm (fs : Facts) {i j : Nat} (φ ψ : World → Prop) (h : j ≠ i) : upd (upd fs i φ) j ψ = upd (upd fs j ψ) i φ := by
  funext k w
  by_cases hk : k = j
  · subst hk; rw [upd_same, upd_ne _ _ _ h, upd_same]
  · rw [upd_ne _ _ _ hk]
    by_cases hi : k = i
    · subst hi; rw [upd_same, upd_same]
    · rw [upd_ne _ _ _ hi, upd_ne _ _ _ hi, upd_ne _ _ _ hk]

/-- Behind an operation that may store into what others hold (D): its own fact alone. -/
def updD (D : Nat → Bool) (fs : Facts) (i : Nat) (φ : World → Prop) : Facts := cond (D i) (upd (fun _ _ => True) i φ) (upd fs i φ)
theorem updD_no {D : Nat → Bool} {i : Nat} (h : D i = false) (fs : Facts) (φ : World → Prop) : updD D fs i φ = upd fs i φ := by simp [updD, h]
/-- Operation j waits for i, directly or through others. -/
def reaches (md : Region.Mode) (ops : Array Oper) (i : Nat) : Nat → Nat → Bool
  | 0, _ => false
  | f + 1, j => match ops[j]? with
    | none => false
    | some o => o.after.any fun e => Region.binds md e && (e.on == i || reaches md ops i f e.on)
def barB (md : Region.Mode) (ops : Array Oper) (sp ds : List Nat) : Bool := ds.all fun i => sp.all fun j => j == i || (cond (Nat.blt j i) (reaches md ops j ops.size i) (reaches md ops i ops.size j))

/-- The operation yields a value and a world that meet R. -/
def Oper.gives (P : Program) (o : Oper) (a : Act) (w : World) (R : Value → World → Prop) : Prop :=
  match (execOp a.eval o).run P w with
  | .ok (.value u) w' => R u w'
  | .ok .skip w' => R undef w'
  | .ok (.enter f args) w' => Calls P f args w' (fun e w'' => ∃ v, e = .returned v ∧ R v w'')
  | _ => False

theorem Oper.gives.mono {P : Program} {o : Oper} {a : Act} {w : World} {R R' : Value → World → Prop} (h : Oper.gives P o a w R) (hR : ∀ v w', R v w' → R' v w') : Oper.gives P o a w R' := by
  unfold Oper.gives at h ⊢
  generalize (execOp a.eval o).run P w = r at *
  cases r with
  | ok n w2 =>
    cases n <;> simp only at h ⊢
    case value u => exact hR _ _ h
    case skip => exact hR _ _ h
    case enter f args => exact h.mono fun e w'' ⟨v, he, hr⟩ => ⟨v, he, hR _ _ hr⟩
  | halt x w2 => exact h

section
variable {P : Program} {ops : Array Oper} {md : Region.Mode} {C : World → Prop} {S : Specs} {D : Nat → Bool}

/-- There is a world in which all of it holds. -/
def Poss (C : World → Prop) (fs : Facts) : Prop := ∃ w, C w ∧ ∀ d, fs d w
/-- What is asked of an operation that has a specification. -/
def specStep (P : Program) (md : Region.Mode) (ops : Array Oper) (C : World → Prop) (D : Nat → Bool) (i : Nat) (o : Oper) (E : SpecE) (a : Act) (fs : Facts) : Prop :=
  ∀ w, C w → (∀ d, Region.waitsFor md ops i d = true → fs d w) → Oper.gives P o a w (fun v w' => C w' ∧ (D i = false → Below w.heap.size w w') ∧ E.2 (viewS a E.1) v w')

def rOp (P : Program) (md : Region.Mode) (ops : Array Oper) (C : World → Prop) (S : Specs) (D : Nat → Bool) (i : Nat) (K : Act → Facts → Prop) (a : Act) (fs : Facts) : Prop :=
  match ops[i]? with
  | none => K a fs
  | some o => match S i with
    | none => if Region.wanted o (yielded ops a.tmps) then plainB o = true ∧ o.quiet P a C (fun a' => K a' fs) else K (a.put o.dst undef) fs
    | some Φ => Region.wanted o (yielded ops a.tmps) = true ∧ specStep P md ops C D i o Φ a fs ∧ ∀ v, Poss C (updD D fs i (Φ.2 (viewS a Φ.1) v)) → K (a.put o.dst v) (updD D fs i (Φ.2 (viewS a Φ.1) v))

def wpAnyR (P : Program) (md : Region.Mode) (ops : Array Oper) (C : World → Prop) (S : Specs) (D : Nat → Bool) (n : Nat) (L : Array Bool → Act → Facts → Prop) : Nat → Array Bool → Act → Facts → Prop
  | 0, listed, a, fs => L listed a fs
  | f + 1, listed, a, fs =>
    Region.ready md ops listed ≠ [] ∧ ∀ i ∈ Region.ready md ops listed, i < n ∧ rOp P md ops C S D i (fun a' fs' => wpAnyR P md ops C S D n L f (listed.setIfInBounds i true) a' fs') a fs

theorem quiet_unique {o : Oper} {a : Act} {w0 : World} {v u : Value} (hw0 : C w0) (hp : plainB o = true) (h : ∀ w, C w → o.quietAt P a C w v) (k : ∀ w, C w → o.quietAt P a C w u) : v = u := by
  have h1 := h w0 hw0
  have k1 := k w0 hw0
  unfold Oper.quietAt at h1 k1
  cases hr : (execOp a.eval o).run P w0 with
  | ok n w' =>
    obtain ⟨x, rfl⟩ := plain_value hp _ _ _ _ hr
    rw [hr] at h1 k1
    simp only [Oper.quietUpon] at h1 k1
    rw [← h1.2, k1.2]
  | halt x w' =>
    rw [hr] at h1
    simp only [Oper.quietUpon] at h1

theorem quietAt_put {oj : Oper} {a : Act} {d : Option Tmp} {u v : Value} (hsj : ∀ cs b, oj.op ≠ .select cs b) (h : ∀ x, d = some x → x ∉ oj.looksAt ops) (w : World) : oj.quietAt P (a.put d u) C w v ↔ oj.quietAt P a C w v := by
  unfold Oper.quietAt
  rw [execOp_put (ops := ops) oj hsj a d u h]
theorem gives_put {oj : Oper} {a : Act} {d : Option Tmp} {u : Value} {R : Value → World → Prop} (hsj : ∀ cs b, oj.op ≠ .select cs b) (h : ∀ x, d = some x → x ∉ oj.looksAt ops) (w : World) : Oper.gives P oj (a.put d u) w R ↔ Oper.gives P oj a w R := by
  unfold Oper.gives
  rw [execOp_put (ops := ops) oj hsj a d u h]

/-- The specifications are kept by later worlds. -/
def Lasting (S : Specs) : Prop := ∀ i E, S i = some E → ∀ l v w w', E.2 l v w → Below w.heap.size w w' → E.2 l v w'
def Kept (fs : Facts) : Prop := ∀ d w w', fs d w → Below w.heap.size w w' → fs d w'
theorem Kept.upd {fs : Facts} (h : Kept fs) {i : Nat} {φ : World → Prop} (hφ : ∀ w w', φ w → Below w.heap.size w w' → φ w') : Kept (upd fs i φ) := fun d w w' hd hb => by
  by_cases hdi : d = i
  · subst hdi; rw [upd_same] at hd ⊢; exact hφ w w' hd hb
  · rw [upd_ne _ _ _ hdi] at hd ⊢; exact h d w w' hd hb

def Only (listed : Array Bool) (fs : Facts) : Prop := ∀ d w, listed.getD d true = false → fs d w
theorem Only.set {listed : Array Bool} {fs : Facts} (h : Only listed fs) (j : Nat) : Only (listed.setIfInBounds j true) fs := fun d w hd => by
  by_cases hjd : j = d
  · subst hjd
    exfalso
    rcases Nat.lt_or_ge j listed.size with h' | h'
    · simp [h'] at hd
    · simp at hd
  · rw [getD_set_ne true hjd] at hd; exact h d w hd
theorem Only.upd {listed : Array Bool} {fs : Facts} (h : Only listed fs) (j : Nat) (φ : World → Prop) : Only (listed.setIfInBounds j true) (updD D fs j φ) := fun d w hd => by
  have hdj : d ≠ j := by
    intro e
    subst e
    rcases Nat.lt_or_ge d listed.size with h' | h'
    · simp [h'] at hd
    · simp at hd
  have h1 : fs d w := h.set j d w hd
  cases hD : D j with
  | false => rw [updD_no hD, upd_ne _ _ _ hdj]; exact h1
  | true => simp only [updD, hD, cond]; rw [upd_ne _ _ _ hdj]; trivial
theorem Kept.updD {fs : Facts} (h : Kept fs) {i : Nat} {φ : World → Prop} (hφ : ∀ w w', φ w → Below w.heap.size w w' → φ w') : Kept (updD D fs i φ) := by
  cases hD : D i with
  | false => rw [updD_no hD]; exact h.upd hφ
  | true => simp only [Go.Proofs.YthdldmkeoglflaaDoor.updD, hD, cond]; exact Kept.upd (fun _ _ _ _ _ => trivial) hφ
theorem facts_behind {fs : Facts} {i : Nat} {φ : World → Prop} {w w' : World} (hf : ∀ d, fs d w) (hk : Kept fs) (hb : D i = false → Below w.heap.size w w') (hφ : φ w') : ∀ d, updD D fs i φ d w' := fun d => by
  cases hd : D i with
  | false =>
    rw [updD_no hd]
    by_cases hdi : d = i
    · subst hdi; rw [upd_same]; exact hφ
    · rw [upd_ne _ _ _ hdi]; exact hk d _ _ (hf d) (hb hd)
  | true =>
    simp only [updD, hd, cond]
    by_cases hdi : d = i
    · subst hdi; rw [upd_same]; exact hφ
    · rw [upd_ne _ _ _ hdi]; trivial
theorem poss_step {i : Nat} {o : Oper} {E : SpecE} {a : Act} {fs : Facts} (hp : Poss C fs) (hk : Kept fs) (hst : specStep P md ops C D i o E a fs) : ∃ v, Poss C (updD D fs i (E.2 (viewS a E.1) v)) := by
  obtain ⟨w, hw, hf⟩ := hp
  have h := hst w hw fun d _ => hf d
  unfold Oper.gives at h
  cases hr : (execOp a.eval o).run P w with
  | halt x w' => rw [hr] at h; exact h.elim
  | ok n w' =>
    rw [hr] at h
    cases n <;> simp only at h
    case value u => exact ⟨u, w', h.1, facts_behind hf hk h.2.1 h.2.2⟩
    case skip => exact ⟨undef, w', h.1, facts_behind hf hk h.2.1 h.2.2⟩
    case enter f args =>
      obtain ⟨e, w'', fr, ⟨v, _, h1, h2, h3⟩, _⟩ := h []
      exact ⟨v, w'', h1, facts_behind hf hk h2 h3⟩
def Barred (md : Region.Mode) (ops : Array Oper) (S : Specs) (D : Nat → Bool) : Prop :=
  ∀ i, D i = true → ∀ j, j ≠ i → S j ≠ none → reaches md ops j ops.size i = true ∨ reaches md ops i ops.size j = true
/-- Specifications look at no slot that may be written behind their back. -/
def Viewed (md : Region.Mode) (ops : Array Oper) (S : Specs) : Prop := ∀ i E, S i = some E → ∀ (j : Nat) (oj : Oper) s, ops[j]? = some oj → oj.dst = some s → s ∈ E.1 → Region.waitsFor md ops i j = true
theorem Viewed.put {i j : Nat} {oj : Oper} {E : SpecE} {a : Act} {u : Value} (h : Viewed md ops S) (hS : S i = some E) (hj : ops[j]? = some oj) (hw : Region.waitsFor md ops i j = false) : viewS (a.put oj.dst u) E.1 = viewS a E.1 :=
  viewS_put fun s hs hm => by rw [h i E hS j oj s hj hs hm] at hw; cases hw
theorem specStep_put {i j : Nat} {oi oj : Oper} {E : SpecE} {a : Act} {u : Value} {fs : Facts} (h : Viewed md ops S) (hS : S i = some E) (hj : ops[j]? = some oj) (hw : Region.waitsFor md ops i j = false) (hsi : ∀ cs b, oi.op ≠ .select cs b) (hp : ∀ x, oj.dst = some x → x ∉ oi.looksAt ops) :
    specStep P md ops C D i oi E (a.put oj.dst u) fs ↔ specStep P md ops C D i oi E a fs := by
  unfold specStep
  rw [h.put hS hj hw]
  constructor
  · intro k w hw' hf; exact (gives_put hsi hp w).1 (k w hw' hf)
  · intro k w hw' hf; exact (gives_put hsi hp w).2 (k w hw' hf)
theorem reaches_listed {n i : Nat} {listed : Array Bool} (inv : HeadInv md ops n listed) : ∀ (f j : Nat), reaches md ops i f j = true → (j ∈ Region.ready md ops listed ∨ listed.getD j false = true) → listed.getD i false = true
  | 0, j, h, _ => by cases h
  | f + 1, j, h, hj => by
    unfold reaches at h
    cases ho : ops[j]? with
    | none => rw [ho] at h; cases h
    | some o =>
      rw [ho] at h
      simp only at h
      obtain ⟨e, he, hb⟩ := Array.any_eq_true'.1 h
      simp only [Bool.and_eq_true, Bool.or_eq_true, beq_iff_eq] at hb
      have hl : listed.getD e.on false = true := by
        rcases hj with hj | hj
        · obtain ⟨_, o', ho', hall⟩ := mem_ready.1 hj
          have : o' = o := Option.some.inj (ho'.symm.trans ho)
          subst this
          exact hall e he hb.1
        · exact inv.closed j o ho hj e he hb.1
      rcases hb.2 with h2 | h2
      · rw [← h2]; exact hl
      · exact reaches_listed inv f e.on h2 (.inr hl)
theorem no_drop {n i j : Nat} {listed : Array Bool} (hbar : Barred md ops S D) (inv : HeadInv md ops n listed) (hi : i ∈ Region.ready md ops listed) (hj : j ∈ Region.ready md ops listed) (hne : j ≠ i) (hS : S j ≠ none) : D i = false := by
  cases hd : D i with
  | false => rfl
  | true =>
    exfalso
    rcases hbar i hd j hne hS with h | h
    · have := reaches_listed inv _ _ h (.inl hi)
      rw [getD_both (mem_ready.1 hj).1] at this; cases this
    · have := reaches_listed inv _ _ h (.inl hj)
      rw [getD_both (mem_ready.1 hi).1] at this; cases this

theorem wpAnyR_first {n i : Nat} {oi : Oper} {w0 : World} {L : Array Bool → Act → Facts → Prop} (hw0 : C w0) (hbar : Barred md ops S D) (hvw : Viewed md ops S) (hlast : Lasting S) (hi : ops[i]? = some oi) (hsel : ∀ (j : Nat) (o : Oper) cs b, ops[j]? = some o → o.op ≠ .select cs b)
    (hlt : ∀ listed, HeadInv md ops n listed → listed.getD i true = false → ∀ j ∈ Region.ready md ops listed, j < n) (hin : i < n)
    (hdone : ∀ listed a fs, L listed a fs → ∀ j ∈ Region.ready md ops listed, n ≤ j) :
    ∀ (f : Nat) (listed : Array Bool) (a : Act) (fs : Facts), HeadInv md ops n listed →
      (∀ j oj, ops[j]? = some oj → j ≠ i → listed.getD j true = false → (∀ e ∈ oj.after, Region.binds md e = true → e.on ≠ i) → oi.apart ops oj = true) →
      i ∈ Region.ready md ops listed → Poss C fs → Kept fs → Only listed fs →
      rOp P md ops C S D i (fun a' fs' => wpAnyR P md ops C S D n L f (listed.setIfInBounds i true) a' fs') a fs → wpAnyR P md ops C S D n L (f + 1) listed a fs := by
  intro f
  induction f with
  | zero =>
    intro listed a fs inv _ hr hps hkp hon H
    have hun := (mem_ready.1 hr).1
    refine ⟨fun h => (by rw [h] at hr; cases hr), fun j hj => ?_⟩
    have hjn := hlt listed inv hun j hj
    refine ⟨hjn, ?_⟩
    by_cases hji : j = i
    · subst hji; exact H
    · exfalso
      have key : ∃ a' fs', L (listed.setIfInBounds i true) a' fs' := by
        unfold rOp at H
        rw [hi] at H
        simp only at H
        cases hS : S i with
        | none =>
          rw [hS] at H
          simp only at H
          split at H
          · obtain ⟨_, v, _, hK⟩ := H; exact ⟨_, _, hK⟩
          · exact ⟨_, _, H⟩
        | some Φ =>
          rw [hS] at H
          simp only at H
          obtain ⟨v, hv⟩ := poss_step hps hkp H.2.1
          exact ⟨_, _, H.2.2 v hv⟩
      obtain ⟨a', fs', hL⟩ := key
      have := hdone _ _ _ hL j (ready_mono hj hji)
      omega
  | succ f ih =>
    intro listed a fs inv hfree hr hps hkp hon H
    have hun := (mem_ready.1 hr).1
    refine ⟨fun h => (by rw [h] at hr; cases hr), fun j hj => ?_⟩
    have hjn := hlt listed inv hun j hj
    refine ⟨hjn, ?_⟩
    by_cases hji : j = i
    · subst hji; exact H
    · obtain ⟨hjun, oj, hoj, hall⟩ := mem_ready.1 hj
      have hnot : ∀ e ∈ oj.after, Region.binds md e = true → e.on ≠ i := fun e he hb heq => by
        have h1 := hall e he hb
        rw [heq, getD_both hun] at h1
        cases h1
      have hap := hfree j oj hoj hji hjun hnot
      obtain ⟨p1, p2, p3⟩ := Oper.apart_spec hap
      have hsj : ∀ cs b, oj.op ≠ .select cs b := fun cs b => hsel j oj cs b hoj
      have hsi : ∀ cs b, oi.op ≠ .select cs b := fun cs b => hsel i oi cs b hi
      have hfree' : ∀ k ok, ops[k]? = some ok → k ≠ i → (listed.setIfInBounds j true).getD k true = false →
          (∀ e ∈ ok.after, Region.binds md e = true → e.on ≠ i) → oi.apart ops ok = true := fun k ok hk hki hun hno => by
        refine hfree k ok hk hki ?_ hno
        by_cases hjk : j = k
        · subst hjk; exact hjun
        · rw [getD_set_ne true hjk] at hun; exact hun
      have hwf : Region.waitsFor md ops j i = false := by
        cases h : Region.waitsFor md ops j i with
        | false => rfl
        | true =>
          obtain ⟨o', ho', e, he, hb, hon⟩ := Region.waitsFor_spec h
          have : o' = oj := Option.some.inj (ho'.symm.trans hoj)
          subst this
          exact absurd hon (hnot e he hb)
      have hwf2 : Region.waitsFor md ops i j = false := by
        cases h : Region.waitsFor md ops i j with
        | false => rfl
        | true =>
          obtain ⟨_, o', ho', hall'⟩ := mem_ready.1 hr
          obtain ⟨o2, ho2, e, he, hb, hon⟩ := Region.waitsFor_spec h
          have : o2 = o' := Option.some.inj (ho2.symm.trans ho')
          subst this
          have h1 := hall' e he hb
          rw [hon, getD_both hjun] at h1
          cases h1
      have hcomm : (listed.setIfInBounds i true).setIfInBounds j true = (listed.setIfInBounds j true).setIfInBounds i true := (Array.setIfInBounds_comm _ _ hji).symm
      -- what H says of j behind i
      have after : ∀ {v : Value} {fs' : Facts}, wpAnyR P md ops C S D n L (f + 1) (listed.setIfInBounds i true) (a.put oi.dst v) fs' →
          rOp P md ops C S D j (fun a' fs'' => wpAnyR P md ops C S D n L f ((listed.setIfInBounds j true).setIfInBounds i true) a' fs'') (a.put oi.dst v) fs' := fun h => by
        have := (h.2 j (ready_mono hj hji)).2
        rw [hcomm] at this
        exact this
      have wj : ∀ v, Region.wanted oj (yielded ops (a.put oi.dst v).tmps) = Region.wanted oj (yielded ops a.tmps) := fun v => wanted_put oj a oi.dst v p1
      have wi : ∀ u, Region.wanted oi (yielded ops (a.put oj.dst u).tmps) = Region.wanted oi (yielded ops a.tmps) := fun u => wanted_put oi a oj.dst u p3
      unfold rOp at H ⊢
      rw [hi] at H
      rw [hoj]
      simp only at H ⊢
      cases hSi : S i with
      | none =>
        rw [hSi] at H
        simp only at H
        -- the frame behind i
        have key : ∃ v, (Region.wanted oi (yielded ops a.tmps) = true → plainB oi = true ∧ ∀ w, C w → oi.quietAt P a C w v) ∧ (Region.wanted oi (yielded ops a.tmps) = false → v = undef) ∧ wpAnyR P md ops C S D n L (f + 1) (listed.setIfInBounds i true) (a.put oi.dst v) fs := by
          split at H
          · rename_i hw
            obtain ⟨hp, v, hv, hK⟩ := H
            exact ⟨v, fun _ => ⟨hp, hv⟩, (fun h => by rw [hw] at h; cases h), hK⟩
          · rename_i hw
            exact ⟨undef, fun h => absurd h hw, fun _ => rfl, H⟩
        obtain ⟨v, hv1, hv2, hK⟩ := key
        have mk : ∀ (u : Value) (fs' : Facts), Poss C fs' → Kept fs' → Only (listed.setIfInBounds j true) fs' → wpAnyR P md ops C S D n L f ((listed.setIfInBounds j true).setIfInBounds i true) ((a.put oi.dst v).put oj.dst u) fs' →
            wpAnyR P md ops C S D n L (f + 1) (listed.setIfInBounds j true) (a.put oj.dst u) fs' := fun u fs' q1 q2 q3 h => by
          refine ih (listed.setIfInBounds j true) (a.put oj.dst u) fs' (inv.set hj hjn) hfree' (ready_mono hr (Ne.symm hji)) q1 q2 q3 ?_
          unfold rOp
          rw [hi]
          simp only [hSi]
          rw [wi u]
          rw [Act.put_comm a v u p2] at h
          split
          · rename_i hw
            exact ⟨(hv1 hw).1, v, fun w hw' => (quietAt_put hsi p3 w).2 ((hv1 hw).2 w hw'), h⟩
          · rename_i hw
            rw [hv2 (by simpa using hw)] at h
            exact h
        have h2 := after hK
        unfold rOp at h2
        rw [hoj] at h2
        simp only at h2
        cases hSj : S j with
        | none =>
          rw [hSj] at h2
          simp only at h2 ⊢
          rw [wj v] at h2
          split
          · rename_i hw
            rw [if_pos hw] at h2
            obtain ⟨hp, u, hu, hk⟩ := h2
            exact ⟨hp, u, fun w hw' => (quietAt_put hsj p1 w).1 (hu w hw'), mk u fs hps hkp (hon.set j) hk⟩
          · rename_i hw
            rw [if_neg hw] at h2
            exact mk undef fs hps hkp (hon.set j) h2
        | some Φ =>
          rw [hSj] at h2
          simp only at h2 ⊢
          rw [wj v] at h2
          obtain ⟨hw, hs, hk⟩ := h2
          have hvj : viewS (a.put oi.dst v) Φ.1 = viewS a Φ.1 := hvw.put hSj hi hwf
          rw [hvj] at hk
          exact ⟨hw, (specStep_put hvw hSj hi hwf hsj p1).1 hs, fun u hpu => mk u _ hpu (hkp.updD (hlast j Φ hSj _ u)) (hon.upd j _) (hk u hpu)⟩
      | some Φi =>
        rw [hSi] at H
        simp only at H
        obtain ⟨hwi, hsti, hK⟩ := H
        obtain ⟨v0, hp0⟩ := poss_step hps hkp hsti
        have mk : ∀ (u : Value) (fs' : Facts), Poss C fs' → Kept fs' → Only (listed.setIfInBounds j true) fs' → (∀ d, d ≠ j → fs' d = fs d) → (∀ v, Poss C (updD D fs' i (Φi.2 (viewS a Φi.1) v)) → wpAnyR P md ops C S D n L f ((listed.setIfInBounds j true).setIfInBounds i true) ((a.put oi.dst v).put oj.dst u) (updD D fs' i (Φi.2 (viewS a Φi.1) v))) →
            wpAnyR P md ops C S D n L (f + 1) (listed.setIfInBounds j true) (a.put oj.dst u) fs' := fun u fs' q1 q2 q3 hfs h => by
          refine ih (listed.setIfInBounds j true) (a.put oj.dst u) fs' (inv.set hj hjn) hfree' (ready_mono hr (Ne.symm hji)) q1 q2 q3 ?_
          unfold rOp
          rw [hi]
          simp only [hSi]
          rw [wi u]
          have hvi : viewS (a.put oj.dst u) Φi.1 = viewS a Φi.1 := hvw.put hSi hoj hwf2
          rw [hvi]
          refine ⟨hwi, fun w hw' hf => ?_, fun v hpv => ?_⟩
          · rw [hvi]
            refine (gives_put hsi p3 w).2 (hsti w hw' fun d hd => ?_)
            have hdj : d ≠ j := fun e => by rw [e, hwf2] at hd; cases hd
            rw [← hfs d hdj]; exact hf d hd
          · have := h v hpv
            rw [Act.put_comm a v u p2] at this
            exact this
        have h2 : ∀ v, Poss C (updD D fs i (Φi.2 (viewS a Φi.1) v)) → rOp P md ops C S D j (fun a' fs'' => wpAnyR P md ops C S D n L f ((listed.setIfInBounds j true).setIfInBounds i true) a' fs'') (a.put oi.dst v) (updD D fs i (Φi.2 (viewS a Φi.1) v)) := fun v hv => after (hK v hv)
        unfold rOp at h2
        simp only [hoj] at h2
        cases hSj : S j with
        | none =>
          simp only [hSj, wj] at h2 ⊢
          split
          · rename_i hw
            simp only [hw, if_true] at h2
            obtain ⟨hp, u, hu, _⟩ := h2 v0 hp0
            refine ⟨hp, u, fun w hw' => (quietAt_put hsj p1 w).1 (hu w hw'), mk u fs hps hkp (hon.set j) (fun _ _ => rfl) fun v hpv => ?_⟩
            obtain ⟨_, u', hu', hk'⟩ := h2 v hpv
            have : u' = u := quiet_unique hw0 hp (fun w hw' => (quietAt_put hsj p1 w).1 (hu' w hw')) (fun w hw' => (quietAt_put hsj p1 w).1 (hu w hw'))
            rw [this] at hk'
            exact hk'
          · rename_i hw
            simp only [hw] at h2
            exact mk undef fs hps hkp (hon.set j) (fun _ _ => rfl) fun v hpv => h2 v hpv
        | some Φ =>
          have hDi : D i = false := no_drop hbar inv hr hj hji (by rw [hSj]; simp)
          have hDj : D j = false := no_drop hbar inv hj hr (Ne.symm hji) (by rw [hSi]; simp)
          have hvj : ∀ v, viewS (a.put oi.dst v) Φ.1 = viewS a Φ.1 := fun v => hvw.put hSj hi hwf
          simp only [hSj, wj, updD_no hDi, updD_no hDj, hvj] at h2 ⊢
          rw [updD_no hDi] at hp0
          have hpost : ∀ u, Poss C (upd fs j (Φ.2 (viewS a Φ.1) u)) → Kept (upd fs j (Φ.2 (viewS a Φ.1) u)) ∧ Only (listed.setIfInBounds j true) (upd fs j (Φ.2 (viewS a Φ.1) u)) := fun u _ => ⟨hkp.upd (hlast j Φ hSj _ u), by have := hon.upd (D := D) j (Φ.2 (viewS a Φ.1) u); rwa [updD_no hDj] at this⟩
          refine ⟨(h2 v0 hp0).1, fun w hw' hf => ?_, fun u hpu => mk u _ hpu (hpost u hpu).1 (hpost u hpu).2 (fun d hd => by funext w; exact upd_ne fs _ w hd) fun v hpv => ?_⟩
          · have h3 := (h2 v0 hp0).2.1 w hw' fun d hd => by
              have hdi : d ≠ i := fun e => by rw [e, hwf] at hd; cases hd
              rw [upd_ne _ _ _ hdi]; exact hf d hd
            rw [hvj] at h3
            exact (gives_put hsj p1 w).1 h3
          · rw [updD_no hDi] at hpv
            rw [← upd_comm fs _ _ hji] at hpv
            have hp1 : Poss C (upd fs i (Φi.2 (viewS a Φi.1) v)) := by
              obtain ⟨w, hw, hf⟩ := hpv
              refine ⟨w, hw, fun d => ?_⟩
              by_cases hdj : d = j
              · subst hdj
                rw [upd_ne _ _ _ hji]
                exact hon d w hjun
              · have := hf d
                rwa [upd_ne _ _ _ hdj] at this
            have := (h2 v hp1).2.2 u hpv
            rw [upd_comm fs _ _ hji] at this
            rw [updD_no hDi]
            exact this

/-- The walk in the text's order. -/
def wpSpec (P : Program) (md : Region.Mode) (ops : Array Oper) (C : World → Prop) (S : Specs) (D : Nat → Bool) (Q : Act → Facts → Prop) : Nat → List Oper → Act → Facts → Prop
  | _, [], a, fs => Q a fs
  | k, o :: rest, a, fs => match S k with
    | none => if Region.wanted o (yielded ops a.tmps) then plainB o = true ∧ o.quiet P a C (fun a' => wpSpec P md ops C S D Q (k + 1) rest a' fs) else wpSpec P md ops C S D Q (k + 1) rest (a.put o.dst undef) fs
    | some Φ => Region.wanted o (yielded ops a.tmps) = true ∧ specStep P md ops C D k o Φ a fs ∧ ∀ v, Poss C (updD D fs k (Φ.2 (viewS a Φ.1) v)) → wpSpec P md ops C S D Q (k + 1) rest (a.put o.dst v) (updD D fs k (Φ.2 (viewS a Φ.1) v))

theorem wpAnyR_lex {n g : Nat} {Q : Act → Facts → Prop} {w0 : World} (hw0 : C w0) (hbar : Barred md ops S D) (hvw : Viewed md ops S) (hlast : Lasting S) (hsel : Region.noSelect ops = true)
    (hlt : ∀ i, i < n → ∀ listed, HeadInv md ops n listed → listed.getD i true = false → ∀ j ∈ Region.ready md ops listed, j < n) :
    ∀ (l : List Oper) (k : Nat) (listed : Array Bool) (a : Act) (fs : Facts), (∀ j, j < l.length → l[j]? = ops[k + j]?) → k + l.length = n → HeadInv md ops n listed → Poss C fs → Kept fs → Only listed fs →
    Region.lexHead md ops g l.length k listed = true → wpSpec P md ops C S D Q k l a fs →
    wpAnyR P md ops C S D n (fun listed' a' fs' => Region.seqB md ops g n listed' = true ∧ Q a' fs') l.length listed a fs
  | [], k, listed, a, fs, _, hk, _, _, _, _, hB, h => by
    have : k = n := by simpa using hk
    subst this
    exact ⟨by simpa [Region.lexHead] using hB, h⟩
  | o :: l, k, listed, a, fs, hl, hk, inv, hps, hkp, hon, hB, h => by
    have h0 : ops[k]? = some o := by simpa using (hl 0 (by simp)).symm
    simp only [List.length_cons, Region.lexHead, Bool.and_eq_true] at hB
    obtain ⟨⟨hr, hf⟩, hB'⟩ := hB
    have hkn : k < n := by simp only [List.length_cons] at hk; omega
    have hr' : k ∈ Region.ready md ops listed := by simpa using hr
    have again := fun a' fs' q1 q2 q3 => wpAnyR_lex (g := g) (Q := Q) hw0 hbar hvw hlast hsel hlt l (k + 1) (listed.setIfInBounds k true) a' fs' (fun j hj => by have := hl (j + 1) (by simp; omega); simpa [Nat.add_assoc, Nat.add_comm 1 j] using this) (by simp only [List.length_cons] at hk; omega) (inv.set hr' hkn) q1 q2 q3 hB'
    refine wpAnyR_first hw0 hbar hvw hlast h0 (Region.noSelect_spec hsel) (hlt k hkn) hkn (fun listed' a' fs' hL => seqB_ready hL.1) l.length listed a fs inv (Region.free_spec h0 hf) hr' hps hkp hon ?_
    unfold rOp
    rw [h0]
    unfold wpSpec at h
    simp only
    cases hS : S k with
    | none =>
      rw [hS] at h
      simp only at h ⊢
      split
      · rename_i hw
        rw [if_pos hw] at h
        exact ⟨h.1, Oper.quiet_mono (fun a' h' => again a' fs hps hkp (hon.set k) h') h.2⟩
      · rename_i hw
        rw [if_neg hw] at h
        exact again _ _ hps hkp (hon.set k) h
    | some Φ =>
      rw [hS] at h
      simp only at h ⊢
      exact ⟨h.1, h.2.1, fun v hv => again _ _ hv (hkp.updD (hlast k Φ hS _ v)) (hon.upd k _) (h.2.2 v hv)⟩

theorem wp_of_gives {o : Oper} {a : Act} {w : World} {R : Value → World → Prop} {K : Act → World → Prop} {Q : Exit → Act → World → Prop} (h : Oper.gives P o a w R) (hK : ∀ v w', R v w' → K (a.put o.dst v) w') : o.wp P a w K Q := by
  unfold Oper.gives at h
  unfold Oper.wp
  generalize (execOp a.eval o).run P w = r at *
  cases r with
  | ok n w' =>
    cases n <;> simp only [Oper.upon] at h ⊢
    case value u => exact hK _ _ h
    case skip => exact hK _ _ h
    case enter f args => exact h.mono fun e w'' ⟨v, he, hr⟩ => by subst he; exact hK _ _ hr
  | halt x w' => exact h.elim

theorem wpAny_of_R {n g : Nat} {L : Array Bool → Act → Facts → Prop} {Q' : Exit → Act → World → Prop} (hlast : Lasting S)
    (hL : ∀ listed a fs w, C w → (∀ d, fs d w) → L listed a fs → wpAny P md ops Q' g listed a w) :
    ∀ (f : Nat) (listed : Array Bool) (a : Act) (fs : Facts) (w : World), C w → (∀ d, fs d w) → Kept fs → wpAnyR P md ops C S D n L f listed a fs → wpAny P md ops Q' (f + g) listed a w
  | 0, listed, a, fs, w, hw, hf, hk, h => by rw [Nat.zero_add]; exact hL _ _ _ _ hw hf h
  | f + 1, listed, a, fs, w, hw, hf, hk, h => by
    rw [show f + 1 + g = (f + g) + 1 by omega]
    refine ⟨fun h0 => absurd h0 h.1, fun i hi => ?_⟩
    have h1 := (h.2 i hi).2
    unfold rOp at h1
    unfold wpOp
    cases ho : ops[i]? with
    | none =>
      rw [ho] at h1
      exact wpAny_of_R hlast hL f _ _ _ _ hw hf hk h1
    | some o =>
      rw [ho] at h1
      simp only at h1 ⊢
      cases hS : S i with
      | none =>
        rw [hS] at h1
        simp only at h1
        split
        · rename_i hwd
          rw [if_pos hwd] at h1
          obtain ⟨hp, v, hv, hK⟩ := h1
          left
          have h3 := hv w hw
          unfold Oper.quietAt at h3
          unfold Oper.wp
          cases hr : (execOp a.eval o).run P w with
          | ok m w' =>
            obtain ⟨x, rfl⟩ := plain_value hp _ _ _ _ hr
            rw [hr] at h3
            simp only [Oper.quietUpon] at h3
            simp only [Oper.upon]
            rw [h3.1, h3.2]
            exact wpAny_of_R hlast hL f _ _ _ _ hw hf hk hK
          | halt x w' => rw [hr] at h3; simp only [Oper.quietUpon] at h3
        · rename_i hwd
          rw [if_neg hwd] at h1
          exact wpAny_of_R hlast hL f _ _ _ _ hw hf hk h1
      | some Φ =>
        rw [hS] at h1
        simp only at h1
        obtain ⟨hwd, hst, hK⟩ := h1
        rw [if_pos hwd]
        left
        refine wp_of_gives (hst w hw fun d _ => hf d) fun v w' ⟨hC', hb, hΦ⟩ => ?_
        have hf' := facts_behind hf hk hb hΦ
        exact wpAny_of_R hlast hL f _ _ _ _ hC' hf' (hk.updD (hlast i Φ hS _ v)) (hK v ⟨w', hC', hf'⟩)

def noFacts : Facts := fun _ _ => True

/-- A region with a head of specified operations, and a chain behind it. -/
theorem wp_region_spec_tail {id : Nat} {Q : Exit → Act → World → Prop} {a : Act} {w : World} {l : List Oper} (n : Nat) (hm : P.follows .mixedOrders = true) (hB : Region.lexTailB .any l.toArray n = true)
    (hC : C { w with drawn := w.drawn + 1 }) (hlast : Lasting S) (hbar : Barred .any l.toArray S D) (hvw : Viewed .any l.toArray S)
    (h : wpSpec P .any l.toArray C S D (fun a' fs' => ∀ w', C w' → (∀ d, fs' d w') → wpList P l.toArray Q (l.drop n) a' w') 0 (l.take n) a noFacts) : (Code.region id l.toArray true).wp P Q a w := by
  simp only [Region.lexTailB, Bool.and_eq_true, decide_eq_true_eq] at hB
  obtain ⟨⟨⟨⟨hsel, hn⟩, hs⟩, hc⟩, hlex⟩ := hB
  have hn' : n < l.length := by simpa using hn
  have htl : (l.take n).length = n := by simp; omega
  have hdl : (l.drop n).length = l.toArray.size - n := by simp
  have inv0 : HeadInv .any l.toArray n (Array.replicate l.toArray.size false) :=
    ⟨by simp, fun j oj _ hl => (by rw [getD_replicate_false] at hl; cases hl), fun t _ ht => getD_in (by simpa using ht) (getD_replicate_false _ _)⟩
  have H := wpAnyR_lex (md := .any) (g := l.toArray.size - n) hC hbar hvw hlast hsel (fun i hi listed inv hun j hj => by
      rcases Nat.lt_or_ge j n with h' | h'
      · exact h'
      · exact absurd hj (tail_waits hs hc hn inv _ i rfl hi hun j h')) (l.take n) 0 _ a noFacts (fun j hj => by
    have hj' : j < n := by rw [htl] at hj; exact hj
    simp [hj']) (by simpa using htl) inv0 ⟨_, hC, fun _ => trivial⟩ (fun _ _ _ _ _ => trivial) (fun _ _ _ => trivial) (by rw [htl]; exact hlex) h
  refine wp_region_any hm ?_
  have := wpAny_of_R (Q' := Q) (g := l.toArray.size - n) hlast (fun listed a' fs' w' hw' hf' hL => by
    have := wpAny_of_seq (md := .any) (Q' := Q) (l.drop n) n listed a' w' (fun j => by simp [List.getElem?_drop]) (by rw [hdl]; exact hL.1) (hL.2 w' hw' hf')
    rwa [hdl] at this) _ _ _ _ _ hC (fun _ => trivial) (fun _ _ _ _ _ => trivial) H
  rw [htl, show n + (l.toArray.size - n) = l.toArray.size by omega] at this
  exact this
/-- A region of specified operations alone. -/
def lexAllB (md : Region.Mode) (ops : Array Oper) : Bool := Region.noSelect ops && Region.lexHead md ops 0 ops.size 0 (Array.replicate ops.size false)
theorem wp_region_spec {id : Nat} {Q : Exit → Act → World → Prop} {a : Act} {w : World} {l : List Oper} (hm : P.follows .mixedOrders = true) (hB : lexAllB .any l.toArray = true)
    (hC : C { w with drawn := w.drawn + 1 }) (hlast : Lasting S) (hbar : Barred .any l.toArray S D) (hvw : Viewed .any l.toArray S)
    (h : wpSpec P .any l.toArray C S D (fun a' fs' => ∀ w', C w' → (∀ d, fs' d w') → Q .normal a' w') 0 l a noFacts) : (Code.region id l.toArray true).wp P Q a w := by
  simp only [lexAllB, Bool.and_eq_true] at hB
  obtain ⟨hsel, hlex⟩ := hB
  have inv0 : HeadInv .any l.toArray l.length (Array.replicate l.toArray.size false) :=
    ⟨by simp, fun j oj _ hl => (by rw [getD_replicate_false] at hl; cases hl), fun t _ ht => getD_in (by simpa using ht) (getD_replicate_false _ _)⟩
  have H := wpAnyR_lex (md := .any) (n := l.length) (g := 0) hC hbar hvw hlast hsel (fun i hi listed inv hun j hj => by
      obtain ⟨_, o, ho, _⟩ := mem_ready.1 hj
      have := (Array.getElem?_eq_some_iff.1 ho).1
      simpa using this) l 0 _ a noFacts (fun j hj => by simp) (by simp) inv0 ⟨_, hC, fun _ => trivial⟩ (fun _ _ _ _ _ => trivial) (fun _ _ _ => trivial) (by simpa using hlex) h
  refine wp_region_any hm ?_
  have := wpAny_of_R (Q' := Q) (g := 0) hlast (fun listed a' fs' w' hw' hf' hL => by
    have := wpAny_of_seq (md := .any) (P := P) (Q' := Q) [] l.length listed a' w' (fun j => by simp) hL.1 (hL.2 w' hw' hf')
    exact this) _ _ _ _ _ hC (fun _ => trivial) (fun _ _ _ _ _ => trivial) H
  simpa using this

/-- The specifications, as a list. -/
def planS : List (Nat × SpecE) → Specs
  | [], _ => none
  | (i, Φ) :: r, k => cond (Nat.beq i k) (some Φ) (planS r k)
def LastL : List (Nat × SpecE) → Prop
  | [] => True
  | p :: r => (∀ l v w w', p.2.2 l v w → Below w.heap.size w w' → p.2.2 l v w') ∧ LastL r
theorem LastL.lasting : ∀ {l : List (Nat × SpecE)}, LastL l → Lasting (planS l)
  | [], _, i, Φ, h => by cases h
  | (j, Ψ) :: r, hl, i, Φ, h => by
    unfold planS at h
    cases hb : Nat.beq j i with
    | true => rw [hb] at h; cases h; exact hl.1
    | false => rw [hb] at h; exact LastL.lasting hl.2 i Φ h

theorem wpSpec_quiet {Q : Act → Facts → Prop} : ∀ (m : Nat) {k : Nat} {l : List Oper} {a : Act} {fs : Facts} (hS : ((List.range m).all fun i => (S (k + i)).isNone) = true) (hp : ((l.take m).all plainB) = true)
    (h : wpQuiet P ops C (fun a' => wpSpec P md ops C S D Q (k + m) (l.drop m) a' fs) (l.take m) a), wpSpec P md ops C S D Q k l a fs
  | 0, k, l, a, fs, _, _, h => h
  | m + 1, k, [], a, fs, _, _, h => h
  | m + 1, k, o :: l, a, fs, hS, hp, h => by
    have hS0 : S k = none := by
      have := List.all_eq_true.1 hS 0 (by simp)
      simpa using this
    simp only [List.take_succ_cons, List.all_cons, Bool.and_eq_true] at hp
    have again : ∀ a', wpQuiet P ops C (fun a' => wpSpec P md ops C S D Q (k + (m + 1)) (List.drop (m + 1) (o :: l)) a' fs) (l.take m) a' → wpSpec P md ops C S D Q (k + 1) l a' fs := fun a' h' =>
      wpSpec_quiet m (k := k + 1) (List.all_eq_true.2 fun i hi => by
        have := List.all_eq_true.1 hS (i + 1) (by simp at hi ⊢; exact hi)
        rwa [show k + (i + 1) = k + 1 + i by omega] at this) hp.2 (by
        rw [show k + (m + 1) = k + 1 + m by omega] at h'
        exact h')
    unfold wpSpec
    rw [hS0]
    simp only
    simp only [List.take_succ_cons] at h
    unfold wpQuiet at h
    split
    · rename_i hw
      rw [if_pos hw] at h
      exact ⟨hp.1, Oper.quiet_mono again h⟩
    · rename_i hw
      rw [if_neg hw] at h
      exact again _ h
end

section
variable {P : Program} {ops : Array Oper} {md : Region.Mode} {S : Specs} {D : Nat → Bool}
/-- The class of worlds that are used here. -/
def OnW (w : World) : World → Prop := fun w' => ∃ p : Regrown, w' = wOn w p
theorem onW_below {w w' : World} : (∃ p : Regrown, w' = wOn w p) ↔ Below w.heap.size w w' := ⟨fun ⟨p, hp⟩ => hp ▸ below_later w p, later_of_below⟩
def dropS (ds : List Nat) (k : Nat) : Bool := ds.any fun d => Nat.beq d k
theorem planS_mem : ∀ {l : List (Nat × SpecE)} {k : Nat}, planS l k ≠ none → k ∈ l.map (·.1)
  | [], k, h => absurd rfl h
  | (i, Φ) :: r, k, h => by
    unfold planS at h
    cases hb : Nat.beq i k with
    | true => simp [Nat.eq_of_beq_eq_true hb]
    | false => rw [hb] at h; exact List.mem_cons_of_mem _ (planS_mem h)
theorem barred_of {l : List (Nat × SpecE)} {sp ds : List Nat} (hsp : l.map (·.1) = sp) (h : barB md ops sp ds = true) : Barred md ops (planS l) (dropS ds) := by
  intro i hi j hne hj
  obtain ⟨d, hd, he⟩ := List.any_eq_true.1 hi
  have := Nat.eq_of_beq_eq_true he
  subst this
  have h1 := List.all_eq_true.1 (List.all_eq_true.1 h d hd) j (hsp ▸ planS_mem hj)
  simp only [Bool.or_eq_true, beq_iff_eq, hne, false_or] at h1
  cases hb : Nat.blt j d with
  | true => rw [hb] at h1; exact .inl h1
  | false => rw [hb] at h1; exact .inr h1
/-- Whether the slots that specifications look at are written only by operations that they wait for. -/
def viewB (md : Region.Mode) (ops : Array Oper) (vs : List (Nat × List Tmp)) : Bool := vs.all fun p => p.2.all fun s => (List.range ops.size).all fun j => match ops[j]? with
  | some o => o.dst != some s || Region.waitsFor md ops p.1 j
  | none => true
theorem planS_in : ∀ {l : List (Nat × SpecE)} {k : Nat} {E : SpecE}, planS l k = some E → (k, E.1) ∈ l.map fun p => (p.1, p.2.1)
  | [], k, E, h => by cases h
  | (i, Φ) :: r, k, E, h => by
    unfold planS at h
    cases hb : Nat.beq i k with
    | true => rw [hb] at h; cases h; rw [Nat.eq_of_beq_eq_true hb]; simp
    | false => rw [hb] at h; exact List.mem_cons_of_mem _ (planS_in h)
theorem viewed_of {l : List (Nat × SpecE)} {vs : List (Nat × List Tmp)} (hvs : (l.map fun p => (p.1, p.2.1)) = vs) (h : viewB md ops vs = true) : Viewed md ops (planS l) := by
  intro i E hS j oj s hj hs hm
  have h1 := List.all_eq_true.1 (List.all_eq_true.1 (List.all_eq_true.1 h (i, E.1) (hvs ▸ planS_in hS)) s hm) j (List.mem_range.2 (Array.getElem?_eq_some_iff.1 hj).1)
  simp only [hj, hs, Bool.or_eq_true] at h1
  rcases h1 with h1 | h1
  · simp at h1
  · exact h1
theorem wpSpec_at {Q : Act → Facts → Prop} {w : World} {k : Nat} {o : Oper} {rest : List Oper} {a : Act} {fs : Facts} (l : List Value) (Φ : Value → World → Prop) {sl : List Tmp} {Ψ : List Value → Value → World → Prop} (hS : S k = some (sl, Ψ)) (hv : viewS a sl = l) (hΦ : Ψ l = Φ) (hw : Region.wanted o (yielded ops a.tmps) = true)
    (hst : ∀ w', Below w.heap.size w w' → (∀ d, Region.waitsFor md ops k d = true → fs d w') → Oper.gives P o a w' (fun v w'' => Below w'.heap.size w' w'' ∧ Φ v w''))
    (hD : D k = false) (h : ∀ v, (∃ w', Φ v w') → wpSpec P md ops (fun w' => ∃ p : Regrown, w' = wOn w p) S D Q (k + 1) rest (a.put o.dst v) (upd fs k (Φ v))) : wpSpec P md ops (fun w' => ∃ p : Regrown, w' = wOn w p) S D Q k (o :: rest) a fs := by
  unfold wpSpec
  rw [hS]
  refine ⟨hw, fun w' hw' hf => ?_, fun v hp => by
    simp only [updD_no hD, hv, hΦ] at hp ⊢
    obtain ⟨wp, _, hf⟩ := hp
    have h1 := hf k
    rw [upd_same] at h1
    exact h v ⟨wp, h1⟩⟩
  have hb := onW_below.1 hw'
  simp only [hv, hΦ]
  exact (hst w' hb hf).mono fun v w2 h1 => ⟨onW_below.2 (bchain hb h1.1), fun _ => h1.1, h1.2⟩
/-- An operation that may store into what its elders gave. -/
theorem wpSpec_atD {Q : Act → Facts → Prop} {w : World} {k : Nat} {o : Oper} {rest : List Oper} {a : Act} {fs : Facts} (l : List Value) (Φ : Value → World → Prop) {sl : List Tmp} {Ψ : List Value → Value → World → Prop} (hS : S k = some (sl, Ψ)) (hv : viewS a sl = l) (hΦ : Ψ l = Φ) (hw : Region.wanted o (yielded ops a.tmps) = true)
    (hst : ∀ w', Below w.heap.size w w' → (∀ d, Region.waitsFor md ops k d = true → fs d w') → Oper.gives P o a w' (fun v w'' => Below w.heap.size w' w'' ∧ Φ v w''))
    (hD : D k = true) (h : ∀ v, (∃ w', Φ v w') → wpSpec P md ops (fun w' => ∃ p : Regrown, w' = wOn w p) S D Q (k + 1) rest (a.put o.dst v) (upd (fun _ _ => True) k (Φ v))) : wpSpec P md ops (fun w' => ∃ p : Regrown, w' = wOn w p) S D Q k (o :: rest) a fs := by
  unfold wpSpec
  rw [hS]
  refine ⟨hw, fun w' hw' hf => ?_, fun v hp => by
    simp only [updD, hD, hv, hΦ, cond] at hp ⊢
    obtain ⟨wp, _, hf⟩ := hp
    have h1 := hf k
    rw [upd_same] at h1
    exact h v ⟨wp, h1⟩⟩
  have hb := onW_below.1 hw'
  simp only [hv, hΦ]
  exact (hst w' hb hf).mono fun v w2 h1 => ⟨onW_below.2 (hb.trans h1.1), (fun h => by rw [hD] at h; cases h), h1.2⟩
theorem wp_region_on_spec_tail {id : Nat} {Q : Exit → Act → World → Prop} {a : Act} {w : World} {l : List Oper} (pl : List (Nat × SpecE)) (sp ds : List Nat) (vs : List (Nat × List Tmp)) (n : Nat) (hm : P.follows .mixedOrders = true) (hB : Region.lexTailB .any l.toArray n = true) (hsp : pl.map (·.1) = sp) (hbar : barB .any l.toArray sp ds = true) (hvs : (pl.map fun p => (p.1, p.2.1)) = vs) (hview : viewB .any l.toArray vs = true) (hlast : LastL pl)
    (h : wpSpec P .any l.toArray (fun w' => ∃ p : Regrown, w' = wOn w p) (planS pl) (dropS ds) (fun a' fs' => ∀ w', Below w.heap.size w w' → (∀ d, fs' d w') → wpList P l.toArray Q (l.drop n) a' w') 0 (l.take n) a noFacts) : (Code.region id l.toArray true).wp P Q a w := by
  have e : (fun (a' : Act) (fs' : Facts) => ∀ w', Below w.heap.size w w' → (∀ d, fs' d w') → wpList P l.toArray Q (l.drop n) a' w') = (fun a' fs' => ∀ w', (∃ p : Regrown, w' = wOn w p) → (∀ d, fs' d w') → wpList P l.toArray Q (l.drop n) a' w') := by
    funext a' fs'
    exact propext ⟨fun h w' hp => h w' (onW_below.1 hp), fun h w' hb => h w' (onW_below.2 hb)⟩
  rw [e] at h
  exact wp_region_spec_tail (C := fun w' => ∃ p : Regrown, w' = wOn w p) n hm hB ⟨⟨w.drawn + 1, #[]⟩, by unfold wOn; rw [grow_empty]; rfl⟩ hlast.lasting (barred_of hsp hbar) (viewed_of hvs hview) h
theorem wp_region_on_spec {id : Nat} {Q : Exit → Act → World → Prop} {a : Act} {w : World} {l : List Oper} (pl : List (Nat × SpecE)) (sp ds : List Nat) (vs : List (Nat × List Tmp)) (hm : P.follows .mixedOrders = true) (hB : lexAllB .any l.toArray = true) (hsp : pl.map (·.1) = sp) (hbar : barB .any l.toArray sp ds = true) (hvs : (pl.map fun p => (p.1, p.2.1)) = vs) (hview : viewB .any l.toArray vs = true) (hlast : LastL pl)
    (h : wpSpec P .any l.toArray (fun w' => ∃ p : Regrown, w' = wOn w p) (planS pl) (dropS ds) (fun a' fs' => ∀ w', Below w.heap.size w w' → (∀ d, fs' d w') → Q .normal a' w') 0 l a noFacts) : (Code.region id l.toArray true).wp P Q a w := by
  have e : (fun (a' : Act) (fs' : Facts) => ∀ w', Below w.heap.size w w' → (∀ d, fs' d w') → Q .normal a' w') = (fun a' fs' => ∀ w', (∃ p : Regrown, w' = wOn w p) → (∀ d, fs' d w') → Q .normal a' w') := by
    funext a' fs'
    exact propext ⟨fun h w' hp => h w' (onW_below.1 hp), fun h w' hb => h w' (onW_below.2 hb)⟩
  rw [e] at h
  exact wp_region_spec (C := fun w' => ∃ p : Regrown, w' = wOn w p) hm hB ⟨⟨w.drawn + 1, #[]⟩, by unfold wOn; rw [grow_empty]; rfl⟩ hlast.lasting (barred_of hsp hbar) (viewed_of hvs hview) h

/-- A call of a Go function. -/
def entersB (P : Program) (f : FuncId) : Bool := match P.funcs[f]? with
  | some fn => !(fn.name == "runtime.NumGoroutine") && !fn.body.isNone
  | none => false
theorem run_enters {f : FuncId} (h : entersB P f = true) (args : Array Value) (w : World) : (callFunc f args).run P w = .ok (.enter f args) w := by
  unfold entersB at h
  cases hf : P.funcs[f]? with
  | none => rw [hf] at h; cases h
  | some fn =>
    rw [hf] at h
    simp only [Bool.and_eq_true, Bool.not_eq_true'] at h
    have h1 : fn.name ≠ "runtime.NumGoroutine" := by simpa using h.1
    have h2 : ¬ fn.body = none := by intro e; rw [e] at h; simp at h
    simp [callFunc, hf, h1, h2]
theorem gives_call {o : Oper} {a : Act} {w : World} {R : Value → World → Prop} (f : FuncId) (args : Array Operand) (ts : Array TypeId) (vals : Array Value) (ho : o.op = .call { callee := .value (.func f), args := args, argTypes := ts })
    (hf : entersB P f = true) (hv : args.map a.eval = vals) (h : Calls P f vals w (fun e w' => ∃ v, e = .returned v ∧ R v w')) : Oper.gives P o a w R := by
  unfold Oper.gives
  have e := run_enters hf vals w
  simp [execOp, ho, resolve, Deferred.ofValue, Act.eval, invoke, hv, e]
  exact h
theorem gives_append {o : Oper} {a : Act} {w : World} {R : Value → World → Prop} (s x : Operand) (t tn : TypeId) (ho : o.op = .call { callee := .builtin .append, args := #[s, x], argTypes := #[t, tn] }) (v u : Value) (hs : a.eval s = v) (hx : a.eval x = u)
    (h : ∃ r w', (Builtin.append_ #[t, tn] o.type #[v, u]).run P w = .ok r w' ∧ R r w') : Oper.gives P o a w R := by
  obtain ⟨r, w', hr, h⟩ := h
  unfold Oper.gives
  simp [execOp, ho, resolve, invoke, builtin, hs, hx, hr, Result.andThen]
  exact h
theorem gives_run {o : Oper} {a : Act} {w : World} {R : Value → World → Prop} (u : Value) (w' : World) (hr : (execOp a.eval o).run P w = .ok (.value u) w') (h : R u w') : Oper.gives P o a w R := by
  unfold Oper.gives
  rw [hr]
  exact h
end

/-- Specifications of values. -/
def VIs (x : Value) : Value → World → Prop := fun v _ => v = x
theorem VIs.last {x : Value} (v : Value) (w w' : World) (h : VIs x v w) (_ : Below w.heap.size w w') : VIs x v w' := h
def VEmpty : Value → World → Prop := fun v _ => ∃ ao, v = .slice ao 0 0
theorem VEmpty.last (v : Value) (w w' : World) (h : VEmpty v w) (_ : Below w.heap.size w w') : VEmpty v w' := h
def VCells (n : Nat) (cs : List Value) : Value → World → Prop := fun v w => ∃ a c, v = .slice a n c ∧ n ≤ c ∧ CellsAt w a cs
theorem VCells.last {n : Nat} {cs : List Value} (v : Value) (w w' : World) (h : VCells n cs v w) (hb : Below w.heap.size w w') : VCells n cs v w' :=
  let ⟨a, c, hv, hn, hc⟩ := h
  ⟨a, c, hv, hn, hc.later hb⟩
def VRow (n : Nat) (cs : List Value) : Value → World → Prop := fun v w => ∃ a c, v = .slice a n c ∧ CellsAt w a cs
theorem VRow.last {n : Nat} {cs : List Value} (v : Value) (w w' : World) (h : VRow n cs v w) (hb : Below w.heap.size w w') : VRow n cs v w' :=
  let ⟨a, c, hv, hc⟩ := h
  ⟨a, c, hv, hc.later hb⟩
theorem VCells.row {n : Nat} {cs : List Value} {v : Value} {w : World} (h : VCells n cs v w) : VRow n cs v w :=
  let ⟨a, c, hv, _, hc⟩ := h
  ⟨a, c, hv, hc⟩
def VCup (B : Nat) (e : TypeId) (size n : Nat) (cs : List Value) : Value → World → Prop := fun v w => ∃ a c, v = .slice a n c ∧ CupX w B e size (.slice a n c) n cs
theorem VCup.last {B : Nat} {e : TypeId} {size n : Nat} {cs : List Value} (v : Value) (w w' : World) (h : VCup B e size n cs v w) (hb : Below w.heap.size w w') : VCup B e size n cs v w' :=
  let ⟨a, c, hv, hc⟩ := h
  ⟨a, c, hv, hc.later hb⟩
def VOwn (B : Nat) (e : TypeId) (size n : Nat) (cs : List Value) : Value → World → Prop := fun v w => ∃ a c, v = .slice a n c ∧ OwnX w B e size (.slice a n c) n cs
theorem VOwn.last {B : Nat} {e : TypeId} {size n : Nat} {cs : List Value} (v : Value) (w w' : World) (h : VOwn B e size n cs v w) (hb : Below w.heap.size w w') : VOwn B e size n cs v w' :=
  let ⟨a, c, hv, hc⟩ := h
  ⟨a, c, hv, hc.later hb⟩
theorem VOwn.cells {B : Nat} {e : TypeId} {size n : Nat} {cs : List Value} {v : Value} {w : World} (h : VOwn B e size n cs v w) : VCells n cs v w := by
  obtain ⟨a, c, rfl, h⟩ := h
  obtain ⟨_, _, hv, h1, h2⟩ := h.cells
  cases hv; exact ⟨_, _, rfl, h1, h2⟩
theorem VCup.cells {B : Nat} {e : TypeId} {size n : Nat} {cs : List Value} {v : Value} {w : World} (h : VCup B e size n cs v w) : VCells n cs v w := by
  obtain ⟨a, c, rfl, h⟩ := h
  exact ⟨_, _, rfl, h.cells.1, h.cells.2⟩
section
variable {P : Program}
/-- 'append([]T{}, ..)' and appends on what it gave. -/
theorem gives_append_cup {o : Oper} {a : Act} {w : World} (s x : Operand) (t : TypeId) (ho : o.op = .call { callee := .builtin .append, args := #[s, x], argTypes := #[t, t] }) (v u : Value) (hs : a.eval s = v) (hx : a.eval x = u)
    (base : Nat) (e : TypeId) (i : TypeInfo) (z : Value) (size bytes : Nat) (ht : P.underlying t = some (.slice e)) (hi : P.info? e = some i) (hz : i.zero = some z)
    (hsize : i.size = size) (hby : i.bytes = bytes) (hzs : z.cells.size = size) (hsz : 0 < size)
    (n : Nat) (xs : List Value) (hv : VCup base e size n xs v w) (m : Nat) (news : List Value) (hu : VRow m news u w) (hl : news.length = m * size) (h1 : ∀ u ∈ news, u.oneCell' = true)
    (N : Nat) (hN : n + m = N) (h63 : N ≤ maxLen) (hbytes : N * bytes ≤ 140737488355328) (hbase : base ≤ w.heap.size) :
    Oper.gives P o a w (fun r w' => Below base w w' ∧ VCup base e size N (xs ++ news) r w') := by
  obtain ⟨av, cv, rfl, hc⟩ := hv
  obtain ⟨au, cu, rfl, hn⟩ := hu
  subst hN
  obtain ⟨a', c', w', hr, h2, h3⟩ := run_append_cup (P := P) w base t o.type e i z size bytes ht hi hz hsize hby hzs hsz _ n xs hc au m cu news hl hn h1 h63 hbytes hbase
  exact gives_append s x t t ho _ _ hs hx ⟨_, _, hr, h3, _, _, rfl, h2⟩
theorem gives_append_c0 {o : Oper} {a : Act} {w : World} (s x : Operand) (t : TypeId) (ho : o.op = .call { callee := .builtin .append, args := #[s, x], argTypes := #[t, t] }) (v u : Value) (hs : a.eval s = v) (hx : a.eval x = u)
    (base : Nat) (e : TypeId) (i : TypeInfo) (z : Value) (size bytes : Nat) (ht : P.underlying t = some (.slice e)) (hi : P.info? e = some i) (hz : i.zero = some z)
    (hsize : i.size = size) (hby : i.bytes = bytes) (hzs : z.cells.size = size) (hsz : 0 < size)
    (hv : VEmpty v w) (m : Nat) (news : List Value) (hu : VRow m news u w) (hl : news.length = m * size) (h1 : ∀ u ∈ news, u.oneCell' = true)
    (h63 : m ≤ maxLen) (hbytes : m * bytes ≤ 140737488355328) (hbase : base ≤ w.heap.size) :
    Oper.gives P o a w (fun r w' => Below w.heap.size w w' ∧ VCup base e size m news r w') := by
  obtain ⟨av, rfl⟩ := hv
  obtain ⟨au, cu, rfl, hn⟩ := hu
  by_cases hm : m = 0
  · subst hm
    obtain rfl : news = [] := List.eq_nil_of_length_eq_zero (by simpa using hl)
    refine gives_append s x t t ho _ _ hs hx ⟨_, w, run_append_zero w t o.type e i ht hi av au 0 0 cu (Nat.le_refl _), Below.refl _ _, _, _, rfl, CupX.zero _ _ _ _ _⟩
  · obtain ⟨a', c', w', hr, h2, h3⟩ := run_append_c0 (P := P) w t o.type e i z size bytes ht hi hz hsize hby hzs hsz av au m cu news hl hn h1 h63 hbytes
    exact gives_append s x t t ho _ _ hs hx ⟨_, _, hr, h3, _, _, rfl, .inl ((h2 (by omega)).mono hbase)⟩
/-- A new slice of given elements. -/
theorem VCells.of {w : World} {a : Option Addr} {n c : Nat} {cs : List Value} (hn : n ≤ c) (h : CellsAt w a cs) : VCells n cs (.slice a n c) w := ⟨a, c, rfl, hn, h⟩
end

end Go.Proofs.YthdldmkeoglflaaDoor
