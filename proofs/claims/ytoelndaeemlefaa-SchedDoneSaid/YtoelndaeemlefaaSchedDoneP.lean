/- Rounds: every pick takes a step, all tasks are done, and they are fair. -/
import Derived.Test.YtoelndaeemlefaaSchedTheory
namespace Go.Proofs.Ytoelndaeemlefaa
open Go.RowKit
set_option linter.unusedSimpArgs false
set_option linter.unusedVariables false

theorem scan_none {l a : List Int} {f : Nat} : ∀ {c k : Nat}, scan l a f k c = none → ∀ e, e < c → can l a ((f + (k + e)) % l.length) = false
  | 0, k, _, e, he => by omega
  | c + 1, k, h, e, he => by
    unfold scan at h
    split at h
    · cases h
    · rename_i hc
      cases e with
      | zero => simpa using hc
      | succ e =>
        have := scan_none (l := l) (a := a) (f := f) h e (by omega)
        rwa [show k + (e + 1) = k + 1 + e from by omega]
theorem scan_first {l a : List Int} {f i : Nat} : ∀ {c k : Nat}, scan l a f k c = some i → ∃ e, e < c ∧ (f + (k + e)) % l.length = i ∧ ∀ e', e' < e → can l a ((f + (k + e')) % l.length) = false
  | 0, k, h => by simp [scan] at h
  | c + 1, k, h => by
    unfold scan at h
    split at h
    · cases h
      exact ⟨0, by omega, rfl, fun e' he => by omega⟩
    · rename_i hc
      obtain ⟨e, h1, h2, h3⟩ := scan_first (l := l) (a := a) (f := f) h
      refine ⟨e + 1, by omega, by rw [← h2, show k + (e + 1) = k + 1 + e from by omega], fun e' he => ?_⟩
      cases e' with
      | zero => simpa using hc
      | succ e' =>
        have := h3 e' (by omega)
        rwa [show k + (e' + 1) = k + 1 + e' from by omega]
theorem nxt_none {l a : List Int} {f : Nat} (h : nxt l a f = none) (i : Nat) (hi : i < l.length) : can l a i = false := by
  have := scan_none h ((i + l.length - f % l.length) % l.length) (Nat.mod_lt _ (by omega))
  rw [Nat.zero_add, ← Nat.mod_add_mod, Nat.add_mod_mod] at this
  have hf := Nat.mod_lt f (show 0 < l.length by omega)
  rw [show f % l.length + (i + l.length - f % l.length) = i + l.length from by omega, Nat.add_mod_right, Nat.mod_eq_of_lt hi] at this
  exact this
theorem g_cons_succ (x : Int) (xs : List Int) (j : Nat) : g (x :: xs) (j + 1) = g xs j := by simp [g]
theorem runAt_cons {a l xs : List Int} {i : Nat} (hc : can l a i = true) (j : Nat) :
    (runAt a ((i : Int) :: xs) l (j + 1)).1 = (runAt a xs (l.set i (g l i - 1)) j).1 ∧ (runAt a ((i : Int) :: xs) l (j + 1)).2.length = (runAt a xs (l.set i (g l i - 1)) j).2.length + 1 := by
  have h1 : runAt a ((i : Int) :: xs) l 1 = (l.set i (g l i - 1), [(0 : Int)]) := by
    rw [runAt_succ]; simp [runAt, g, hc]
  obtain ⟨h2, h3⟩ := runAt_drop a ((i : Int) :: xs) l 1 j
  rw [h1] at h2 h3
  simp only [List.drop_succ_cons, List.drop_zero] at h2 h3
  rw [show 1 + j = j + 1 from by omega] at h2 h3
  refine ⟨h2, ?_⟩
  rw [h3]; simp
theorem skip_cons {a l xs : List Int} {i : Nat} (hc : can l a i = true) (k j : Nat) : skip l a ((i : Int) :: xs) k (j + 1) = skip (l.set i (g l i - 1)) a xs k j := by
  unfold skip
  rw [(runAt_cons hc j).1, g_cons_succ]
/-- Rounds: as many picks as asked or as there are steps, each of which takes a step. -/
theorem rr_done {a : List Int} : ∀ (m : Nat) (l : List Int) (f : Nat), TV l a → 0 < l.length →
    ((rr a m l f).length : Int) = min (m : Int) (sumTo l l.length) ∧ (runAt a (rr a m l f) l (rr a m l f).length).2.length = (rr a m l f).length ∧ ∀ j, j < (rr a m l f).length → 0 ≤ g (rr a m l f) j ∧ g (rr a m l f) j < l.length
  | 0, l, f, h, _ => by
    have := sumTo_nonneg (fun i hi => (h.nth i hi).1) l.length (Nat.le_refl _)
    refine ⟨?_, by simp [rr, runAt], fun j hj => by simp [rr] at hj⟩
    simp only [rr, List.length_nil]
    omega
  | m + 1, l, f, h, hp => by
    have h0 := sumTo_nonneg (fun i hi => (h.nth i hi).1) l.length (Nat.le_refl _)
    cases hn : nxt l a f with
    | none =>
      rw [rr_none hn]
      have hs : ¬ 0 < sumTo l l.length := fun hs => by
        obtain ⟨i, h1, h2⟩ := some_can h hs
        rw [nxt_none hn i h1] at h2
        cases h2
      refine ⟨by simp only [List.length_nil]; omega, by simp [runAt], fun j hj => by simp at hj⟩
    | some i =>
      obtain ⟨h1, h2⟩ := scan_some hp hn
      rw [rr_some hn]
      have h3 := h.step h1 h2
      obtain ⟨r1, r2, r3⟩ := rr_done m (l.set i (g l i - 1)) (i + 1) h3 (by simpa using hp)
      have hs := sumTo_set (l := l) (v := g l i - 1) h1 l.length
      rw [if_pos h1] at hs
      rw [List.length_set] at r1 r3
      have hpos := can_left h2
      have hge := sumTo_ge (fun i hi => (h.nth i hi).1) l.length (Nat.le_refl _) h1
      refine ⟨?_, ?_, fun j hj => ?_⟩
      · simp only [List.length_cons]
        push_cast
        omega
      · rw [List.length_cons, (runAt_cons h2 _).2, r2]
      · cases j with
        | zero => simp [g]; omega
        | succ j => rw [g_cons_succ]; exact r3 j (by simpa using hj)

/-- The way from f on to k, going around. -/
def dist (n f k : Nat) : Nat := (k + (n - f % n)) % n
theorem dist_spec {n f k : Nat} (hk : k < n) : (f + dist n f k) % n = k := by
  unfold dist
  have hf := Nat.mod_lt f (show 0 < n by omega)
  rw [Nat.add_mod_mod, ← Nat.mod_add_mod, show f % n + (k + (n - f % n)) = k + n from by omega, Nat.add_mod_right, Nat.mod_eq_of_lt hk]
theorem dist_lt {n f k : Nat} (hk : k < n) : dist n f k < n := Nat.mod_lt _ (by omega)
theorem mod_add_inj {n q d e : Nat} (hq : q < n) (hd : d < n) (he : e < n) (h : (q + d) % n = (q + e) % n) : d = e := by
  have key : ∀ x, x < n → (q + x) % n = if q + x < n then q + x else q + x - n := by
    intro x hx
    split
    · exact Nat.mod_eq_of_lt ‹_›
    · rw [Nat.mod_eq_sub_mod (by omega), Nat.mod_eq_of_lt (by omega)]
  rw [key d hd, key e he] at h
  split at h <;> split at h <;> omega
theorem dist_uniq {n f k e : Nat} (he : e < n) (h : (f + e) % n = k) : dist n f k = e := by
  have hk : k < n := by rw [← h]; exact Nat.mod_lt _ (by omega)
  have h1 := dist_spec (f := f) hk
  have h2 := dist_lt (f := f) hk
  rw [← h] at h1
  have h3 : (f + dist n f k) % n = (f + e) % n := by rw [← h]; exact h1
  have hf := Nat.mod_lt f (show 0 < n by omega)
  rw [Nat.add_mod f (dist n f k), Nat.add_mod f e, Nat.mod_eq_of_lt h2, Nat.mod_eq_of_lt he] at h3
  exact mod_add_inj hf h2 he h3
/-- A task that stays runnable is picked as soon as the round comes to it. -/
theorem rr_reach {a : List Int} {k : Nat} : ∀ (t m : Nat) (l : List Int) (f : Nat), TV l a → k < l.length → dist l.length f k ≤ t → t < (rr a m l f).length → ∃ d, d ≤ t ∧ skip l a (rr a m l f) k d = false
  | t, 0, l, f, _, _, _, ht => by simp [rr] at ht
  | t, m + 1, l, f, h, hk, hd, ht => by
    have hp : 0 < l.length := by omega
    cases hn : nxt l a f with
    | none => rw [rr_none hn] at ht; simp at ht
    | some i =>
      rw [rr_some hn] at ht ⊢
      obtain ⟨h1, h2⟩ := scan_some hp hn
      by_cases hs : skip l a ((i : Int) :: rr a m (l.set i (g l i - 1)) (i + 1)) k 0 = false
      · exact ⟨0, by omega, hs⟩
      · simp only [skip, runAt, Bool.not_eq_false, Bool.and_eq_true, Bool.not_eq_true', beq_eq_false_iff_ne] at hs
        obtain ⟨s1, s2⟩ := hs
        have hik : i ≠ k := fun e => s2 (by simp [g, e])
        obtain ⟨e, e1, e2, e3⟩ := scan_first hn
        rw [Nat.zero_add] at e2
        have hdi := dist_uniq e1 e2
        have hek : e < dist l.length f k := by
          apply Classical.byContradiction
          intro hne
          by_cases heq : dist l.length f k = e
          · have := dist_spec (f := f) hk
            rw [heq, e2] at this
            exact hik this
          · have := e3 (dist l.length f k) (by omega)
            rw [Nat.zero_add, dist_spec hk, s1] at this
            cases this
        have hd2 : dist l.length (i + 1) k = dist l.length f k - e - 1 := by
          apply dist_uniq
          · have := dist_lt (f := f) hk; omega
          · rw [← e2, Nat.add_assoc, Nat.mod_add_mod, show f + e + (1 + (dist l.length f k - e - 1)) = f + dist l.length f k from by omega]
            exact dist_spec hk
        cases t with
        | zero => omega
        | succ t =>
          simp only [List.length_cons] at ht
          obtain ⟨d, d1, d2⟩ := rr_reach t m (l.set i (g l i - 1)) (i + 1) (h.step h1 h2) (by simpa using hk) (by rw [List.length_set]; omega) (by omega)
          exact ⟨d + 1, by omega, by rw [skip_cons h2]; exact d2⟩
theorem rr_drop {a : List Int} : ∀ (i m : Nat) (l : List Int) (f : Nat), 0 < l.length → i ≤ (rr a m l f).length → TV l a →
    ∃ f', (rr a m l f).drop i = rr a (m - i) (runAt a (rr a m l f) l i).1 f'
  | 0, m, l, f, _, _, _ => ⟨f, rfl⟩
  | i + 1, 0, l, f, _, h, _ => by simp [rr] at h
  | i + 1, m + 1, l, f, hp, h, hv => by
    cases hn : nxt l a f with
    | none => rw [rr_none hn] at h; simp at h
    | some x =>
      obtain ⟨h1, h2⟩ := scan_some hp hn
      rw [rr_some hn] at h ⊢
      simp only [List.length_cons] at h
      obtain ⟨f', hf⟩ := rr_drop i m (l.set x (g l x - 1)) (x + 1) (by simpa using hp) (by omega) (hv.step h1 h2)
      refine ⟨f', ?_⟩
      rw [List.drop_succ_cons, hf, (runAt_cons h2 i).1, show m + 1 - (i + 1) = m - i from by omega]
theorem skip_drop (l a ps : List Int) (k i d : Nat) : skip l a ps k (i + d) = skip (runAt a ps l i).1 a (ps.drop i) k d := by
  unfold skip
  rw [(runAt_drop a ps l i d).1, g_drop]
theorem rr_fair {a l : List Int} {m f : Nat} (h : TV l a) (hp : 0 < l.length) : fairB l a (rr a m l f) (2 * l.length) = true := by
  refine fairB_yes fun i k hi hk => ?_
  obtain ⟨_, _, r3⟩ := rr_done m l f h hp
  have hl := runAt_len a (rr a m l f) l i
  have hv := runAt_TV h r3 (k := i) (by omega)
  obtain ⟨f', hf⟩ := rr_drop i m l f hp (by omega) h
  have hdl : ((rr a m l f).drop i).length = (rr a m l f).length - i := by simp
  have hlt := dist_lt (f := f') hk
  obtain ⟨d, d1, d2⟩ := rr_reach (k := k) (dist l.length f' k) (m - i) (runAt a (rr a m l f) l i).1 f' hv (by omega) (by rw [hl]; exact Nat.le_refl _) (by rw [← hf]; omega)
  refine ⟨d, by omega, ?_⟩
  rw [skip_drop, hf]
  exact d2

end Go.Proofs.Ytoelndaeemlefaa
