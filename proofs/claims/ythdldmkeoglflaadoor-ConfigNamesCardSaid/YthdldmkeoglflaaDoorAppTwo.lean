/- append on what an append gave, in a region that draws: what the second one leaves as it is. -/
import Derived.Test.YthdldmkeoglflaaDoorRegMore
import Derived.Test.YthdldmkeoglflaaDoorAppY
namespace Go.Proofs.YthdldmkeoglflaaDoor
set_option maxRecDepth 100000
open Go.RowKit
set_option linter.unusedVariables false

/-- What a second append leaves: the elder blocks, those of another element type, and rows as the first one gave. -/
def AppR (base : Nat) (e : TypeId) (size n : Nat) (xs : List Value) (w w' : World) : Prop :=
  Below base w w' ∧ (∀ b t cs, t ≠ e → Blk w b t cs → Blk w' b t cs) ∧ ∀ v, CupX w base e size v n xs → CupX w' base e size v n xs
theorem OwnX.same {w : World} {base e size n g c c' : Nat} {xs ys : List Value} (hs : 0 < size) (h : OwnX w base e size (.slice (some ⟨g, 0, none⟩) n c) n xs) (k : OwnX w base e size (.slice (some ⟨g, 0, none⟩) n c') n ys) : c' = c := by
  rcases h.2 with ⟨h1, _⟩ | ⟨g1, cap, cur, hv, h3, h4, h5, h6, h7, h8⟩
  · cases h1
  rcases k.2 with ⟨k1, _⟩ | ⟨g2, cap2, cur2, kv, k3, k4, k5, k6, k7, k8⟩
  · cases k1
  cases hv
  cases kv
  rw [h4] at k4
  cases k4
  have e1 : cur.size = c * size := by first | exact h7 | exact h6 | exact h5
  have e2 : cur.size = c' * size := by first | exact k7 | exact k6 | exact k5
  exact Nat.eq_of_mul_eq_mul_right hs (e2.symm.trans e1)
theorem OwnX.blk_ne {w : World} {base : Nat} {e t : TypeId} {size n B : Nat} {v : Value} {xs cs : List Value} (h : OwnX w base e size v n xs) (hb : Blk w B t cs) (ht : t ≠ e) : v.ownBlock ≠ some B := by
  intro hk
  rcases h.2 with ⟨rfl, _⟩ | ⟨g, cap, cur, rfl, _, h4, _⟩
  · simp [Value.ownBlock] at hk
  · simp only [Value.ownBlock, Option.some.injEq] at hk
    subst hk
    have h5 := h4.symm.trans hb
    simp at h5
    exact ht h5.2.symm
section
variable {P : Program}
theorem gives_append_two {o : Oper} {a : Act} {w : World} (s x : Operand) (t : TypeId) (ho : o.op = .call { callee := .builtin .append, args := #[s, x], argTypes := #[t, t] }) (v u : Value) (hs : a.eval s = v) (hx : a.eval x = u)
    (base : Nat) (e : TypeId) (i : TypeInfo) (z : Value) (size bytes : Nat) (ht : P.underlying t = some (.slice e)) (hi : P.info? e = some i) (hz : i.zero = some z)
    (hsize : i.size = size) (hby : i.bytes = bytes) (hzs : z.cells.size = size) (hsz : 0 < size)
    (n : Nat) (xs : List Value) (hv : VCup base e size n xs v w) (m : Nat) (news : List Value) (hu : VRow m news u w) (hl : news.length = m * size) (h1 : ∀ u ∈ news, u.oneCell' = true)
    (N : Nat) (hN : n + m = N) (h63 : N ≤ maxLen) (hbytes : N * bytes ≤ 140737488355328) (hbase : base ≤ w.heap.size) :
    Oper.gives P o a w (fun r w' => Below base w w' ∧ AppR base e size n xs w w' ∧ VCup base e size N (xs ++ news) r w') := by
  obtain ⟨av, cv, rfl, hc⟩ := hv
  obtain ⟨au, cu, rfl, hn⟩ := hu
  subst hN
  rcases hc with hown | ⟨rfl, rfl, ao, hve⟩
  · obtain ⟨a', c', w', hr, h2, h3, _, h5⟩ := run_append_y (P := P) w base t o.type e i z size bytes ht hi hz hsize hby hzs hsz _ n xs hown au m cu news hl hn h1 h63 hbytes hbase
    have hb : Below base w w' := below_grownX (Below.refl _ _) h3 hbase (fun k hk => (hown.lt k hk).1)
    refine gives_append s x t t ho _ _ hs hx ⟨_, _, hr, hb, ⟨hb, fun b t' cs hne hB => ?_, fun v2 h => ?_⟩, _, _, rfl, .inl h2⟩
    · exact (h3.block b hB.lt (fun e' => hown.blk_ne hB hne e'.symm)).trans hB
    · rcases h with h | h
      · left
        cases hk : v2.ownBlock with
        | none => exact h.kept h3 (.inl hk)
        | some k =>
          by_cases hkk : (Value.slice av n cv).ownBlock = some k
          · rcases h.2 with ⟨rfl, _⟩ | ⟨g2, cap2, cur2, rfl, _⟩
            · simp [Value.ownBlock] at hk
            · rcases hown.2 with ⟨h9, _⟩ | ⟨g1, cap1, cur1, h9, _⟩
              · rw [h9] at hkk; simp [Value.ownBlock] at hkk
              · cases h9
                simp only [Value.ownBlock, Option.some.injEq] at hk hkk
                subst hk
                subst hkk
                obtain rfl := OwnX.same hsz hown h
                exact h5
          · exact h.kept h3 (.inr (by rw [hk]; exact fun e' => hkk e'.symm))
      · exact .inr h
  · cases hve
    rw [Nat.zero_add] at h63 hbytes ⊢
    by_cases hm : m = 0
    · subst hm
      obtain rfl : news = [] := List.eq_nil_of_length_eq_zero (by simpa using hl)
      exact gives_append s x t t ho _ _ hs hx ⟨_, w, run_append_zero w t o.type e i ht hi av au 0 0 cu (Nat.le_refl _), Below.refl _ _, ⟨Below.refl _ _, fun _ _ _ _ h => h, fun _ h => h⟩, _, _, rfl, CupX.zero _ _ _ _ _⟩
    · obtain ⟨a', c', w', hr, h2, h3⟩ := run_append_c0 (P := P) w t o.type e i z size bytes ht hi hz hsize hby hzs hsz av au m cu news hl hn h1 h63 hbytes
      exact gives_append s x t t ho _ _ hs hx ⟨_, _, hr, h3.mono hbase, ⟨h3.mono hbase, fun _ _ _ _ h => h.later h3, fun _ h => h.later h3⟩, _, _, rfl, .inl ((h2 (by omega)).mono hbase)⟩
end

end Go.Proofs.YthdldmkeoglflaaDoor
