/- The reference's Check. -/
import Derived.Test.YtnkbbfeaodppgaaLockRChkP
namespace Go.Proofs.Ytnkbbfeaodppgaa
set_option linter.unusedSimpArgs false
set_option linter.unusedVariables false
set_option linter.unnecessarySimpa false
open Go.RowKit

theorem may_B (W : Int) (ra : Option Addr) (rs : List Int) (rn rc : Nat) (hrn : rn = rs.length) (qs : Value) (t : Int) (b cb : Bool) (h : canB W rs b = cb) (w : World) :
    Calls Try.prog 27 #[.agg #[.int .i64 W, .slice ra rn rc, qs], .agg #[.int .i64 t, .bool b]] w fun e w' =>
      e = .returned (.bool cb) ∧ Below w.heap.size w w' := by
  have e : (W == -1 && (!b || rn == 0)) = cb := by rw [← h]; unfold canB; rw [hrn]
  rw [← e]
  exact may_any W _ _ ra rn rc rfl t b w

/- The last region: $1 the queue's address, $2 its length. -/
/- Nobody writes, or there are no readers. $1: W = -1 ∨ rs = []. -/

/- Behind the making of the list: $1 the address, $2 the length, $3 the capacity. -/

set_option maxRecDepth 100000 in
set_option maxHeartbeats 4000000 in
theorem rCheck_any (W : Int) (rs : List Int) (q : Waits) (ra qa : Option Addr) (rn rc qn qc : Nat) (w : World) (h : LockIn w rs q ra qa rn qn) :
    Calls Try.prog 10 #[.agg #[.int .i64 W, .slice ra rn rc, .slice qa qn qc]] w fun e w' =>
      e = .returned (.int .i64 (lockErr W rs q)) ∧ Below w.heap.size w w' := by
  obtain ⟨i0, hi, hz0, hz1, hz2⟩ := info_parts info_i64
  have hrm := h.rmax
  have hqm := h.qmax
  obtain ⟨z, hz⟩ : ∃ z, lockErr W rs q = z := ⟨_, rfl⟩
  rw [hz]
  by_cases hr12 : 12 < rn
  · have he : 8 = z := by rw [← hz]; exact (err_len (.inl (by have := h.rlen; omega))).symm
    have hrI : (12 : Int) < (rn : Int) := by omega
    have H_h := Box.mk h
    have H_hz := Box.mk hz
    have H_he := Box.mk he
    clear h hz he
    go_enter Try.func10, Try.ntmps10
    have hb0 := Below.refl w.heap.size w
    go_wp2_with fail
    go_ret
    exact ⟨ret_int H_he.out, (by repeat' (first | with_reducible exact hb0 | with_reducible refine Below.drew ?_ | with_reducible refine below_drewN ?_ _ | with_reducible refine Below.alloc ?_ (by have := hb0.size; first | (simp; done) | (simp; omega) | omega) _ | with_reducible refine Below.setCell ?_ (by first | (simp; done) | (simp; omega) | omega) _))⟩
  · have hrI : (rn : Int) ≤ 12 := by omega
    by_cases hq12 : 12 < qn
    · have he : 8 = z := by rw [← hz]; exact (err_len (.inr (by have := h.qlen; omega))).symm
      have hqI : (12 : Int) < (qn : Int) := by omega
      have H_h := Box.mk h
      have H_hz := Box.mk hz
      have H_he := Box.mk he
      clear h hz he
      go_enter Try.func10, Try.ntmps10
      have hb0 := Below.refl w.heap.size w
      go_wp2_with fail
      go_ret
      exact ⟨ret_int H_he.out, (by repeat' (first | with_reducible exact hb0 | with_reducible refine Below.drew ?_ | with_reducible refine below_drewN ?_ _ | with_reducible refine Below.alloc ?_ (by have := hb0.size; first | (simp; done) | (simp; omega) | omega) _ | with_reducible refine Below.setCell ?_ (by first | (simp; done) | (simp; omega) | omega) _))⟩
    · have hqI : (qn : Int) ≤ 12 := by omega
      have hr1 : rn ≤ 12 := by omega
      have hq1 : qn ≤ 12 := by omega
      clear hr12 hq12
      have hrl : (rs.map (Value.int .i64)).length = rn * 1 := by rw [List.length_map, Nat.mul_one]; exact h.rlen.symm
      have H_h := Box.mk h
      have H_hz := Box.mk hz
      have H_hrl := Box.mk hrl
      clear h hz hrl
      go_enter Try.func10, Try.ntmps10
      have hb0 := Below.refl w.heap.size w
      go_wp2_with (at_builtin; refine stop ?_)
      refine Stop.go ?_
      refine wpList_append_x _ rfl _ _ 22 rfl (w.heap.size + 1) 3 i0 (.int .i64 0) 1 8 Try.underlying22 hi hz0 hz1 hz2 rfl (by decide) (.slice none 0 0) 0 [] rfl (OwnX.nil _ _ _ _) ra rn rc _ rfl H_hrl.out (H_h.out.later (below_alloc _ _)).rs (ints_oneCell _ _) (by unfold maxLen; omega) (by omega) (by simp) ?_
      intro a1 c1 w1 o1 hg hk1
      have hbx : Below w.heap.size w w1 := below_grownX (below_alloc w _) hg (by simp) (fun k h => by simp [Value.ownBlock] at h)
      have O1 : Blk w1 w.heap.size 25 [.int .i64 W, .slice ra rn rc, .slice qa qn qc] := blk_grown (Blk.new w _ [.int .i64 W, .slice ra rn rc, .slice qa qn qc] _ rfl) hg (by simp [Value.ownBlock])
      rw [Nat.zero_add, List.nil_append] at o1
      rw [Nat.zero_add]
      clear hg hk1
      obtain ⟨O_0, O_1, O_2, O_f0, O_f1, O_f2, O_l⟩ := blk3 O1
      by_cases hW : W = -1
      · have hW1 : (W != -1) = false := by simp [hW]
        have hsl : seenL W rs = rs := by unfold seenL; rw [if_pos hW]
        have ow1 := o1
        rw [← hsl] at ow1
        have H_hW := Box.mk hW
        clear hW o1 hsl
        go_wp2_with fail
        have hm1 : rn ≤ 13 := by omega
        go_loopw [3, 4] (fun s i wr => ∃ (k : Nat) (av : Option Addr) (cv : Nat), k ≤ qn ∧ s = .slice av (rn + k) cv ∧ i = .int .i64 k ∧ Below w.heap.size w wr ∧ Blk wr w.heap.size 25 [.int .i64 W, .slice ra rn rc, .slice qa qn qc] ∧ OwnX wr (w.heap.size + 1) 3 1 (.slice av (rn + k) cv) (rn + k) ((seenL W rs ++ (q.take k).map (·.1)).map (Value.int .i64))) (fun _ i _ => qn - (intOf i).toNat)
        case atStart => exact ⟨0, _, _, Nat.zero_le _, rfl, rfl, hbx, O1, by simpa using ow1⟩
        case round =>
          obtain ⟨k, av, cv, hk, rfl, rfl, hbw, O2, ow2⟩ := hrel
          obtain ⟨O_0, O_1, O_2, O_f0, O_f1, O_f2, O_l⟩ := blk3 O2
          clear ow1 O1 hbx
          have hqw := (H_h.out.later hbw).qs
          by_cases hlt : k < qn
          · have hlt' : (k : Int) < (qn : Int) := by omega
            have hkl : k < q.length := by have := H_h.out.qlen; omega
            obtain ⟨b, oo, rfl, h1, h2, hcell⟩ := hqw.waits (by omega)
            obtain ⟨c0, c1⟩ := hcell k hkl
            clear hcell hqw
            obtain ⟨x, hxx⟩ : ∃ x, tk q k = x := ⟨_, rfl⟩
            rw [hxx] at c0
            have htake : (seenL W rs ++ (q.take (k + 1)).map (·.1)).map (Value.int .i64) = (seenL W rs ++ (q.take k).map (·.1)).map (Value.int .i64) ++ [.int .i64 x] := by
              have e : (q.take (k + 1)).map (·.1) = (q.take k).map (·.1) ++ [x] := by
                rw [List.take_succ_eq_append_getElem hkl, List.map_append, ← hxx]
                simp [tk, List.getElem?_eq_getElem hkl]
              rw [e, ← List.append_assoc, List.map_append]
              rfl
            have H_htake := Box.mk htake
            have H_hxx := Box.mk hxx
            have H_hkl := Box.mk hkl
            clear htake hxx hkl
            go_wp2_with (at_builtin; refine stop ?_)
            refine Stop.go ?_
            refine wpList_append_x _ rfl _ _ 22 rfl (w.heap.size + 1) 3 i0 (.int .i64 0) 1 8 Try.underlying22 hi hz0 hz1 hz2 rfl (by decide) (.slice av (rn + k) cv) (rn + k) _ rfl (ow2.alloc _) (some ⟨wr.heap.size, 0, none⟩) 1 1 [.int .i64 x] rfl rfl (cellsAt_one wr _ _) (oneCell_int _ _) (by unfold maxLen; omega) (by omega) (by simp; omega) ?_
            intro a5 c5 w5 o5 hg hk5
            have hb5 : Below w.heap.size w w5 := below_grownX (hbw.alloc (by omega) _) hg (by simp; omega) (fun q h => by have := (ow2.lt q h).1; omega)
            have O5 := blk_grown (O2.alloc _) hg (own_not fun ad e => by have := (ow2.addr ad e).1; omega)
            rw [← H_htake.out] at o5
            clear hg hk5 O_0 O_1 O_2 O_f0 O_f1 O_f2 O_l
            go_wp2_with fail
            go_roundw
            case rel => exact ⟨k + 1, a5, c5, by omega, by first | rfl | (rw [Nat.add_assoc]), by first | rfl | go_num, hb5, O5, by rw [← Nat.add_assoc]; exact o5⟩
            case measure => simp [intOf]; omega
          · have hge : (qn : Int) ≤ (k : Int) := by omega
            obtain rfl : k = qn := by omega
            have hall : seenL W rs ++ (q.take k).map (·.1) = allL W rs q := by rw [List.take_of_length_le (by have := H_h.out.qlen; omega)]; rfl
            rw [hall] at ow2
            clear hall
            obtain ⟨l, hl⟩ : ∃ l, allL W rs q = l := ⟨_, rfl⟩
            rw [hl] at ow2
            obtain ⟨N, hN⟩ : ∃ N, rn + k = N := ⟨_, rfl⟩
            rw [hN] at ow2
            have hln : N = l.length := by have := ow2.len; simpa using this.symm
            have hN2 : N ≤ 25 := by omega
            clear hqw hge
            have hea : ∀ i, i < N → allBad l i = true → 8 = z := fun i hi hb => by rw [← H_hz.out]; exact (err_all (by rw [hl, ← hln]; exact hi) (by rw [hl]; exact hb)).symm
            have O2' := O2
            have H_hl := Box.mk hl
            have H_hln := Box.mk hln
            have H_hea := Box.mk hea
            clear hl hln hea
            rw [hN]
            have H_hN := Box.mk hN
            clear hN
            clear O2'
            obtain ⟨wy, hwy⟩ : ∃ wy, wy = wr := ⟨wr, rfl⟩
            subst hwy
            go_wp2_with fail
            clear O_0 O_1 O_2 O_f0 O_f1 O_f2 O_l
            go_loopw [5] (fun i wq => ∃ j : Nat, j ≤ N ∧ i = .int .i64 j ∧ Below wy.heap.size wy wq ∧ Box (∀ p, p < j → allBad l p = false)) (fun i _ => N - (intOf i).toNat)
            case atStart => exact ⟨0, Nat.zero_le _, rfl, Below.refl _ _, Box.mk (fun p hp => by omega)⟩
            case round =>
              obtain ⟨j, hj, rfl, hbq, Hj⟩ := hrel
              obtain ⟨wq, hwq⟩ : ∃ wq, wq = wr := ⟨wr, rfl⟩
              subst hwq
              by_cases hjlt : j < N
              · have hjI : (j : Int) < (N : Int) := by omega
                have hjl : j < l.length := by have := H_hln.out; omega
                obtain ⟨b0, oo0, rfl, cl⟩ := (ow2.later hbq).cellsAt.int (by omega)
                have cj := cl j hjl
                obtain ⟨x, hx⟩ : ∃ x, l[j]?.getD 0 = x := ⟨_, rfl⟩
                rw [hx] at cj
                clear cl
                cases htb : taskB x with
                | false =>
                  have he := H_hea.out j hjlt (by unfold allBad; rw [hx, htb]; rfl)
                  have hor : x < 0 ∨ (0 ≤ x ∧ 12 ≤ x) := by
                    by_cases h : x < 0
                    · exact .inl h
                    · right
                      refine ⟨by omega, ?_⟩
                      by_cases h2 : x < 12
                      · rw [taskB_iff.2 ⟨by omega, h2⟩] at htb; cases htb
                      · omega
                  have H_he := Box.mk he
                  have H_htb := Box.mk htb
                  have H_hx := Box.mk hx
                  clear he htb hx
                  clear Hj
                  rcases hor with hx0 | ⟨hx0, hx1⟩
                  · go_wp2_with fail
                    go_ret
                    exact ⟨ret_int H_he.out, bchain hbw hbq⟩
                  · go_wp2_with fail
                    go_ret
                    exact ⟨ret_int H_he.out, bchain hbw hbq⟩
                | true =>
                  obtain ⟨hx0, hx1⟩ := taskB_iff.1 htb
                  have H_htb := Box.mk htb
                  have H_hx := Box.mk hx
                  clear htb hx
                  go_wp2_with fail
                  go_loopw [6] (fun i wv => ∃ m : Nat, m ≤ j ∧ i = .int .i64 m ∧ Below wy.heap.size wy wv ∧ Box (∀ p, p < m → l[p]?.getD 0 ≠ x)) (fun i _ => j - (intOf i).toNat)
                  case atStart => exact ⟨0, Nat.zero_le _, rfl, hbq, Box.mk (fun p hp => by omega)⟩
                  case round =>
                    obtain ⟨m, hm, rfl, hbv, Hm⟩ := hrel
                    clear cj
                    by_cases hmj : m < j
                    · have hmI : (m : Int) < (j : Int) := by omega
                      have hmN : (m : Int) < (N : Int) := by omega
                      obtain ⟨_, _, e0, cl⟩ := (ow2.later hbv).cellsAt.int (by omega)
                      cases e0
                      have cj := cl j hjl
                      have cm := cl m (by omega)
                      rw [H_hx.out] at cj
                      obtain ⟨y, hy⟩ : ∃ y, l[m]?.getD 0 = y := ⟨_, rfl⟩
                      rw [hy] at cm
                      clear cl
                      by_cases hyx : y = x
                      · have he := H_hea.out j hjlt (by
                          unfold allBad
                          rw [H_hx.out]
                          have : (l.take j).contains x = true := by
                            rw [List.contains_iff_mem]
                            refine List.mem_take_iff_getElem.2 ⟨m, by omega, ?_⟩
                            rw [List.getElem?_eq_getElem (by omega)] at hy
                            exact hy.trans hyx
                          rw [this]; simp)
                        have hyx' : (y == x) = true := beq_iff_eq.2 hyx
                        clear hyx
                        have H_he := Box.mk he
                        have H_hy := Box.mk hy
                        clear he hy
                        clear Hm Hj
                        go_wp2_with fail
                        go_quiet (fail)
                        go_wp2_with fail
                        go_ret
                        exact ⟨ret_int H_he.out, below_drewN (bchain hbw hbv) _⟩
                      · have hyx' : (y == x) = false := beq_eq_false_iff_ne.2 hyx
                        have hn : Box (∀ p, p < m + 1 → l[p]?.getD 0 ≠ x) := Box.mk fun p hp => by
                          by_cases hpm : p < m
                          · exact Hm.out p hpm
                          · obtain rfl : p = m := by omega
                            rw [hy]; exact hyx
                        clear hyx
                        have H_hy := Box.mk hy
                        clear hy
                        clear Hm
                        go_wp2_with fail
                        go_quiet (fail)
                        go_wp2_with fail
                        go_roundw
                        case rel => exact ⟨m + 1, by omega, by first | rfl | go_num, below_drewN hbv _, hn⟩
                        case measure => simp [intOf]; omega
                    · have hmI : (j : Int) ≤ (m : Int) := by omega
                      have hn : Box (∀ p, p < j + 1 → allBad l p = false) := Box.mk fun p hp => by
                        by_cases hpj : p < j
                        · exact Hj.out p hpj
                        · obtain rfl : p = j := by omega
                          unfold allBad
                          rw [H_hx.out, H_htb.out]
                          cases hc : (l.take p).contains x with
                          | false => rfl
                          | true =>
                            rw [List.contains_iff_mem] at hc
                            obtain ⟨p', hp', e⟩ := List.mem_take_iff_getElem.1 hc
                            have := Hm.out p' (by omega)
                            rw [List.getElem?_eq_getElem (by omega)] at this
                            exact absurd e this
                      clear Hm Hj
                      go_wp2_with fail
                      go_roundw
                      case rel => exact ⟨j + 1, by omega, by first | rfl | go_num, hbv, hn⟩
                      case measure => simp [intOf]; omega
              · have hjI : (N : Int) ≤ (j : Int) := by omega
                obtain rfl : j = N := by omega
                have hgood : ∀ i, i < (allL W rs q).length → allBad (allL W rs q) i = false := fun i hi => by
                  rw [H_hl.out] at hi ⊢
                  exact Hj.out i (by rw [H_hln.out]; exact hi)
                have O3 := O2.later hbq
                have hbw3 := bchain hbw hbq
                have hz3 := hbq.size
                clear Hj ow2 O2 hbw hbq
                have H_hgood := Box.mk hgood
                clear hgood
                obtain ⟨O_0, O_1, O_2, O_f0, O_f1, O_f2, O_l⟩ := blk3 O3
                go_wp2_with fail
                go_loopw [7] (fun i wv => ∃ m : Nat, 1 ≤ m ∧ m ≤ rn + 1 ∧ i = .int .i64 m ∧ Below wq.heap.size wq wv ∧ Box (∀ p, p + 1 < m → p + 1 < rn → rs[p]?.getD 0 ≤ rs[p + 1]?.getD 0)) (fun i _ => rn + 1 - (intOf i).toNat)
                case atStart => exact ⟨1, Nat.le_refl _, by omega, rfl, Below.refl _ _, Box.mk (fun p hp => by omega)⟩
                case round =>
                  obtain ⟨m, hm1, hm2, rfl, hbv, Hm⟩ := hrel
                  have O4 := O3.later hbv
                  have hbw := bchain hbw3 hbv
                  clear O_0 O_1 O_2 O_f0 O_f1 O_f2 O_l
                  obtain ⟨O_0, O_1, O_2, O_f0, O_f1, O_f2, O_l⟩ := blk3 O4
                  by_cases hmr : m < rn
                  · have hmI : (m : Int) < (rn : Int) := by omega
                    obtain ⟨i, rfl⟩ : ∃ i, m = i + 1 := ⟨m - 1, by omega⟩
                    have hil : i + 1 < rs.length := by have := H_h.out.rlen; omega
                    obtain ⟨b1, oo1, rfl, cl⟩ := (H_h.out.later hbw).rs.int (by omega)
                    have ci := cl i (by omega)
                    have cs := cl (i + 1) hil
                    clear cl
                    obtain ⟨x, hx⟩ : ∃ x, rs[i]?.getD 0 = x := ⟨_, rfl⟩
                    obtain ⟨y, hy⟩ : ∃ y, rs[i + 1]?.getD 0 = y := ⟨_, rfl⟩
                    rw [hx] at ci; rw [hy] at cs
                    have e1 : ((i + 1 : Nat) : Int) - 1 = (i : Int) := by omega
                    have e2 : (i : Int) < (rn : Int) := by omega
                    have e3 : (i : Int) + 1 < (rn : Int) := by omega
                    have e4 : i < rn := by omega
                    by_cases hyx : y < x
                    · have he : 8 = z := by rw [← H_hz.out]; exact (err_sort hil (by rw [hx, hy]; exact hyx)).symm
                      have H_he := Box.mk he
                      have H_hx := Box.mk hx
                      have H_hy := Box.mk hy
                      have H_hil := Box.mk hil
                      clear he hx hy hil
                      clear Hm
                      go_wp2_with fail
                      go_quiet (fail)
                      go_wp2_with fail
                      go_ret
                      exact ⟨ret_int H_he.out, below_drewN hbw _⟩
                    · have hxy : x ≤ y := by omega
                      have hn : Box (∀ p, p + 1 < i + 1 + 1 → p + 1 < rn → rs[p]?.getD 0 ≤ rs[p + 1]?.getD 0) := Box.mk fun p hp hq => by
                        by_cases hpi : p + 1 < i + 1
                        · exact Hm.out p hpi hq
                        · obtain rfl : p = i := by omega
                          rw [hx, hy]; exact hxy
                      clear hyx
                      have H_hx := Box.mk hx
                      have H_hy := Box.mk hy
                      have H_hil := Box.mk hil
                      clear hx hy hil
                      clear Hm
                      go_wp2_with fail
                      go_quiet (fail)
                      go_wp2_with fail
                      go_roundw
                      case rel => exact ⟨i + 1 + 1, by omega, by omega, by first | rfl | go_num, below_drewN hbv _, hn⟩
                      case measure => simp [intOf]; omega
                  · have hmI : (rn : Int) ≤ (m : Int) := by omega
                    have hsort : ∀ p, p + 1 < rs.length → rs[p]?.getD 0 ≤ rs[p + 1]?.getD 0 := fun p hp => Hm.out p (by have := H_h.out.rlen; omega) (by have := H_h.out.rlen; omega)
                    clear Hm O3 O4 hbv hbw3
                    have H_hsort := Box.mk hsort
                    clear hsort
                    have hqn := H_h.out.qlen
                    by_cases hq0 : k = 0
                    · have he : 0 = z := by rw [← H_hz.out]; exact (err_none H_hgood.out H_hsort.out (.inl H_hW.out) (.inl (List.eq_nil_of_length_eq_zero (by omega)))).symm
                      have hqI : (k : Int) = 0 := by omega
                      subst hq0
                      have H_he := Box.mk he
                      have H_hqn := Box.mk hqn
                      clear he hqn
                      go_wp2_with fail
                      refine wp_gen fun w11 hc11 => ?_
                      have hb11 : Below w.heap.size w w11 := bchain (by repeat' (first | with_reducible exact hbw | with_reducible refine Below.drew ?_ | with_reducible refine below_drewN ?_ _ | with_reducible refine Below.alloc ?_ (by have := hbw.size; first | (simp; done) | (simp; omega) | omega) _ | with_reducible refine Below.setCell ?_ (by first | (simp; done) | (simp; omega) | omega) _)) hc11
                      have hst11 : Below wr.heap.size wr w11 := bchain (by repeat' (first | with_reducible exact Below.refl _ _ | with_reducible refine Below.drew ?_ | with_reducible refine below_drewN ?_ _ | with_reducible refine Below.alloc ?_ (by first | (simp; done) | (simp; omega) | omega) _ | with_reducible refine Below.setCell ?_ (by first | (simp; done) | (simp; omega) | omega) _)) hc11
                      replace O_0 := cell_later hst11 O_0
                      replace O_1 := cell_later hst11 O_1
                      replace O_2 := cell_later hst11 O_2
                      replace O_l := Nat.lt_of_lt_of_le O_l hst11.size
                      clear hst11
                      have KO_0 := cell_on O_0
                      have KO_1 := cell_on O_1
                      have KO_2 := cell_on O_2
                      refine wp_region_on (by kernel_rfl) (by kernel_rfl) ?_
                      repeat (go_big_quiet_step (fail))
                      refine wpQuiet_nil ?_
                      intro w12 hc12
                      clear KO_0 KO_1 KO_2
                      have hb12 : Below w.heap.size w w12 := bchain (by repeat' (first | with_reducible exact hb11 | with_reducible refine Below.drew ?_ | with_reducible refine below_drewN ?_ _ | with_reducible refine Below.alloc ?_ (by have := hb11.size; first | (simp; done) | (simp; omega) | omega) _ | with_reducible refine Below.setCell ?_ (by first | (simp; done) | (simp; omega) | omega) _)) hc12
                      have hst12 : Below w11.heap.size w11 w12 := bchain (by repeat' (first | with_reducible exact Below.refl _ _ | with_reducible refine Below.drew ?_ | with_reducible refine below_drewN ?_ _ | with_reducible refine Below.alloc ?_ (by first | (simp; done) | (simp; omega) | omega) _ | with_reducible refine Below.setCell ?_ (by first | (simp; done) | (simp; omega) | omega) _)) hc12
                      replace O_0 := cell_later hst12 O_0
                      replace O_1 := cell_later hst12 O_1
                      replace O_2 := cell_later hst12 O_2
                      replace O_l := Nat.lt_of_lt_of_le O_l hst12.size
                      clear hst12
                      go_wp2_with fail
                      go_ret
                      exact ⟨ret_int H_he.out, (by repeat' (first | with_reducible exact hb12 | with_reducible refine Below.drew ?_ | with_reducible refine below_drewN ?_ _ | with_reducible refine Below.alloc ?_ (by have := hb12.size; first | (simp; done) | (simp; omega) | omega) _ | with_reducible refine Below.setCell ?_ (by first | (simp; done) | (simp; omega) | omega) _))⟩
                    · have hqI : (0 : Int) < (k : Int) := by omega
                      have hqN : 0 < k := by omega
                      have hq := (H_h.out.later hbw).qs
                      obtain ⟨b, oo, rfl, h1, h2, hcell⟩ := hq.waits (by omega)
                      clear hcell h1 h2
                      obtain ⟨x, hxx⟩ : ∃ x, tk q 0 = x := ⟨_, rfl⟩
                      obtain ⟨md0, hmm⟩ : ∃ y, md q 0 = y := ⟨_, rfl⟩
                      obtain ⟨cb, hcb⟩ : ∃ cb, canB W rs md0 = cb := ⟨_, rfl⟩
                      have qC := fun Wd => may_B W ra rs rn rc H_h.out.rlen (.slice (some ⟨b, oo, none⟩) k qc) x md0 cb hcb Wd
                      have he : (if cb = true then (8 : Int) else 0) = z := by
                        rw [← H_hz.out]
                        cases cb with
                        | true => exact (err_head (by omega) (by rw [hmm]; exact hcb)).symm
                        | false => exact (err_none H_hgood.out H_hsort.out (.inl H_hW.out) (.inr (by rw [hmm]; exact hcb))).symm
                      have H_he := Box.mk he
                      have H_hqn := Box.mk hqn
                      have H_hxx := Box.mk hxx
                      have H_hmm := Box.mk hmm
                      have H_hcb := Box.mk hcb
                      have H_qC := Box.mk qC
                      clear he hqn hxx hmm hcb qC
                      cases cb
                      · skip
                        go_wp2_with fail
                        refine wp_gen fun w11 hc11 => ?_
                        have hb11 : Below w.heap.size w w11 := bchain (by repeat' (first | with_reducible exact hbw | with_reducible refine Below.drew ?_ | with_reducible refine below_drewN ?_ _ | with_reducible refine Below.alloc ?_ (by have := hbw.size; first | (simp; done) | (simp; omega) | omega) _ | with_reducible refine Below.setCell ?_ (by first | (simp; done) | (simp; omega) | omega) _)) hc11
                        have hst11 : Below wr.heap.size wr w11 := bchain (by repeat' (first | with_reducible exact Below.refl _ _ | with_reducible refine Below.drew ?_ | with_reducible refine below_drewN ?_ _ | with_reducible refine Below.alloc ?_ (by first | (simp; done) | (simp; omega) | omega) _ | with_reducible refine Below.setCell ?_ (by first | (simp; done) | (simp; omega) | omega) _)) hc11
                        replace O_0 := cell_later hst11 O_0
                        replace O_1 := cell_later hst11 O_1
                        replace O_2 := cell_later hst11 O_2
                        replace O_l := Nat.lt_of_lt_of_le O_l hst11.size
                        replace hq := hq.later hst11
                        clear hst11
                        have KO_0 := cell_on O_0
                        have KO_1 := cell_on O_1
                        have KO_2 := cell_on O_2
                        obtain ⟨b', oo', e0, _, _, hcell⟩ := hq.waits (by have := H_hqn.out; omega)
                        cases e0
                        obtain ⟨c0, c1⟩ := hcell 0 (by have := H_hqn.out; omega)
                        clear hcell
                        rw [H_hxx.out] at c0
                        rw [H_hmm.out] at c1
                        simp only [Nat.zero_mul, Nat.add_zero] at c0 c1
                        have d0 := cell_on c0
                        have d1 := cell_on c1
                        refine wp_region_on (by kernel_rfl) (by kernel_rfl) ?_
                        repeat (go_big_quiet_step ((first | (go_at_call 27; with_reducible exact calls_on (H_qC.out _)))))
                        refine wpQuiet_nil ?_
                        intro w12 hc12
                        clear KO_0 KO_1 KO_2
                        have hb12 : Below w.heap.size w w12 := bchain (by repeat' (first | with_reducible exact hb11 | with_reducible refine Below.drew ?_ | with_reducible refine below_drewN ?_ _ | with_reducible refine Below.alloc ?_ (by have := hb11.size; first | (simp; done) | (simp; omega) | omega) _ | with_reducible refine Below.setCell ?_ (by first | (simp; done) | (simp; omega) | omega) _)) hc12
                        have hst12 : Below w11.heap.size w11 w12 := bchain (by repeat' (first | with_reducible exact Below.refl _ _ | with_reducible refine Below.drew ?_ | with_reducible refine below_drewN ?_ _ | with_reducible refine Below.alloc ?_ (by first | (simp; done) | (simp; omega) | omega) _ | with_reducible refine Below.setCell ?_ (by first | (simp; done) | (simp; omega) | omega) _)) hc12
                        replace O_0 := cell_later hst12 O_0
                        replace O_1 := cell_later hst12 O_1
                        replace O_2 := cell_later hst12 O_2
                        replace O_l := Nat.lt_of_lt_of_le O_l hst12.size
                        replace hq := hq.later hst12
                        clear hst12
                        go_wp2_with fail
                        go_ret
                        exact ⟨ret_int H_he.out, (by repeat' (first | with_reducible exact hb12 | with_reducible refine Below.drew ?_ | with_reducible refine below_drewN ?_ _ | with_reducible refine Below.alloc ?_ (by have := hb12.size; first | (simp; done) | (simp; omega) | omega) _ | with_reducible refine Below.setCell ?_ (by first | (simp; done) | (simp; omega) | omega) _))⟩
                      · skip
                        go_wp2_with fail
                        refine wp_gen fun w11 hc11 => ?_
                        have hb11 : Below w.heap.size w w11 := bchain (by repeat' (first | with_reducible exact hbw | with_reducible refine Below.drew ?_ | with_reducible refine below_drewN ?_ _ | with_reducible refine Below.alloc ?_ (by have := hbw.size; first | (simp; done) | (simp; omega) | omega) _ | with_reducible refine Below.setCell ?_ (by first | (simp; done) | (simp; omega) | omega) _)) hc11
                        have hst11 : Below wr.heap.size wr w11 := bchain (by repeat' (first | with_reducible exact Below.refl _ _ | with_reducible refine Below.drew ?_ | with_reducible refine below_drewN ?_ _ | with_reducible refine Below.alloc ?_ (by first | (simp; done) | (simp; omega) | omega) _ | with_reducible refine Below.setCell ?_ (by first | (simp; done) | (simp; omega) | omega) _)) hc11
                        replace O_0 := cell_later hst11 O_0
                        replace O_1 := cell_later hst11 O_1
                        replace O_2 := cell_later hst11 O_2
                        replace O_l := Nat.lt_of_lt_of_le O_l hst11.size
                        replace hq := hq.later hst11
                        clear hst11
                        have KO_0 := cell_on O_0
                        have KO_1 := cell_on O_1
                        have KO_2 := cell_on O_2
                        obtain ⟨b', oo', e0, _, _, hcell⟩ := hq.waits (by have := H_hqn.out; omega)
                        cases e0
                        obtain ⟨c0, c1⟩ := hcell 0 (by have := H_hqn.out; omega)
                        clear hcell
                        rw [H_hxx.out] at c0
                        rw [H_hmm.out] at c1
                        simp only [Nat.zero_mul, Nat.add_zero] at c0 c1
                        have d0 := cell_on c0
                        have d1 := cell_on c1
                        refine wp_region_on (by kernel_rfl) (by kernel_rfl) ?_
                        repeat (go_big_quiet_step ((first | (go_at_call 27; with_reducible exact calls_on (H_qC.out _)))))
                        refine wpQuiet_nil ?_
                        intro w12 hc12
                        clear KO_0 KO_1 KO_2
                        have hb12 : Below w.heap.size w w12 := bchain (by repeat' (first | with_reducible exact hb11 | with_reducible refine Below.drew ?_ | with_reducible refine below_drewN ?_ _ | with_reducible refine Below.alloc ?_ (by have := hb11.size; first | (simp; done) | (simp; omega) | omega) _ | with_reducible refine Below.setCell ?_ (by first | (simp; done) | (simp; omega) | omega) _)) hc12
                        have hst12 : Below w11.heap.size w11 w12 := bchain (by repeat' (first | with_reducible exact Below.refl _ _ | with_reducible refine Below.drew ?_ | with_reducible refine below_drewN ?_ _ | with_reducible refine Below.alloc ?_ (by first | (simp; done) | (simp; omega) | omega) _ | with_reducible refine Below.setCell ?_ (by first | (simp; done) | (simp; omega) | omega) _)) hc12
                        replace O_0 := cell_later hst12 O_0
                        replace O_1 := cell_later hst12 O_1
                        replace O_2 := cell_later hst12 O_2
                        replace O_l := Nat.lt_of_lt_of_le O_l hst12.size
                        replace hq := hq.later hst12
                        clear hst12
                        go_wp2_with fail
                        go_ret
                        exact ⟨ret_int H_he.out, (by repeat' (first | with_reducible exact hb12 | with_reducible refine Below.drew ?_ | with_reducible refine below_drewN ?_ _ | with_reducible refine Below.alloc ?_ (by have := hb12.size; first | (simp; done) | (simp; omega) | omega) _ | with_reducible refine Below.setCell ?_ (by first | (simp; done) | (simp; omega) | omega) _))⟩
      · have hW1 : (W != -1) = true := by simp [hW]
        have hsl : seenL W rs = rs ++ [W] := by unfold seenL; rw [if_neg hW]
        have H_hW := Box.mk hW
        clear hW
        go_wp2_with (at_builtin; refine stop ?_)
        refine Stop.go ?_
        refine wpList_append_x _ rfl _ _ 22 rfl (w.heap.size + 1) 3 i0 (.int .i64 0) 1 8 Try.underlying22 hi hz0 hz1 hz2 rfl (by decide) (.slice a1 rn c1) rn _ rfl (o1.alloc _) (some ⟨w1.heap.size, 0, none⟩) 1 1 [.int .i64 W] rfl rfl (cellsAt_one w1 _ _) (oneCell_int _ _) (by unfold maxLen; omega) (by omega) (by simp; omega) ?_
        intro a2 c2 w2 o2 hg hk2
        have hbx' : Below w.heap.size w w2 := below_grownX (hbx.alloc (by omega) _) hg (by simp; omega) (fun q h => by have := (o1.lt q h).1; omega)
        have O1' := blk_grown (O1.alloc _) hg (own_not fun ad e => by have := (o1.addr ad e).1; omega)
        have ow1 : OwnX w2 (w.heap.size + 1) 3 1 (.slice a2 (rn + 1) c2) (rn + 1) ((seenL W rs).map (Value.int .i64)) := by rw [hsl]; simpa using o2
        clear hg hk2 o1 o2 hsl hbx O1
        have hbx := hbx'
        have O1 := O1'
        clear hbx' O1' O_0 O_1 O_2 O_f0 O_f1 O_f2 O_l
        go_wp2_with fail
        have hm1 : (rn + 1) ≤ 13 := by omega
        go_loopw [3, 4] (fun s i wr => ∃ (k : Nat) (av : Option Addr) (cv : Nat), k ≤ qn ∧ s = .slice av ((rn + 1) + k) cv ∧ i = .int .i64 k ∧ Below w.heap.size w wr ∧ Blk wr w.heap.size 25 [.int .i64 W, .slice ra rn rc, .slice qa qn qc] ∧ OwnX wr (w.heap.size + 1) 3 1 (.slice av ((rn + 1) + k) cv) ((rn + 1) + k) ((seenL W rs ++ (q.take k).map (·.1)).map (Value.int .i64))) (fun _ i _ => qn - (intOf i).toNat)
        case atStart => exact ⟨0, _, _, Nat.zero_le _, rfl, rfl, hbx, O1, by simpa using ow1⟩
        case round =>
          obtain ⟨k, av, cv, hk, rfl, rfl, hbw, O2, ow2⟩ := hrel
          obtain ⟨O_0, O_1, O_2, O_f0, O_f1, O_f2, O_l⟩ := blk3 O2
          clear ow1 O1 hbx
          have hqw := (H_h.out.later hbw).qs
          by_cases hlt : k < qn
          · have hlt' : (k : Int) < (qn : Int) := by omega
            have hkl : k < q.length := by have := H_h.out.qlen; omega
            obtain ⟨b, oo, rfl, h1, h2, hcell⟩ := hqw.waits (by omega)
            obtain ⟨c0, c1⟩ := hcell k hkl
            clear hcell hqw
            obtain ⟨x, hxx⟩ : ∃ x, tk q k = x := ⟨_, rfl⟩
            rw [hxx] at c0
            have htake : (seenL W rs ++ (q.take (k + 1)).map (·.1)).map (Value.int .i64) = (seenL W rs ++ (q.take k).map (·.1)).map (Value.int .i64) ++ [.int .i64 x] := by
              have e : (q.take (k + 1)).map (·.1) = (q.take k).map (·.1) ++ [x] := by
                rw [List.take_succ_eq_append_getElem hkl, List.map_append, ← hxx]
                simp [tk, List.getElem?_eq_getElem hkl]
              rw [e, ← List.append_assoc, List.map_append]
              rfl
            have H_htake := Box.mk htake
            have H_hxx := Box.mk hxx
            have H_hkl := Box.mk hkl
            clear htake hxx hkl
            go_wp2_with (at_builtin; refine stop ?_)
            refine Stop.go ?_
            refine wpList_append_x _ rfl _ _ 22 rfl (w.heap.size + 1) 3 i0 (.int .i64 0) 1 8 Try.underlying22 hi hz0 hz1 hz2 rfl (by decide) (.slice av ((rn + 1) + k) cv) ((rn + 1) + k) _ rfl (ow2.alloc _) (some ⟨wr.heap.size, 0, none⟩) 1 1 [.int .i64 x] rfl rfl (cellsAt_one wr _ _) (oneCell_int _ _) (by unfold maxLen; omega) (by omega) (by simp; omega) ?_
            intro a5 c5 w5 o5 hg hk5
            have hb5 : Below w.heap.size w w5 := below_grownX (hbw.alloc (by omega) _) hg (by simp; omega) (fun q h => by have := (ow2.lt q h).1; omega)
            have O5 := blk_grown (O2.alloc _) hg (own_not fun ad e => by have := (ow2.addr ad e).1; omega)
            rw [← H_htake.out] at o5
            clear hg hk5 O_0 O_1 O_2 O_f0 O_f1 O_f2 O_l
            go_wp2_with fail
            go_roundw
            case rel => exact ⟨k + 1, a5, c5, by omega, by first | rfl | (rw [Nat.add_assoc]), by first | rfl | go_num, hb5, O5, by rw [← Nat.add_assoc]; exact o5⟩
            case measure => simp [intOf]; omega
          · have hge : (qn : Int) ≤ (k : Int) := by omega
            obtain rfl : k = qn := by omega
            have hall : seenL W rs ++ (q.take k).map (·.1) = allL W rs q := by rw [List.take_of_length_le (by have := H_h.out.qlen; omega)]; rfl
            rw [hall] at ow2
            clear hall
            obtain ⟨l, hl⟩ : ∃ l, allL W rs q = l := ⟨_, rfl⟩
            rw [hl] at ow2
            obtain ⟨N, hN⟩ : ∃ N, (rn + 1) + k = N := ⟨_, rfl⟩
            rw [hN] at ow2
            have hln : N = l.length := by have := ow2.len; simpa using this.symm
            have hN2 : N ≤ 25 := by omega
            clear hqw hge
            have hea : ∀ i, i < N → allBad l i = true → 8 = z := fun i hi hb => by rw [← H_hz.out]; exact (err_all (by rw [hl, ← hln]; exact hi) (by rw [hl]; exact hb)).symm
            have O2' := O2
            have H_hl := Box.mk hl
            have H_hln := Box.mk hln
            have H_hea := Box.mk hea
            clear hl hln hea
            rw [hN]
            have H_hN := Box.mk hN
            clear hN
            clear O2'
            obtain ⟨wy, hwy⟩ : ∃ wy, wy = wr := ⟨wr, rfl⟩
            subst hwy
            go_wp2_with fail
            clear O_0 O_1 O_2 O_f0 O_f1 O_f2 O_l
            go_loopw [5] (fun i wq => ∃ j : Nat, j ≤ N ∧ i = .int .i64 j ∧ Below wy.heap.size wy wq ∧ Box (∀ p, p < j → allBad l p = false)) (fun i _ => N - (intOf i).toNat)
            case atStart => exact ⟨0, Nat.zero_le _, rfl, Below.refl _ _, Box.mk (fun p hp => by omega)⟩
            case round =>
              obtain ⟨j, hj, rfl, hbq, Hj⟩ := hrel
              obtain ⟨wq, hwq⟩ : ∃ wq, wq = wr := ⟨wr, rfl⟩
              subst hwq
              by_cases hjlt : j < N
              · have hjI : (j : Int) < (N : Int) := by omega
                have hjl : j < l.length := by have := H_hln.out; omega
                obtain ⟨b0, oo0, rfl, cl⟩ := (ow2.later hbq).cellsAt.int (by omega)
                have cj := cl j hjl
                obtain ⟨x, hx⟩ : ∃ x, l[j]?.getD 0 = x := ⟨_, rfl⟩
                rw [hx] at cj
                clear cl
                cases htb : taskB x with
                | false =>
                  have he := H_hea.out j hjlt (by unfold allBad; rw [hx, htb]; rfl)
                  have hor : x < 0 ∨ (0 ≤ x ∧ 12 ≤ x) := by
                    by_cases h : x < 0
                    · exact .inl h
                    · right
                      refine ⟨by omega, ?_⟩
                      by_cases h2 : x < 12
                      · rw [taskB_iff.2 ⟨by omega, h2⟩] at htb; cases htb
                      · omega
                  have H_he := Box.mk he
                  have H_htb := Box.mk htb
                  have H_hx := Box.mk hx
                  clear he htb hx
                  clear Hj
                  rcases hor with hx0 | ⟨hx0, hx1⟩
                  · go_wp2_with fail
                    go_ret
                    exact ⟨ret_int H_he.out, bchain hbw hbq⟩
                  · go_wp2_with fail
                    go_ret
                    exact ⟨ret_int H_he.out, bchain hbw hbq⟩
                | true =>
                  obtain ⟨hx0, hx1⟩ := taskB_iff.1 htb
                  have H_htb := Box.mk htb
                  have H_hx := Box.mk hx
                  clear htb hx
                  go_wp2_with fail
                  go_loopw [6] (fun i wv => ∃ m : Nat, m ≤ j ∧ i = .int .i64 m ∧ Below wy.heap.size wy wv ∧ Box (∀ p, p < m → l[p]?.getD 0 ≠ x)) (fun i _ => j - (intOf i).toNat)
                  case atStart => exact ⟨0, Nat.zero_le _, rfl, hbq, Box.mk (fun p hp => by omega)⟩
                  case round =>
                    obtain ⟨m, hm, rfl, hbv, Hm⟩ := hrel
                    clear cj
                    by_cases hmj : m < j
                    · have hmI : (m : Int) < (j : Int) := by omega
                      have hmN : (m : Int) < (N : Int) := by omega
                      obtain ⟨_, _, e0, cl⟩ := (ow2.later hbv).cellsAt.int (by omega)
                      cases e0
                      have cj := cl j hjl
                      have cm := cl m (by omega)
                      rw [H_hx.out] at cj
                      obtain ⟨y, hy⟩ : ∃ y, l[m]?.getD 0 = y := ⟨_, rfl⟩
                      rw [hy] at cm
                      clear cl
                      by_cases hyx : y = x
                      · have he := H_hea.out j hjlt (by
                          unfold allBad
                          rw [H_hx.out]
                          have : (l.take j).contains x = true := by
                            rw [List.contains_iff_mem]
                            refine List.mem_take_iff_getElem.2 ⟨m, by omega, ?_⟩
                            rw [List.getElem?_eq_getElem (by omega)] at hy
                            exact hy.trans hyx
                          rw [this]; simp)
                        have hyx' : (y == x) = true := beq_iff_eq.2 hyx
                        clear hyx
                        have H_he := Box.mk he
                        have H_hy := Box.mk hy
                        clear he hy
                        clear Hm Hj
                        go_wp2_with fail
                        go_quiet (fail)
                        go_wp2_with fail
                        go_ret
                        exact ⟨ret_int H_he.out, below_drewN (bchain hbw hbv) _⟩
                      · have hyx' : (y == x) = false := beq_eq_false_iff_ne.2 hyx
                        have hn : Box (∀ p, p < m + 1 → l[p]?.getD 0 ≠ x) := Box.mk fun p hp => by
                          by_cases hpm : p < m
                          · exact Hm.out p hpm
                          · obtain rfl : p = m := by omega
                            rw [hy]; exact hyx
                        clear hyx
                        have H_hy := Box.mk hy
                        clear hy
                        clear Hm
                        go_wp2_with fail
                        go_quiet (fail)
                        go_wp2_with fail
                        go_roundw
                        case rel => exact ⟨m + 1, by omega, by first | rfl | go_num, below_drewN hbv _, hn⟩
                        case measure => simp [intOf]; omega
                    · have hmI : (j : Int) ≤ (m : Int) := by omega
                      have hn : Box (∀ p, p < j + 1 → allBad l p = false) := Box.mk fun p hp => by
                        by_cases hpj : p < j
                        · exact Hj.out p hpj
                        · obtain rfl : p = j := by omega
                          unfold allBad
                          rw [H_hx.out, H_htb.out]
                          cases hc : (l.take p).contains x with
                          | false => rfl
                          | true =>
                            rw [List.contains_iff_mem] at hc
                            obtain ⟨p', hp', e⟩ := List.mem_take_iff_getElem.1 hc
                            have := Hm.out p' (by omega)
                            rw [List.getElem?_eq_getElem (by omega)] at this
                            exact absurd e this
                      clear Hm Hj
                      go_wp2_with fail
                      go_roundw
                      case rel => exact ⟨j + 1, by omega, by first | rfl | go_num, hbv, hn⟩
                      case measure => simp [intOf]; omega
              · have hjI : (N : Int) ≤ (j : Int) := by omega
                obtain rfl : j = N := by omega
                have hgood : ∀ i, i < (allL W rs q).length → allBad (allL W rs q) i = false := fun i hi => by
                  rw [H_hl.out] at hi ⊢
                  exact Hj.out i (by rw [H_hln.out]; exact hi)
                have O3 := O2.later hbq
                have hbw3 := bchain hbw hbq
                have hz3 := hbq.size
                clear Hj ow2 O2 hbw hbq
                have H_hgood := Box.mk hgood
                clear hgood
                obtain ⟨O_0, O_1, O_2, O_f0, O_f1, O_f2, O_l⟩ := blk3 O3
                go_wp2_with fail
                go_loopw [7] (fun i wv => ∃ m : Nat, 1 ≤ m ∧ m ≤ rn + 1 ∧ i = .int .i64 m ∧ Below wq.heap.size wq wv ∧ Box (∀ p, p + 1 < m → p + 1 < rn → rs[p]?.getD 0 ≤ rs[p + 1]?.getD 0)) (fun i _ => rn + 1 - (intOf i).toNat)
                case atStart => exact ⟨1, Nat.le_refl _, by omega, rfl, Below.refl _ _, Box.mk (fun p hp => by omega)⟩
                case round =>
                  obtain ⟨m, hm1, hm2, rfl, hbv, Hm⟩ := hrel
                  have O4 := O3.later hbv
                  have hbw := bchain hbw3 hbv
                  clear O_0 O_1 O_2 O_f0 O_f1 O_f2 O_l
                  obtain ⟨O_0, O_1, O_2, O_f0, O_f1, O_f2, O_l⟩ := blk3 O4
                  by_cases hmr : m < rn
                  · have hmI : (m : Int) < (rn : Int) := by omega
                    obtain ⟨i, rfl⟩ : ∃ i, m = i + 1 := ⟨m - 1, by omega⟩
                    have hil : i + 1 < rs.length := by have := H_h.out.rlen; omega
                    obtain ⟨b1, oo1, rfl, cl⟩ := (H_h.out.later hbw).rs.int (by omega)
                    have ci := cl i (by omega)
                    have cs := cl (i + 1) hil
                    clear cl
                    obtain ⟨x, hx⟩ : ∃ x, rs[i]?.getD 0 = x := ⟨_, rfl⟩
                    obtain ⟨y, hy⟩ : ∃ y, rs[i + 1]?.getD 0 = y := ⟨_, rfl⟩
                    rw [hx] at ci; rw [hy] at cs
                    have e1 : ((i + 1 : Nat) : Int) - 1 = (i : Int) := by omega
                    have e2 : (i : Int) < (rn : Int) := by omega
                    have e3 : (i : Int) + 1 < (rn : Int) := by omega
                    have e4 : i < rn := by omega
                    by_cases hyx : y < x
                    · have he : 8 = z := by rw [← H_hz.out]; exact (err_sort hil (by rw [hx, hy]; exact hyx)).symm
                      have H_he := Box.mk he
                      have H_hx := Box.mk hx
                      have H_hy := Box.mk hy
                      have H_hil := Box.mk hil
                      clear he hx hy hil
                      clear Hm
                      go_wp2_with fail
                      go_quiet (fail)
                      go_wp2_with fail
                      go_ret
                      exact ⟨ret_int H_he.out, below_drewN hbw _⟩
                    · have hxy : x ≤ y := by omega
                      have hn : Box (∀ p, p + 1 < i + 1 + 1 → p + 1 < rn → rs[p]?.getD 0 ≤ rs[p + 1]?.getD 0) := Box.mk fun p hp hq => by
                        by_cases hpi : p + 1 < i + 1
                        · exact Hm.out p hpi hq
                        · obtain rfl : p = i := by omega
                          rw [hx, hy]; exact hxy
                      clear hyx
                      have H_hx := Box.mk hx
                      have H_hy := Box.mk hy
                      have H_hil := Box.mk hil
                      clear hx hy hil
                      clear Hm
                      go_wp2_with fail
                      go_quiet (fail)
                      go_wp2_with fail
                      go_roundw
                      case rel => exact ⟨i + 1 + 1, by omega, by omega, by first | rfl | go_num, below_drewN hbv _, hn⟩
                      case measure => simp [intOf]; omega
                  · have hmI : (rn : Int) ≤ (m : Int) := by omega
                    have hsort : ∀ p, p + 1 < rs.length → rs[p]?.getD 0 ≤ rs[p + 1]?.getD 0 := fun p hp => Hm.out p (by have := H_h.out.rlen; omega) (by have := H_h.out.rlen; omega)
                    clear Hm O3 O4 hbv hbw3
                    have H_hsort := Box.mk hsort
                    clear hsort
                    by_cases hr0 : rn = 0
                    · have hrz := Box.mk (show W = -1 ∨ rs = [] from .inr (List.eq_nil_of_length_eq_zero (by have := H_h.out.rlen; omega)))
                      have hrI0 : (rn : Int) ≤ 0 := by omega
                      have hrN0 : ¬ 0 < rn := by omega
                      clear hr0
                      have hqn := H_h.out.qlen
                      by_cases hq0 : k = 0
                      · have he : 0 = z := by rw [← H_hz.out]; exact (err_none H_hgood.out H_hsort.out hrz.out (.inl (List.eq_nil_of_length_eq_zero (by omega)))).symm
                        have hqI : (k : Int) = 0 := by omega
                        subst hq0
                        have H_he := Box.mk he
                        have H_hqn := Box.mk hqn
                        clear he hqn
                        go_wp2_with fail
                        refine wp_gen fun w11 hc11 => ?_
                        have hb11 : Below w.heap.size w w11 := bchain (by repeat' (first | with_reducible exact hbw | with_reducible refine Below.drew ?_ | with_reducible refine below_drewN ?_ _ | with_reducible refine Below.alloc ?_ (by have := hbw.size; first | (simp; done) | (simp; omega) | omega) _ | with_reducible refine Below.setCell ?_ (by first | (simp; done) | (simp; omega) | omega) _)) hc11
                        have hst11 : Below wr.heap.size wr w11 := bchain (by repeat' (first | with_reducible exact Below.refl _ _ | with_reducible refine Below.drew ?_ | with_reducible refine below_drewN ?_ _ | with_reducible refine Below.alloc ?_ (by first | (simp; done) | (simp; omega) | omega) _ | with_reducible refine Below.setCell ?_ (by first | (simp; done) | (simp; omega) | omega) _)) hc11
                        replace O_0 := cell_later hst11 O_0
                        replace O_1 := cell_later hst11 O_1
                        replace O_2 := cell_later hst11 O_2
                        replace O_l := Nat.lt_of_lt_of_le O_l hst11.size
                        clear hst11
                        have KO_0 := cell_on O_0
                        have KO_1 := cell_on O_1
                        have KO_2 := cell_on O_2
                        refine wp_region_on (by kernel_rfl) (by kernel_rfl) ?_
                        repeat (go_big_quiet_step (fail))
                        refine wpQuiet_nil ?_
                        intro w12 hc12
                        clear KO_0 KO_1 KO_2
                        have hb12 : Below w.heap.size w w12 := bchain (by repeat' (first | with_reducible exact hb11 | with_reducible refine Below.drew ?_ | with_reducible refine below_drewN ?_ _ | with_reducible refine Below.alloc ?_ (by have := hb11.size; first | (simp; done) | (simp; omega) | omega) _ | with_reducible refine Below.setCell ?_ (by first | (simp; done) | (simp; omega) | omega) _)) hc12
                        have hst12 : Below w11.heap.size w11 w12 := bchain (by repeat' (first | with_reducible exact Below.refl _ _ | with_reducible refine Below.drew ?_ | with_reducible refine below_drewN ?_ _ | with_reducible refine Below.alloc ?_ (by first | (simp; done) | (simp; omega) | omega) _ | with_reducible refine Below.setCell ?_ (by first | (simp; done) | (simp; omega) | omega) _)) hc12
                        replace O_0 := cell_later hst12 O_0
                        replace O_1 := cell_later hst12 O_1
                        replace O_2 := cell_later hst12 O_2
                        replace O_l := Nat.lt_of_lt_of_le O_l hst12.size
                        clear hst12
                        go_wp2_with fail
                        go_ret
                        exact ⟨ret_int H_he.out, (by repeat' (first | with_reducible exact hb12 | with_reducible refine Below.drew ?_ | with_reducible refine below_drewN ?_ _ | with_reducible refine Below.alloc ?_ (by have := hb12.size; first | (simp; done) | (simp; omega) | omega) _ | with_reducible refine Below.setCell ?_ (by first | (simp; done) | (simp; omega) | omega) _))⟩
                      · have hqI : (0 : Int) < (k : Int) := by omega
                        have hqN : 0 < k := by omega
                        have hq := (H_h.out.later hbw).qs
                        obtain ⟨b, oo, rfl, h1, h2, hcell⟩ := hq.waits (by omega)
                        clear hcell h1 h2
                        obtain ⟨x, hxx⟩ : ∃ x, tk q 0 = x := ⟨_, rfl⟩
                        obtain ⟨md0, hmm⟩ : ∃ y, md q 0 = y := ⟨_, rfl⟩
                        obtain ⟨cb, hcb⟩ : ∃ cb, canB W rs md0 = cb := ⟨_, rfl⟩
                        have qC := fun Wd => may_B W ra rs rn rc H_h.out.rlen (.slice (some ⟨b, oo, none⟩) k qc) x md0 cb hcb Wd
                        have he : (if cb = true then (8 : Int) else 0) = z := by
                          rw [← H_hz.out]
                          cases cb with
                          | true => exact (err_head (by omega) (by rw [hmm]; exact hcb)).symm
                          | false => exact (err_none H_hgood.out H_hsort.out hrz.out (.inr (by rw [hmm]; exact hcb))).symm
                        have H_he := Box.mk he
                        have H_hqn := Box.mk hqn
                        have H_hxx := Box.mk hxx
                        have H_hmm := Box.mk hmm
                        have H_hcb := Box.mk hcb
                        have H_qC := Box.mk qC
                        clear he hqn hxx hmm hcb qC
                        cases cb
                        · skip
                          go_wp2_with fail
                          refine wp_gen fun w11 hc11 => ?_
                          have hb11 : Below w.heap.size w w11 := bchain (by repeat' (first | with_reducible exact hbw | with_reducible refine Below.drew ?_ | with_reducible refine below_drewN ?_ _ | with_reducible refine Below.alloc ?_ (by have := hbw.size; first | (simp; done) | (simp; omega) | omega) _ | with_reducible refine Below.setCell ?_ (by first | (simp; done) | (simp; omega) | omega) _)) hc11
                          have hst11 : Below wr.heap.size wr w11 := bchain (by repeat' (first | with_reducible exact Below.refl _ _ | with_reducible refine Below.drew ?_ | with_reducible refine below_drewN ?_ _ | with_reducible refine Below.alloc ?_ (by first | (simp; done) | (simp; omega) | omega) _ | with_reducible refine Below.setCell ?_ (by first | (simp; done) | (simp; omega) | omega) _)) hc11
                          replace O_0 := cell_later hst11 O_0
                          replace O_1 := cell_later hst11 O_1
                          replace O_2 := cell_later hst11 O_2
                          replace O_l := Nat.lt_of_lt_of_le O_l hst11.size
                          replace hq := hq.later hst11
                          clear hst11
                          have KO_0 := cell_on O_0
                          have KO_1 := cell_on O_1
                          have KO_2 := cell_on O_2
                          obtain ⟨b', oo', e0, _, _, hcell⟩ := hq.waits (by have := H_hqn.out; omega)
                          cases e0
                          obtain ⟨c0, c1⟩ := hcell 0 (by have := H_hqn.out; omega)
                          clear hcell
                          rw [H_hxx.out] at c0
                          rw [H_hmm.out] at c1
                          simp only [Nat.zero_mul, Nat.add_zero] at c0 c1
                          have d0 := cell_on c0
                          have d1 := cell_on c1
                          refine wp_region_on (by kernel_rfl) (by kernel_rfl) ?_
                          repeat (go_big_quiet_step ((first | (go_at_call 27; with_reducible exact calls_on (H_qC.out _)))))
                          refine wpQuiet_nil ?_
                          intro w12 hc12
                          clear KO_0 KO_1 KO_2
                          have hb12 : Below w.heap.size w w12 := bchain (by repeat' (first | with_reducible exact hb11 | with_reducible refine Below.drew ?_ | with_reducible refine below_drewN ?_ _ | with_reducible refine Below.alloc ?_ (by have := hb11.size; first | (simp; done) | (simp; omega) | omega) _ | with_reducible refine Below.setCell ?_ (by first | (simp; done) | (simp; omega) | omega) _)) hc12
                          have hst12 : Below w11.heap.size w11 w12 := bchain (by repeat' (first | with_reducible exact Below.refl _ _ | with_reducible refine Below.drew ?_ | with_reducible refine below_drewN ?_ _ | with_reducible refine Below.alloc ?_ (by first | (simp; done) | (simp; omega) | omega) _ | with_reducible refine Below.setCell ?_ (by first | (simp; done) | (simp; omega) | omega) _)) hc12
                          replace O_0 := cell_later hst12 O_0
                          replace O_1 := cell_later hst12 O_1
                          replace O_2 := cell_later hst12 O_2
                          replace O_l := Nat.lt_of_lt_of_le O_l hst12.size
                          replace hq := hq.later hst12
                          clear hst12
                          go_wp2_with fail
                          go_ret
                          exact ⟨ret_int H_he.out, (by repeat' (first | with_reducible exact hb12 | with_reducible refine Below.drew ?_ | with_reducible refine below_drewN ?_ _ | with_reducible refine Below.alloc ?_ (by have := hb12.size; first | (simp; done) | (simp; omega) | omega) _ | with_reducible refine Below.setCell ?_ (by first | (simp; done) | (simp; omega) | omega) _))⟩
                        · skip
                          go_wp2_with fail
                          refine wp_gen fun w11 hc11 => ?_
                          have hb11 : Below w.heap.size w w11 := bchain (by repeat' (first | with_reducible exact hbw | with_reducible refine Below.drew ?_ | with_reducible refine below_drewN ?_ _ | with_reducible refine Below.alloc ?_ (by have := hbw.size; first | (simp; done) | (simp; omega) | omega) _ | with_reducible refine Below.setCell ?_ (by first | (simp; done) | (simp; omega) | omega) _)) hc11
                          have hst11 : Below wr.heap.size wr w11 := bchain (by repeat' (first | with_reducible exact Below.refl _ _ | with_reducible refine Below.drew ?_ | with_reducible refine below_drewN ?_ _ | with_reducible refine Below.alloc ?_ (by first | (simp; done) | (simp; omega) | omega) _ | with_reducible refine Below.setCell ?_ (by first | (simp; done) | (simp; omega) | omega) _)) hc11
                          replace O_0 := cell_later hst11 O_0
                          replace O_1 := cell_later hst11 O_1
                          replace O_2 := cell_later hst11 O_2
                          replace O_l := Nat.lt_of_lt_of_le O_l hst11.size
                          replace hq := hq.later hst11
                          clear hst11
                          have KO_0 := cell_on O_0
                          have KO_1 := cell_on O_1
                          have KO_2 := cell_on O_2
                          obtain ⟨b', oo', e0, _, _, hcell⟩ := hq.waits (by have := H_hqn.out; omega)
                          cases e0
                          obtain ⟨c0, c1⟩ := hcell 0 (by have := H_hqn.out; omega)
                          clear hcell
                          rw [H_hxx.out] at c0
                          rw [H_hmm.out] at c1
                          simp only [Nat.zero_mul, Nat.add_zero] at c0 c1
                          have d0 := cell_on c0
                          have d1 := cell_on c1
                          refine wp_region_on (by kernel_rfl) (by kernel_rfl) ?_
                          repeat (go_big_quiet_step ((first | (go_at_call 27; with_reducible exact calls_on (H_qC.out _)))))
                          refine wpQuiet_nil ?_
                          intro w12 hc12
                          clear KO_0 KO_1 KO_2
                          have hb12 : Below w.heap.size w w12 := bchain (by repeat' (first | with_reducible exact hb11 | with_reducible refine Below.drew ?_ | with_reducible refine below_drewN ?_ _ | with_reducible refine Below.alloc ?_ (by have := hb11.size; first | (simp; done) | (simp; omega) | omega) _ | with_reducible refine Below.setCell ?_ (by first | (simp; done) | (simp; omega) | omega) _)) hc12
                          have hst12 : Below w11.heap.size w11 w12 := bchain (by repeat' (first | with_reducible exact Below.refl _ _ | with_reducible refine Below.drew ?_ | with_reducible refine below_drewN ?_ _ | with_reducible refine Below.alloc ?_ (by first | (simp; done) | (simp; omega) | omega) _ | with_reducible refine Below.setCell ?_ (by first | (simp; done) | (simp; omega) | omega) _)) hc12
                          replace O_0 := cell_later hst12 O_0
                          replace O_1 := cell_later hst12 O_1
                          replace O_2 := cell_later hst12 O_2
                          replace O_l := Nat.lt_of_lt_of_le O_l hst12.size
                          replace hq := hq.later hst12
                          clear hst12
                          go_wp2_with fail
                          go_ret
                          exact ⟨ret_int H_he.out, (by repeat' (first | with_reducible exact hb12 | with_reducible refine Below.drew ?_ | with_reducible refine below_drewN ?_ _ | with_reducible refine Below.alloc ?_ (by have := hb12.size; first | (simp; done) | (simp; omega) | omega) _ | with_reducible refine Below.setCell ?_ (by first | (simp; done) | (simp; omega) | omega) _))⟩
                    · have he : 8 = z := by rw [← H_hz.out]; exact (err_both H_hW.out (by have := H_h.out.rlen; omega)).symm
                      have hrI0 : (0 : Int) < (rn : Int) := by omega
                      have hrN0 : 0 < rn := by omega
                      clear hr0
                      have H_he := Box.mk he
                      clear he
                      go_wp2_with fail
                      refine wp_gen fun w11 hc11 => ?_
                      have hb11 : Below w.heap.size w w11 := bchain (by repeat' (first | with_reducible exact hbw | with_reducible refine Below.drew ?_ | with_reducible refine below_drewN ?_ _ | with_reducible refine Below.alloc ?_ (by have := hbw.size; first | (simp; done) | (simp; omega) | omega) _ | with_reducible refine Below.setCell ?_ (by first | (simp; done) | (simp; omega) | omega) _)) hc11
                      have hst11 : Below wr.heap.size wr w11 := bchain (by repeat' (first | with_reducible exact Below.refl _ _ | with_reducible refine Below.drew ?_ | with_reducible refine below_drewN ?_ _ | with_reducible refine Below.alloc ?_ (by first | (simp; done) | (simp; omega) | omega) _ | with_reducible refine Below.setCell ?_ (by first | (simp; done) | (simp; omega) | omega) _)) hc11
                      replace O_0 := cell_later hst11 O_0
                      replace O_1 := cell_later hst11 O_1
                      replace O_2 := cell_later hst11 O_2
                      replace O_l := Nat.lt_of_lt_of_le O_l hst11.size
                      clear hst11
                      have KO_0 := cell_on O_0
                      have KO_1 := cell_on O_1
                      have KO_2 := cell_on O_2
                      refine wp_region_on (by kernel_rfl) (by kernel_rfl) ?_
                      repeat (go_big_quiet_step (fail))
                      refine wpQuiet_nil ?_
                      intro w12 hc12
                      clear KO_0 KO_1 KO_2
                      have hb12 : Below w.heap.size w w12 := bchain (by repeat' (first | with_reducible exact hb11 | with_reducible refine Below.drew ?_ | with_reducible refine below_drewN ?_ _ | with_reducible refine Below.alloc ?_ (by have := hb11.size; first | (simp; done) | (simp; omega) | omega) _ | with_reducible refine Below.setCell ?_ (by first | (simp; done) | (simp; omega) | omega) _)) hc12
                      have hst12 : Below w11.heap.size w11 w12 := bchain (by repeat' (first | with_reducible exact Below.refl _ _ | with_reducible refine Below.drew ?_ | with_reducible refine below_drewN ?_ _ | with_reducible refine Below.alloc ?_ (by first | (simp; done) | (simp; omega) | omega) _ | with_reducible refine Below.setCell ?_ (by first | (simp; done) | (simp; omega) | omega) _)) hc12
                      replace O_0 := cell_later hst12 O_0
                      replace O_1 := cell_later hst12 O_1
                      replace O_2 := cell_later hst12 O_2
                      replace O_l := Nat.lt_of_lt_of_le O_l hst12.size
                      clear hst12
                      go_wp2_with fail
                      go_ret
                      exact ⟨ret_int H_he.out, (by repeat' (first | with_reducible exact hb12 | with_reducible refine Below.drew ?_ | with_reducible refine below_drewN ?_ _ | with_reducible refine Below.alloc ?_ (by have := hb12.size; first | (simp; done) | (simp; omega) | omega) _ | with_reducible refine Below.setCell ?_ (by first | (simp; done) | (simp; omega) | omega) _))⟩

end Go.Proofs.Ytnkbbfeaodppgaa
