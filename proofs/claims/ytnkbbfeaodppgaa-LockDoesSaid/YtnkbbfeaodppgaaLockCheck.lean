/- The package lock: Check. -/
import Derived.Test.YtnkbbfeaodppgaaLockHolds
namespace Go.Proofs.Ytnkbbfeaodppgaa
set_option linter.unusedSimpArgs false
set_option linter.unusedVariables false
set_option linter.unnecessarySimpa false
open Go.RowKit

theorem task_B (t : Int) (b : Bool) (hb : taskB t = b) (w : World) : Calls Try.prog 39 #[.int .i64 t] w fun e w' => e = .returned (.bool b) ∧ w = w' := hb ▸ task_any t w

set_option maxRecDepth 100000 in
set_option maxHeartbeats 4000000 in
theorem check_any (W : Int) (rs : List Int) (q : Waits) (ra qa : Option Addr) (rn rc qn qc : Nat) (w : World) (h : LockIn w rs q ra qa rn qn) :
    Calls Try.prog 24 #[.agg #[.int .i64 W, .slice ra rn rc, .slice qa qn qc]] w fun e w' =>
      e = .returned (.int .i64 (lockErr W rs q)) ∧ Below w.heap.size w w' := by
  obtain ⟨i0, hi, hz0, hz1, hz2⟩ := info_parts info_i64
  have hrm := h.rmax
  have hqm := h.qmax
  obtain ⟨z, hz⟩ : ∃ z, lockErr W rs q = z := ⟨_, rfl⟩
  rw [hz]
  have H_h := Box.mk h
  have H_hz := Box.mk hz
  clear h hz
  go_enter Try.func24, Try.ntmps24
  have hb0 := Below.refl w.heap.size w
  go_wp2_with fail
  with_reducible refine (cloneI_any ra rn rc rs _ H_h.out.rlen (H_h.out.later (below_alloc _ _)).rs (by have := H_h.out.rlen; omega)).mono ?_
  rintro e w1 ⟨a1, c1, rfl, o1', hc1⟩
  have hb1 : Below w.heap.size w w1 := bchain (by repeat' (first | with_reducible exact hb0 | with_reducible refine Below.drew ?_ | with_reducible refine below_drewN ?_ _ | with_reducible refine Below.alloc ?_ (by have := hb0.size; first | (simp; done) | (simp; omega) | omega) _ | with_reducible refine Below.setCell ?_ (by first | (simp; done) | (simp; omega) | omega) _)) hc1
  have O_0 : w1.cell? ⟨w.heap.size, 0, none⟩ = some (.int .i64 W) := (hc1.cell (p := ⟨w.heap.size, 0, none⟩) (by first | (simp; done) | (simp; omega))).trans (by first | (simp; done) | go_simp)
  have O_1 : w1.cell? ⟨w.heap.size, 1, none⟩ = some (.slice ra rn rc) := (hc1.cell (p := ⟨w.heap.size, 1, none⟩) (by first | (simp; done) | (simp; omega))).trans (by first | (simp; done) | go_simp)
  have O_2 : w1.cell? ⟨w.heap.size, 2, none⟩ = some (.slice qa qn qc) := (hc1.cell (p := ⟨w.heap.size, 2, none⟩) (by first | (simp; done) | (simp; omega))).trans (by first | (simp; done) | go_simp)
  have O_l : w.heap.size < w1.heap.size := Nat.lt_of_lt_of_le (by first | (simp; done) | (simp; omega)) hc1.size
  clear hc1 hb0
  have o1 : OwnX w1 (w.heap.size + 1) 3 1 (.slice a1 rn c1) rn (rs.map (Value.int .i64)) := o1'.mono (by simp)
  clear o1'
  have hrs := (H_h.out.later hb1).rs
  go_wp2_with fail
  go_loopw [14] (fun i wr => ∃ k : Nat, k ≤ rn ∧ i = .int .i64 k ∧ wr = w1 ∧ Box (∀ j, j < k → rsBad rs j = false)) (fun i _ => rn - (intOf i).toNat)
  case atStart => exact ⟨0, Nat.zero_le _, rfl, rfl, Box.mk (fun j hj => by omega)⟩
  case round =>
    obtain ⟨k, hk, rfl, hwr, Hall⟩ := hrel
    obtain rfl : w1 = wr := hwr.symm
    clear hwr
    by_cases hlt : k < rn
    · have hlt' : (k : Int) < (rn : Int) := by omega
      have hkl : k < rs.length := by have := H_h.out.rlen; omega
      obtain ⟨b, o, rfl, cl⟩ := hrs.int (by omega)
      have ck := cl k hkl
      obtain ⟨t, ht⟩ : ∃ t, rs[k]?.getD 0 = t := ⟨_, rfl⟩
      rw [ht] at ck
      cases htb : taskB t with
      | false =>
        have he : 8 = z := by rw [← H_hz.out]; exact (err_rs (rsOk_bad hkl (by unfold rsBad; rw [ht, htb]; rfl))).symm
        have hT := task_B t false htb
        have H_he := Box.mk he
        have H_hT := Box.mk hT
        have H_ht := Box.mk ht
        have H_htb := Box.mk htb
        have H_hkl := Box.mk hkl
        clear he hT ht htb hkl
        clear Hall cl o1 hrs
        go_wp2_with fail
        with_reducible refine (H_hT.out _).mono ?_
        rintro e wx ⟨rfl, rfl⟩
        go_wp2_with fail
        go_ret
        exact ⟨ret_int H_he.out, hb1⟩
      | true =>
        have hT := task_B t true htb
        cases k with
        | zero =>
          rw [Nat.add_zero] at ck
          have hbad : rsBad rs 0 = false := by unfold rsBad; rw [ht, htb]; rfl
          have hall : Box (∀ j, j < 0 + 1 → rsBad rs j = false) := Box.mk fun j hj => by
            obtain rfl : j = 0 := by omega
            exact hbad
          have H_hT := Box.mk hT
          have H_ht := Box.mk ht
          have H_htb := Box.mk htb
          have H_hkl := Box.mk hkl
          have H_hbad := Box.mk hbad
          clear hT ht htb hkl hbad
          clear Hall cl o1 hrs
          go_wp2_with fail
          with_reducible refine (H_hT.out _).mono ?_
          rintro e wx ⟨rfl, rfl⟩
          go_wp2_with fail
          go_roundw
          case rel => exact ⟨0 + 1, by omega, by go_num, by first | rfl | trivial, hall⟩
          case measure => simp [intOf]; omega
        | succ k =>
          have cp := cl k (by omega)
          obtain ⟨p, hp⟩ : ∃ p, rs[k]?.getD 0 = p := ⟨_, rfl⟩
          rw [hp] at cp
          have e1 : ((k + 1 : Nat) : Int) - 1 = (k : Int) := by omega
          have hk0 : (0 : Int) < ((k + 1 : Nat) : Int) := by omega
          by_cases htp : t ≤ p
          · have he : 8 = z := by rw [← H_hz.out]; exact (err_rs (rsOk_bad hkl (by unfold rsBad; rw [ht, htb, Nat.add_sub_cancel, hp]; simp [htp]))).symm
            have H_he := Box.mk he
            have H_hT := Box.mk hT
            have H_ht := Box.mk ht
            have H_htb := Box.mk htb
            have H_hkl := Box.mk hkl
            have H_hp := Box.mk hp
            clear he hT ht htb hkl hp
            clear Hall cl o1 hrs
            go_wp2_with fail
            with_reducible refine (H_hT.out _).mono ?_
            rintro e wx ⟨rfl, rfl⟩
            go_wp2_with fail
            go_ret
            exact ⟨ret_int H_he.out, hb1⟩
          · have hbad : rsBad rs (k + 1) = false := by unfold rsBad; rw [ht, htb, Nat.add_sub_cancel, hp]; simp; omega
            have hpt : p < t := by omega
            have hall : Box (∀ j, j < k + 1 + 1 → rsBad rs j = false) := Box.mk fun j hj => by
              by_cases hjk : j < k + 1
              · exact Hall.out j hjk
              · obtain rfl : j = k + 1 := by omega
                exact hbad
            have H_hT := Box.mk hT
            have H_ht := Box.mk ht
            have H_htb := Box.mk htb
            have H_hkl := Box.mk hkl
            have H_hp := Box.mk hp
            have H_hbad := Box.mk hbad
            clear hT ht htb hkl hp hbad
            clear Hall cl o1 hrs htp
            go_wp2_with fail
            with_reducible refine (H_hT.out _).mono ?_
            rintro e wx ⟨rfl, rfl⟩
            go_wp2_with fail
            go_roundw
            case rel => exact ⟨k + 1 + 1, by omega, by go_num, by first | rfl | trivial, hall⟩
            case measure => simp [intOf]; omega
    · have hge : (rn : Int) ≤ (k : Int) := by omega
      have hok : rsOk rs = true := rsOk_good fun j hj => Hall.out j (by have := H_h.out.rlen; omega)
      have H_hok := Box.mk hok
      clear hok
      clear Hall hrs
      have hsz0 : w.heap.size + 1 = (w.alloc (.cells #[.int .i64 W, .slice ra rn rc, .slice qa qn qc] 25)).heap.size := by simp
      by_cases hW : W = -1
      · have h1 : (W != -1) = false := by simp [hW]
        have hsl : seenL W rs = rs := by unfold seenL; rw [if_pos hW]
        have hnw : ¬ (W ≠ -1 ∧ (taskB W = false ∨ 0 < rs.length)) := fun h => h.1 hW
        clear hW
        have hsl2 := Box.mk hsl
        have hnw2 := Box.mk hnw
        clear hsl hnw
        obtain ⟨seen, hseen⟩ : ∃ seen, seenL W rs = seen := ⟨_, rfl⟩
        have ow0 : OwnX w1 (w.heap.size + 1) 3 1 (.slice a1 rn c1) rn (seen.map (Value.int .i64)) := by rw [← hseen]; exact (by rw [hsl2.out]; exact o1)
        have hml : rn = seen.length := by have := ow0.len; simpa using this.symm
        have hm1 : rn ≤ 1000001 := (by omega)
        have hbA : Below (w.heap.size + 1) w1 w1 := (Below.refl _ _)
        have H_hseen := Box.mk hseen
        have H_hml := Box.mk hml
        clear hseen hml
        have K_0 : w1.cell? ⟨w.heap.size, 0, none⟩ = some (.int .i64 W) := (hbA.cell (p := ⟨w.heap.size, 0, none⟩) (by simp)).trans O_0
        have K_1 : w1.cell? ⟨w.heap.size, 1, none⟩ = some (.slice ra rn rc) := (hbA.cell (p := ⟨w.heap.size, 1, none⟩) (by simp)).trans O_1
        have K_2 : w1.cell? ⟨w.heap.size, 2, none⟩ = some (.slice qa qn qc) := (hbA.cell (p := ⟨w.heap.size, 2, none⟩) (by simp)).trans O_2
        clear o1
        go_wp2_with fail
        go_loopw [3, 57] (fun s i wr => ∃ (k : Nat) (av : Option Addr) (cv m : Nat), k ≤ qn ∧ i = .int .i64 k ∧ s = .slice av m cv ∧ Below w.heap.size w wr ∧ Below (w.heap.size + 1) w1 wr ∧ OwnX wr (w.heap.size + 1) 3 1 (.slice av m cv) m ((seen ++ (q.take k).map (·.1)).map (Value.int .i64)) ∧ Box (m = seen.length + k) ∧ Box (freshB seen q = freshB (seen ++ (q.take k).map (·.1)) (q.drop k))) (fun _ i _ => qn - (intOf i).toNat)
        case atStart => exact ⟨0, _, _, rn, Nat.zero_le _, rfl, rfl, hb1, hbA, by simpa using ow0, Box.mk (by have := H_hml.out; omega), Box.mk (by simp)⟩
        case round =>
          obtain ⟨k, av, cv, m, hk, rfl, rfl, hbw, hbk, ow, Hm, Hf⟩ := hrel
          have hO0 : wr.cell? ⟨w.heap.size, 0, none⟩ = some (.int .i64 W) := (hbk.cell (p := ⟨w.heap.size, 0, none⟩) (by simp)).trans O_0
          have hO1 : wr.cell? ⟨w.heap.size, 1, none⟩ = some (.slice ra rn rc) := (hbk.cell (p := ⟨w.heap.size, 1, none⟩) (by simp)).trans O_1
          have hO2 : wr.cell? ⟨w.heap.size, 2, none⟩ = some (.slice qa qn qc) := (hbk.cell (p := ⟨w.heap.size, 2, none⟩) (by simp)).trans O_2
          have hOl : w.heap.size < wr.heap.size := Nat.lt_of_lt_of_le O_l hbk.size
          have hq := (H_h.out.later hbw).qs
          have hsz1 : w.heap.size + 1 ≤ wr.heap.size := hOl
          clear ow0 hbA K_0 K_1 K_2
          by_cases hlt : k < qn
          · have hlt' : (k : Int) < (qn : Int) := by omega
            have hkl : k < q.length := by have := H_h.out.qlen; omega
            obtain ⟨b, oo, rfl, h1, h2, hcell⟩ := hq.waits (by omega)
            obtain ⟨c0, c1⟩ := hcell k hkl
            clear hcell O_0 O_1 O_2 O_l
            obtain ⟨x, hxx⟩ : ∃ x, tk q k = x := ⟨_, rfl⟩
            obtain ⟨md0, hmm⟩ : ∃ y, md q k = y := ⟨_, rfl⟩
            have hfr := fresh_at hkl (seen ++ (q.take k).map (·.1))
            have htake : seen ++ (q.take (k + 1)).map (·.1) = seen ++ (q.take k).map (·.1) ++ [x] := by
              rw [List.take_succ_eq_append_getElem hkl, List.map_append, ← List.append_assoc, ← hxx]
              simp [tk, List.getElem?_eq_getElem hkl]
            obtain ⟨sk, hsk⟩ : ∃ sk, seen ++ (q.take k).map (·.1) = sk := ⟨_, rfl⟩
            have Hf' := Hf.out
            rw [hsk] at ow hfr htake Hf'
            rw [hxx] at hfr c0
            rw [hmm] at c1
            have hmk : m = sk.length := by have := ow.len; simpa using this.symm
            have hm2 : m ≤ 2000002 := by have := Hm.out; have := H_hml.out; omega
            cases htb : taskB x with
            | false =>
              have he : 8 = z := by
                rw [← H_hz.out]
                refine (err_q ?_).symm
                rw [H_hseen.out, Hf', hfr, htb]; rfl
              have hT := task_B x false htb
              have H_he := Box.mk he
              have H_hT := Box.mk hT
              have H_hxx := Box.mk hxx
              have H_hmm := Box.mk hmm
              have H_hfr := Box.mk hfr
              have H_htake := Box.mk htake
              have H_hsk := Box.mk hsk
              have H_hmk := Box.mk hmk
              have H_htb := Box.mk htb
              have H_hkl := Box.mk hkl
              have H_Hf' := Box.mk Hf'
              clear he hT hxx hmm hfr htake hsk hmk htb hkl Hf'
              clear Hf
              go_wp2_with fail
              with_reducible refine (H_hT.out _).mono ?_
              rintro e wx ⟨rfl, rfl⟩
              go_wp2_with fail
              go_ret
              exact ⟨ret_int H_he.out, by repeat' (first | with_reducible exact hbw | with_reducible refine Below.alloc ?_ (by omega) _)⟩
            | true =>
              have hT := task_B x true htb
              cases hcn : sk.contains x with
              | true =>
                have he : 8 = z := by
                  rw [← H_hz.out]
                  refine (err_q ?_).symm
                  rw [H_hseen.out, Hf', hfr, htb, hcn]; rfl
                have H_he := Box.mk he
                have H_hT := Box.mk hT
                have H_hxx := Box.mk hxx
                have H_hmm := Box.mk hmm
                have H_hfr := Box.mk hfr
                have H_htake := Box.mk htake
                have H_hsk := Box.mk hsk
                have H_hmk := Box.mk hmk
                have H_htb := Box.mk htb
                have H_hkl := Box.mk hkl
                have H_Hf' := Box.mk Hf'
                have H_hcn := Box.mk hcn
                clear he hT hxx hmm hfr htake hsk hmk htb hkl Hf' hcn
                clear Hf
                go_wp2_with fail
                with_reducible refine (H_hT.out _).mono ?_
                rintro e wx ⟨rfl, rfl⟩
                go_wp2_with fail
                with_reducible refine (containsI_any sk x av m cv _ H_hmk.out (ow.alloc _).cellsAt (by unfold maxLen; omega)).mono ?_
                rintro e w4 ⟨rfl, hc4⟩
                have hb4 : Below w.heap.size w w4 := bchain (hbw.alloc (by omega) _) hc4
                rw [H_hcn.out]
                go_wp2_with fail
                go_ret
                exact ⟨ret_int H_he.out, hb4⟩
              | false =>
                have hnext : Box (freshB seen q = freshB (sk ++ [x]) (q.drop (k + 1))) := Box.mk (by rw [Hf', hfr, htb, hcn]; simp)
                have H_hT := Box.mk hT
                have H_hxx := Box.mk hxx
                have H_hmm := Box.mk hmm
                have H_hfr := Box.mk hfr
                have H_htake := Box.mk htake
                have H_hsk := Box.mk hsk
                have H_hmk := Box.mk hmk
                have H_htb := Box.mk htb
                have H_hkl := Box.mk hkl
                have H_Hf' := Box.mk Hf'
                have H_hcn := Box.mk hcn
                clear hT hxx hmm hfr htake hsk hmk htb hkl Hf' hcn
                clear Hf
                go_wp2_with fail
                with_reducible refine (H_hT.out _).mono ?_
                rintro e wx ⟨rfl, rfl⟩
                go_wp2_with fail
                with_reducible refine (containsI_any sk x av m cv _ H_hmk.out (ow.alloc _).cellsAt (by unfold maxLen; omega)).mono ?_
                rintro e w4 ⟨rfl, hc4⟩
                have hb4 : Below w.heap.size w w4 := bchain (hbw.alloc (by omega) _) hc4
                have hbk4 : Below (w.heap.size + 1) w1 w4 := (hbk.alloc hsz1 _).trans (hc4.mono (by simp; omega))
                have T_0 : w4.cell? ⟨wr.heap.size, 0, none⟩ = some (.int .i64 x) := (hc4.cell (p := ⟨wr.heap.size, 0, none⟩) (by simp)).trans (by simp)
                have ow4 := (ow.alloc (.cells #[.int .i64 x, .bool md0] 34)).later hc4
                have z4 := hc4.size
                simp only [World.size_alloc] at z4
                have hsz4 : w.heap.size + 1 ≤ w4.heap.size := by omega
                rw [H_hcn.out]
                clear hc4 ow
                go_wp2_with (at_builtin; refine stop ?_)
                refine Stop.go ?_
                refine wpList_append_x _ rfl _ _ 22 rfl (w.heap.size + 1) 3 i0 (.int .i64 0) 1 8 Try.underlying22 hi hz0 hz1 hz2 rfl (by decide) (.slice av m cv) m _ rfl (ow4.alloc _) (some ⟨w4.heap.size, 0, none⟩) 1 1 [.int .i64 x] rfl rfl (cellsAt_one w4 _ _) (oneCell_int _ _) (by unfold maxLen; omega) (by omega) (by simp; omega) ?_
                intro a5 c5 w5 o5 hg hk5
                have hb5 : Below w.heap.size w w5 := below_grownX (hb4.alloc (by omega) _) hg (by simp; omega) (fun q h => by have := (ow4.lt q h).1; omega)
                have hbk5 : Below (w.heap.size + 1) w1 w5 := below_grownX (hbk4.alloc hsz4 _) hg (by simp; omega) (fun q h => (ow4.lt q h).1)
                go_wp2_with fail
                go_roundw
                case rel =>
                  refine ⟨k + 1, a5, c5, m + 1, by omega, by go_num, rfl, hb5, hbk5, ?_, Box.mk (by have := Hm.out; omega), ?_⟩
                  · rw [H_htake.out]
                    simpa using o5
                  · rw [H_htake.out]; exact hnext
                case measure => simp [intOf]; omega
          · have hge : (qn : Int) ≤ (k : Int) := by omega
            have hfin : freshB seen q = true := by
              rw [Hf.out, List.drop_of_length_le (by have := H_h.out.qlen; omega)]; rfl
            have hend : lastZ W rs q = z := by
              rw [← H_hz.out, err_end H_hok.out hnw2.out (by rw [H_hseen.out]; exact hfin)]; rfl
            clear ow Hf Hm O_0 O_1 O_2 O_l
            have O_0 := hO0
            have O_1 := hO1
            have O_2 := hO2
            have O_l := hOl
            clear hO0 hO1 hO2 hOl
            have hqn := H_h.out.qlen
            by_cases hq0 : qn = 0
            · have hl0 : lastZ W rs q = 0 := by unfold lastZ; rw [if_neg (by omega)]
              have he : 0 = z := by rw [← hend, hl0]
              have hqI : (qn : Int) = 0 := by omega
              subst hq0
              have H_he := Box.mk he
              have H_hl0 := Box.mk hl0
              have H_hend := Box.mk hend
              have H_hfin := Box.mk hfin
              have H_hqn := Box.mk hqn
              clear he hl0 hend hfin hqn
              go_wp2_with fail
              refine wp_gen fun w11 hc11 => ?_
              have hb11 : Below w.heap.size w w11 := bchain (by repeat' (first | with_reducible exact hbw | with_reducible refine Below.drew ?_ | with_reducible refine below_drewN ?_ _ | with_reducible refine Below.alloc ?_ (by have := hbw.size; first | (simp; done) | (simp; omega) | omega) _ | with_reducible refine Below.setCell ?_ (by first | (simp; done) | (simp; omega) | omega) _)) hc11
              have hst11 : Below wr.heap.size wr w11 := bchain (by repeat' (first | with_reducible exact Below.refl _ _ | with_reducible refine Below.drew ?_ | with_reducible refine below_drewN ?_ _ | with_reducible refine Below.alloc ?_ (by first | (simp; done) | (simp; omega) | omega) _ | with_reducible refine Below.setCell ?_ (by first | (simp; done) | (simp; omega) | omega) _)) hc11
              replace O_0 := cell_later hst11 O_0
              replace O_1 := cell_later hst11 O_1
              replace O_2 := cell_later hst11 O_2
              replace O_l := Nat.lt_of_lt_of_le O_l hst11.size
              clear hst11
              have KO_0 := cell_on O_0
              have KO_1 := cell_on O_1
              have KO_2 := cell_on O_2
              refine wp_region_on (by kernel_rfl) (by kernel_rfl) ?_
              repeat (go_big_quiet_step (fail))
              refine wpQuiet_nil ?_
              intro w12 hc12
              clear KO_0 KO_1 KO_2
              have hb12 : Below w.heap.size w w12 := bchain (by repeat' (first | with_reducible exact hb11 | with_reducible refine Below.drew ?_ | with_reducible refine below_drewN ?_ _ | with_reducible refine Below.alloc ?_ (by have := hb11.size; first | (simp; done) | (simp; omega) | omega) _ | with_reducible refine Below.setCell ?_ (by first | (simp; done) | (simp; omega) | omega) _)) hc12
              have hst12 : Below w11.heap.size w11 w12 := bchain (by repeat' (first | with_reducible exact Below.refl _ _ | with_reducible refine Below.drew ?_ | with_reducible refine below_drewN ?_ _ | with_reducible refine Below.alloc ?_ (by first | (simp; done) | (simp; omega) | omega) _ | with_reducible refine Below.setCell ?_ (by first | (simp; done) | (simp; omega) | omega) _)) hc12
              replace O_0 := cell_later hst12 O_0
              replace O_1 := cell_later hst12 O_1
              replace O_2 := cell_later hst12 O_2
              replace O_l := Nat.lt_of_lt_of_le O_l hst12.size
              clear hst12
              go_wp2_with fail
              go_ret
              exact ⟨ret_int H_he.out, (by repeat' (first | with_reducible exact hb12 | with_reducible refine Below.drew ?_ | with_reducible refine below_drewN ?_ _ | with_reducible refine Below.alloc ?_ (by have := hb12.size; first | (simp; done) | (simp; omega) | omega) _ | with_reducible refine Below.setCell ?_ (by first | (simp; done) | (simp; omega) | omega) _))⟩
            · have hqI : (0 : Int) < (qn : Int) := by omega
              have hqN : 0 < qn := by omega
              obtain ⟨b, oo, rfl, h1, h2, hcell⟩ := hq.waits (by omega)
              clear hcell h1 h2
              obtain ⟨x, hxx⟩ : ∃ x, tk q 0 = x := ⟨_, rfl⟩
              obtain ⟨md0, hmm⟩ : ∃ y, md q 0 = y := ⟨_, rfl⟩
              obtain ⟨cb, hcb⟩ : ∃ cb, canB W rs md0 = cb := ⟨_, rfl⟩
              have hcan : (W == -1 && (!md0 || rn == 0)) = cb := by rw [← hcb]; unfold canB; rw [H_h.out.rlen]
              have hl0 : lastZ W rs q = if cb = true then 8 else 0 := by
                unfold lastZ
                rw [hmm, hcb]
                have : 0 < q.length := by omega
                simp [this]
              have qC : ∀ Wd, Calls Try.prog 41 #[.agg #[.int .i64 W, .slice ra rn rc, .slice (some ⟨b, oo, none⟩) qn qc], .agg #[.int .i64 x, .bool md0]] Wd fun e w' => e = .returned (.bool cb) ∧ Below Wd.heap.size Wd w' := fun Wd => hcan ▸ can_any W _ _ ra rn rc rfl x md0 Wd
              have he : (if cb = true then (8 : Int) else 0) = z := by rw [← hend, hl0]
              have H_he := Box.mk he
              have H_hl0 := Box.mk hl0
              have H_hend := Box.mk hend
              have H_hfin := Box.mk hfin
              have H_hqn := Box.mk hqn
              have H_hxx := Box.mk hxx
              have H_hmm := Box.mk hmm
              have H_hcb := Box.mk hcb
              have H_hcan := Box.mk hcan
              have H_qC := Box.mk qC
              have H_hq0 := Box.mk hq0
              clear he hl0 hend hfin hqn hxx hmm hcb hcan qC hq0
              cases cb
              · skip
                go_wp2_with fail
                refine wp_gen fun w11 hc11 => ?_
                have hb11 : Below w.heap.size w w11 := bchain (by repeat' (first | with_reducible exact hbw | with_reducible refine Below.drew ?_ | with_reducible refine below_drewN ?_ _ | with_reducible refine Below.alloc ?_ (by have := hbw.size; first | (simp; done) | (simp; omega) | omega) _ | with_reducible refine Below.setCell ?_ (by first | (simp; done) | (simp; omega) | omega) _)) hc11
                have hst11 : Below wr.heap.size wr w11 := bchain (by repeat' (first | with_reducible exact Below.refl _ _ | with_reducible refine Below.drew ?_ | with_reducible refine below_drewN ?_ _ | with_reducible refine Below.alloc ?_ (by first | (simp; done) | (simp; omega) | omega) _ | with_reducible refine Below.setCell ?_ (by first | (simp; done) | (simp; omega) | omega) _)) hc11
                replace O_0 := cell_later hst11 O_0
                replace O_1 := cell_later hst11 O_1
                replace O_2 := cell_later hst11 O_2
                replace O_l := Nat.lt_of_lt_of_le O_l hst11.size
                replace hq := hq.later hst11
                clear hst11
                have KO_0 := cell_on O_0
                have KO_1 := cell_on O_1
                have KO_2 := cell_on O_2
                obtain ⟨b', oo', e0, _, _, hcell⟩ := hq.waits (by have := H_hqn.out; omega)
                cases e0
                obtain ⟨c0, c1⟩ := hcell 0 (by have := H_hqn.out; omega)
                clear hcell
                rw [H_hxx.out] at c0
                rw [H_hmm.out] at c1
                simp only [Nat.zero_mul, Nat.add_zero] at c0 c1
                have d0 := cell_on c0
                have d1 := cell_on c1
                refine wp_region_on (by kernel_rfl) (by kernel_rfl) ?_
                repeat (go_big_quiet_step ((first | (go_at_call 41; with_reducible exact calls_on (H_qC.out _)))))
                refine wpQuiet_nil ?_
                intro w12 hc12
                clear KO_0 KO_1 KO_2
                have hb12 : Below w.heap.size w w12 := bchain (by repeat' (first | with_reducible exact hb11 | with_reducible refine Below.drew ?_ | with_reducible refine below_drewN ?_ _ | with_reducible refine Below.alloc ?_ (by have := hb11.size; first | (simp; done) | (simp; omega) | omega) _ | with_reducible refine Below.setCell ?_ (by first | (simp; done) | (simp; omega) | omega) _)) hc12
                have hst12 : Below w11.heap.size w11 w12 := bchain (by repeat' (first | with_reducible exact Below.refl _ _ | with_reducible refine Below.drew ?_ | with_reducible refine below_drewN ?_ _ | with_reducible refine Below.alloc ?_ (by first | (simp; done) | (simp; omega) | omega) _ | with_reducible refine Below.setCell ?_ (by first | (simp; done) | (simp; omega) | omega) _)) hc12
                replace O_0 := cell_later hst12 O_0
                replace O_1 := cell_later hst12 O_1
                replace O_2 := cell_later hst12 O_2
                replace O_l := Nat.lt_of_lt_of_le O_l hst12.size
                replace hq := hq.later hst12
                clear hst12
                go_wp2_with fail
                go_ret
                exact ⟨ret_int H_he.out, (by repeat' (first | with_reducible exact hb12 | with_reducible refine Below.drew ?_ | with_reducible refine below_drewN ?_ _ | with_reducible refine Below.alloc ?_ (by have := hb12.size; first | (simp; done) | (simp; omega) | omega) _ | with_reducible refine Below.setCell ?_ (by first | (simp; done) | (simp; omega) | omega) _))⟩
              · skip
                go_wp2_with fail
                refine wp_gen fun w11 hc11 => ?_
                have hb11 : Below w.heap.size w w11 := bchain (by repeat' (first | with_reducible exact hbw | with_reducible refine Below.drew ?_ | with_reducible refine below_drewN ?_ _ | with_reducible refine Below.alloc ?_ (by have := hbw.size; first | (simp; done) | (simp; omega) | omega) _ | with_reducible refine Below.setCell ?_ (by first | (simp; done) | (simp; omega) | omega) _)) hc11
                have hst11 : Below wr.heap.size wr w11 := bchain (by repeat' (first | with_reducible exact Below.refl _ _ | with_reducible refine Below.drew ?_ | with_reducible refine below_drewN ?_ _ | with_reducible refine Below.alloc ?_ (by first | (simp; done) | (simp; omega) | omega) _ | with_reducible refine Below.setCell ?_ (by first | (simp; done) | (simp; omega) | omega) _)) hc11
                replace O_0 := cell_later hst11 O_0
                replace O_1 := cell_later hst11 O_1
                replace O_2 := cell_later hst11 O_2
                replace O_l := Nat.lt_of_lt_of_le O_l hst11.size
                replace hq := hq.later hst11
                clear hst11
                have KO_0 := cell_on O_0
                have KO_1 := cell_on O_1
                have KO_2 := cell_on O_2
                obtain ⟨b', oo', e0, _, _, hcell⟩ := hq.waits (by have := H_hqn.out; omega)
                cases e0
                obtain ⟨c0, c1⟩ := hcell 0 (by have := H_hqn.out; omega)
                clear hcell
                rw [H_hxx.out] at c0
                rw [H_hmm.out] at c1
                simp only [Nat.zero_mul, Nat.add_zero] at c0 c1
                have d0 := cell_on c0
                have d1 := cell_on c1
                refine wp_region_on (by kernel_rfl) (by kernel_rfl) ?_
                repeat (go_big_quiet_step ((first | (go_at_call 41; with_reducible exact calls_on (H_qC.out _)))))
                refine wpQuiet_nil ?_
                intro w12 hc12
                clear KO_0 KO_1 KO_2
                have hb12 : Below w.heap.size w w12 := bchain (by repeat' (first | with_reducible exact hb11 | with_reducible refine Below.drew ?_ | with_reducible refine below_drewN ?_ _ | with_reducible refine Below.alloc ?_ (by have := hb11.size; first | (simp; done) | (simp; omega) | omega) _ | with_reducible refine Below.setCell ?_ (by first | (simp; done) | (simp; omega) | omega) _)) hc12
                have hst12 : Below w11.heap.size w11 w12 := bchain (by repeat' (first | with_reducible exact Below.refl _ _ | with_reducible refine Below.drew ?_ | with_reducible refine below_drewN ?_ _ | with_reducible refine Below.alloc ?_ (by first | (simp; done) | (simp; omega) | omega) _ | with_reducible refine Below.setCell ?_ (by first | (simp; done) | (simp; omega) | omega) _)) hc12
                replace O_0 := cell_later hst12 O_0
                replace O_1 := cell_later hst12 O_1
                replace O_2 := cell_later hst12 O_2
                replace O_l := Nat.lt_of_lt_of_le O_l hst12.size
                replace hq := hq.later hst12
                clear hst12
                go_wp2_with fail
                go_ret
                exact ⟨ret_int H_he.out, (by repeat' (first | with_reducible exact hb12 | with_reducible refine Below.drew ?_ | with_reducible refine below_drewN ?_ _ | with_reducible refine Below.alloc ?_ (by have := hb12.size; first | (simp; done) | (simp; omega) | omega) _ | with_reducible refine Below.setCell ?_ (by first | (simp; done) | (simp; omega) | omega) _))⟩
      · have h1 : (W != -1) = true := by simp [hW]
        cases htb : taskB W with
        | false =>
          have he : 8 = z := by rw [← H_hz.out]; exact (err_w ⟨hW, .inl htb⟩).symm
          have hT := task_B W false htb
          clear hW
          have H_he := Box.mk he
          have H_hT := Box.mk hT
          have H_htb := Box.mk htb
          clear he hT htb
          go_wp2_with fail
          with_reducible refine (H_hT.out _).mono ?_
          rintro e wx ⟨rfl, rfl⟩
          go_wp2_with fail
          go_ret
          exact ⟨ret_int H_he.out, hb1⟩
        | true =>
          have hT := task_B W true htb
          by_cases hr0 : 0 < rn
          · have he : 8 = z := by rw [← H_hz.out]; exact (err_w ⟨hW, .inr (by have := H_h.out.rlen; omega)⟩).symm
            have hrI : (0 : Int) < (rn : Int) := by omega
            clear hW
            have H_he := Box.mk he
            have H_hT := Box.mk hT
            have H_htb := Box.mk htb
            clear he hT htb
            go_wp2_with fail
            with_reducible refine (H_hT.out _).mono ?_
            rintro e wx ⟨rfl, rfl⟩
            go_wp2_with fail
            go_ret
            exact ⟨ret_int H_he.out, hb1⟩
          · have hrI : (rn : Int) ≤ 0 := by omega
            have hsl : seenL W rs = rs ++ [W] := by unfold seenL; rw [if_neg hW]
            have hnw : ¬ (W ≠ -1 ∧ (taskB W = false ∨ 0 < rs.length)) := fun h => by
              rcases h.2 with h | h
              · rw [htb] at h; cases h
              · have := H_h.out.rlen; omega
            clear hW
            have hsl2 := Box.mk hsl
            have hnw2 := Box.mk hnw
            clear hsl hnw
            have H_hT := Box.mk hT
            have H_htb := Box.mk htb
            clear hT htb
            go_wp2_with fail
            with_reducible refine (H_hT.out _).mono ?_
            rintro e wx ⟨rfl, rfl⟩
            go_wp2_with (at_builtin; refine stop ?_)
            refine Stop.go ?_
            refine wpList_append_x _ rfl _ _ 22 rfl (w.heap.size + 1) 3 i0 (.int .i64 0) 1 8 Try.underlying22 hi hz0 hz1 hz2 rfl (by decide) (.slice a1 rn c1) rn _ rfl (o1.alloc _) (some ⟨w1.heap.size, 0, none⟩) 1 1 [.int .i64 W] rfl rfl (cellsAt_one w1 _ _) (oneCell_int _ _) (by unfold maxLen; omega) (by omega) (by have := O_l; simp; omega) ?_
            intro a3 c3 w3 o3 hg hk3
            have hb3 : Below w.heap.size w w3 := below_grownX (hb1.alloc (by have := O_l; omega) _) hg (by have := O_l; simp; omega) (fun q h => by have := (o1.lt q h).1; omega)
            have hbk3 : Below (w.heap.size + 1) w1 w3 := below_grownX ((Below.refl _ _).alloc (by have := O_l; omega) _) hg (by have := O_l; simp; omega) (fun q h => (o1.lt q h).1)
            have o3' : OwnX w3 (w.heap.size + 1) 3 1 (.slice a3 (rn + 1) c3) (rn + 1) ((rs ++ [W]).map (Value.int .i64)) := by simpa using o3
            clear o3 hg hk3 o1
            obtain ⟨seen, hseen⟩ : ∃ seen, seenL W rs = seen := ⟨_, rfl⟩
            have ow0 : OwnX w3 (w.heap.size + 1) 3 1 (.slice a3 (rn + 1) c3) (rn + 1) (seen.map (Value.int .i64)) := by rw [← hseen]; exact (by rw [hsl2.out]; exact o3')
            have hml : (rn + 1) = seen.length := by have := ow0.len; simpa using this.symm
            have hm1 : (rn + 1) ≤ 1000001 := (by omega)
            have hbA : Below (w.heap.size + 1) w1 w3 := hbk3
            have H_hseen := Box.mk hseen
            have H_hml := Box.mk hml
            clear hseen hml
            have K_0 : w3.cell? ⟨w.heap.size, 0, none⟩ = some (.int .i64 W) := (hbA.cell (p := ⟨w.heap.size, 0, none⟩) (by simp)).trans O_0
            have K_1 : w3.cell? ⟨w.heap.size, 1, none⟩ = some (.slice ra rn rc) := (hbA.cell (p := ⟨w.heap.size, 1, none⟩) (by simp)).trans O_1
            have K_2 : w3.cell? ⟨w.heap.size, 2, none⟩ = some (.slice qa qn qc) := (hbA.cell (p := ⟨w.heap.size, 2, none⟩) (by simp)).trans O_2
            clear o3'
            go_wp2_with fail
            go_loopw [3, 57] (fun s i wr => ∃ (k : Nat) (av : Option Addr) (cv m : Nat), k ≤ qn ∧ i = .int .i64 k ∧ s = .slice av m cv ∧ Below w.heap.size w wr ∧ Below (w.heap.size + 1) w1 wr ∧ OwnX wr (w.heap.size + 1) 3 1 (.slice av m cv) m ((seen ++ (q.take k).map (·.1)).map (Value.int .i64)) ∧ Box (m = seen.length + k) ∧ Box (freshB seen q = freshB (seen ++ (q.take k).map (·.1)) (q.drop k))) (fun _ i _ => qn - (intOf i).toNat)
            case atStart => exact ⟨0, _, _, (rn + 1), Nat.zero_le _, rfl, rfl, hb3, hbA, by simpa using ow0, Box.mk (by have := H_hml.out; omega), Box.mk (by simp)⟩
            case round =>
              obtain ⟨k, av, cv, m, hk, rfl, rfl, hbw, hbk, ow, Hm, Hf⟩ := hrel
              have hO0 : wr.cell? ⟨w.heap.size, 0, none⟩ = some (.int .i64 W) := (hbk.cell (p := ⟨w.heap.size, 0, none⟩) (by simp)).trans O_0
              have hO1 : wr.cell? ⟨w.heap.size, 1, none⟩ = some (.slice ra rn rc) := (hbk.cell (p := ⟨w.heap.size, 1, none⟩) (by simp)).trans O_1
              have hO2 : wr.cell? ⟨w.heap.size, 2, none⟩ = some (.slice qa qn qc) := (hbk.cell (p := ⟨w.heap.size, 2, none⟩) (by simp)).trans O_2
              have hOl : w.heap.size < wr.heap.size := Nat.lt_of_lt_of_le O_l hbk.size
              have hq := (H_h.out.later hbw).qs
              have hsz1 : w.heap.size + 1 ≤ wr.heap.size := hOl
              clear ow0 hbA K_0 K_1 K_2
              by_cases hlt : k < qn
              · have hlt' : (k : Int) < (qn : Int) := by omega
                have hkl : k < q.length := by have := H_h.out.qlen; omega
                obtain ⟨b, oo, rfl, h1, h2, hcell⟩ := hq.waits (by omega)
                obtain ⟨c0, c1⟩ := hcell k hkl
                clear hcell O_0 O_1 O_2 O_l
                obtain ⟨x, hxx⟩ : ∃ x, tk q k = x := ⟨_, rfl⟩
                obtain ⟨md0, hmm⟩ : ∃ y, md q k = y := ⟨_, rfl⟩
                have hfr := fresh_at hkl (seen ++ (q.take k).map (·.1))
                have htake : seen ++ (q.take (k + 1)).map (·.1) = seen ++ (q.take k).map (·.1) ++ [x] := by
                  rw [List.take_succ_eq_append_getElem hkl, List.map_append, ← List.append_assoc, ← hxx]
                  simp [tk, List.getElem?_eq_getElem hkl]
                obtain ⟨sk, hsk⟩ : ∃ sk, seen ++ (q.take k).map (·.1) = sk := ⟨_, rfl⟩
                have Hf' := Hf.out
                rw [hsk] at ow hfr htake Hf'
                rw [hxx] at hfr c0
                rw [hmm] at c1
                have hmk : m = sk.length := by have := ow.len; simpa using this.symm
                have hm2 : m ≤ 2000002 := by have := Hm.out; have := H_hml.out; omega
                cases htb : taskB x with
                | false =>
                  have he : 8 = z := by
                    rw [← H_hz.out]
                    refine (err_q ?_).symm
                    rw [H_hseen.out, Hf', hfr, htb]; rfl
                  have hT := task_B x false htb
                  have H_he := Box.mk he
                  have H_hT := Box.mk hT
                  have H_hxx := Box.mk hxx
                  have H_hmm := Box.mk hmm
                  have H_hfr := Box.mk hfr
                  have H_htake := Box.mk htake
                  have H_hsk := Box.mk hsk
                  have H_hmk := Box.mk hmk
                  have H_htb := Box.mk htb
                  have H_hkl := Box.mk hkl
                  have H_Hf' := Box.mk Hf'
                  clear he hT hxx hmm hfr htake hsk hmk htb hkl Hf'
                  clear Hf
                  go_wp2_with fail
                  with_reducible refine (H_hT.out _).mono ?_
                  rintro e wx ⟨rfl, rfl⟩
                  go_wp2_with fail
                  go_ret
                  exact ⟨ret_int H_he.out, by repeat' (first | with_reducible exact hbw | with_reducible refine Below.alloc ?_ (by omega) _)⟩
                | true =>
                  have hT := task_B x true htb
                  cases hcn : sk.contains x with
                  | true =>
                    have he : 8 = z := by
                      rw [← H_hz.out]
                      refine (err_q ?_).symm
                      rw [H_hseen.out, Hf', hfr, htb, hcn]; rfl
                    have H_he := Box.mk he
                    have H_hT := Box.mk hT
                    have H_hxx := Box.mk hxx
                    have H_hmm := Box.mk hmm
                    have H_hfr := Box.mk hfr
                    have H_htake := Box.mk htake
                    have H_hsk := Box.mk hsk
                    have H_hmk := Box.mk hmk
                    have H_htb := Box.mk htb
                    have H_hkl := Box.mk hkl
                    have H_Hf' := Box.mk Hf'
                    have H_hcn := Box.mk hcn
                    clear he hT hxx hmm hfr htake hsk hmk htb hkl Hf' hcn
                    clear Hf
                    go_wp2_with fail
                    with_reducible refine (H_hT.out _).mono ?_
                    rintro e wx ⟨rfl, rfl⟩
                    go_wp2_with fail
                    with_reducible refine (containsI_any sk x av m cv _ H_hmk.out (ow.alloc _).cellsAt (by unfold maxLen; omega)).mono ?_
                    rintro e w4 ⟨rfl, hc4⟩
                    have hb4 : Below w.heap.size w w4 := bchain (hbw.alloc (by omega) _) hc4
                    rw [H_hcn.out]
                    go_wp2_with fail
                    go_ret
                    exact ⟨ret_int H_he.out, hb4⟩
                  | false =>
                    have hnext : Box (freshB seen q = freshB (sk ++ [x]) (q.drop (k + 1))) := Box.mk (by rw [Hf', hfr, htb, hcn]; simp)
                    have H_hT := Box.mk hT
                    have H_hxx := Box.mk hxx
                    have H_hmm := Box.mk hmm
                    have H_hfr := Box.mk hfr
                    have H_htake := Box.mk htake
                    have H_hsk := Box.mk hsk
                    have H_hmk := Box.mk hmk
                    have H_htb := Box.mk htb
                    have H_hkl := Box.mk hkl
                    have H_Hf' := Box.mk Hf'
                    have H_hcn := Box.mk hcn
                    clear hT hxx hmm hfr htake hsk hmk htb hkl Hf' hcn
                    clear Hf
                    go_wp2_with fail
                    with_reducible refine (H_hT.out _).mono ?_
                    rintro e wx ⟨rfl, rfl⟩
                    go_wp2_with fail
                    with_reducible refine (containsI_any sk x av m cv _ H_hmk.out (ow.alloc _).cellsAt (by unfold maxLen; omega)).mono ?_
                    rintro e w4 ⟨rfl, hc4⟩
                    have hb4 : Below w.heap.size w w4 := bchain (hbw.alloc (by omega) _) hc4
                    have hbk4 : Below (w.heap.size + 1) w1 w4 := (hbk.alloc hsz1 _).trans (hc4.mono (by simp; omega))
                    have T_0 : w4.cell? ⟨wr.heap.size, 0, none⟩ = some (.int .i64 x) := (hc4.cell (p := ⟨wr.heap.size, 0, none⟩) (by simp)).trans (by simp)
                    have ow4 := (ow.alloc (.cells #[.int .i64 x, .bool md0] 34)).later hc4
                    have z4 := hc4.size
                    simp only [World.size_alloc] at z4
                    have hsz4 : w.heap.size + 1 ≤ w4.heap.size := by omega
                    rw [H_hcn.out]
                    clear hc4 ow
                    go_wp2_with (at_builtin; refine stop ?_)
                    refine Stop.go ?_
                    refine wpList_append_x _ rfl _ _ 22 rfl (w.heap.size + 1) 3 i0 (.int .i64 0) 1 8 Try.underlying22 hi hz0 hz1 hz2 rfl (by decide) (.slice av m cv) m _ rfl (ow4.alloc _) (some ⟨w4.heap.size, 0, none⟩) 1 1 [.int .i64 x] rfl rfl (cellsAt_one w4 _ _) (oneCell_int _ _) (by unfold maxLen; omega) (by omega) (by simp; omega) ?_
                    intro a5 c5 w5 o5 hg hk5
                    have hb5 : Below w.heap.size w w5 := below_grownX (hb4.alloc (by omega) _) hg (by simp; omega) (fun q h => by have := (ow4.lt q h).1; omega)
                    have hbk5 : Below (w.heap.size + 1) w1 w5 := below_grownX (hbk4.alloc hsz4 _) hg (by simp; omega) (fun q h => (ow4.lt q h).1)
                    go_wp2_with fail
                    go_roundw
                    case rel =>
                      refine ⟨k + 1, a5, c5, m + 1, by omega, by go_num, rfl, hb5, hbk5, ?_, Box.mk (by have := Hm.out; omega), ?_⟩
                      · rw [H_htake.out]
                        simpa using o5
                      · rw [H_htake.out]; exact hnext
                    case measure => simp [intOf]; omega
              · have hge : (qn : Int) ≤ (k : Int) := by omega
                have hfin : freshB seen q = true := by
                  rw [Hf.out, List.drop_of_length_le (by have := H_h.out.qlen; omega)]; rfl
                have hend : lastZ W rs q = z := by
                  rw [← H_hz.out, err_end H_hok.out hnw2.out (by rw [H_hseen.out]; exact hfin)]; rfl
                clear ow Hf Hm O_0 O_1 O_2 O_l
                have O_0 := hO0
                have O_1 := hO1
                have O_2 := hO2
                have O_l := hOl
                clear hO0 hO1 hO2 hOl
                have hqn := H_h.out.qlen
                by_cases hq0 : qn = 0
                · have hl0 : lastZ W rs q = 0 := by unfold lastZ; rw [if_neg (by omega)]
                  have he : 0 = z := by rw [← hend, hl0]
                  have hqI : (qn : Int) = 0 := by omega
                  subst hq0
                  have H_he := Box.mk he
                  have H_hl0 := Box.mk hl0
                  have H_hend := Box.mk hend
                  have H_hfin := Box.mk hfin
                  have H_hqn := Box.mk hqn
                  clear he hl0 hend hfin hqn
                  go_wp2_with fail
                  refine wp_gen fun w11 hc11 => ?_
                  have hb11 : Below w.heap.size w w11 := bchain (by repeat' (first | with_reducible exact hbw | with_reducible refine Below.drew ?_ | with_reducible refine below_drewN ?_ _ | with_reducible refine Below.alloc ?_ (by have := hbw.size; first | (simp; done) | (simp; omega) | omega) _ | with_reducible refine Below.setCell ?_ (by first | (simp; done) | (simp; omega) | omega) _)) hc11
                  have hst11 : Below wr.heap.size wr w11 := bchain (by repeat' (first | with_reducible exact Below.refl _ _ | with_reducible refine Below.drew ?_ | with_reducible refine below_drewN ?_ _ | with_reducible refine Below.alloc ?_ (by first | (simp; done) | (simp; omega) | omega) _ | with_reducible refine Below.setCell ?_ (by first | (simp; done) | (simp; omega) | omega) _)) hc11
                  replace O_0 := cell_later hst11 O_0
                  replace O_1 := cell_later hst11 O_1
                  replace O_2 := cell_later hst11 O_2
                  replace O_l := Nat.lt_of_lt_of_le O_l hst11.size
                  clear hst11
                  have KO_0 := cell_on O_0
                  have KO_1 := cell_on O_1
                  have KO_2 := cell_on O_2
                  refine wp_region_on (by kernel_rfl) (by kernel_rfl) ?_
                  repeat (go_big_quiet_step (fail))
                  refine wpQuiet_nil ?_
                  intro w12 hc12
                  clear KO_0 KO_1 KO_2
                  have hb12 : Below w.heap.size w w12 := bchain (by repeat' (first | with_reducible exact hb11 | with_reducible refine Below.drew ?_ | with_reducible refine below_drewN ?_ _ | with_reducible refine Below.alloc ?_ (by have := hb11.size; first | (simp; done) | (simp; omega) | omega) _ | with_reducible refine Below.setCell ?_ (by first | (simp; done) | (simp; omega) | omega) _)) hc12
                  have hst12 : Below w11.heap.size w11 w12 := bchain (by repeat' (first | with_reducible exact Below.refl _ _ | with_reducible refine Below.drew ?_ | with_reducible refine below_drewN ?_ _ | with_reducible refine Below.alloc ?_ (by first | (simp; done) | (simp; omega) | omega) _ | with_reducible refine Below.setCell ?_ (by first | (simp; done) | (simp; omega) | omega) _)) hc12
                  replace O_0 := cell_later hst12 O_0
                  replace O_1 := cell_later hst12 O_1
                  replace O_2 := cell_later hst12 O_2
                  replace O_l := Nat.lt_of_lt_of_le O_l hst12.size
                  clear hst12
                  go_wp2_with fail
                  go_ret
                  exact ⟨ret_int H_he.out, (by repeat' (first | with_reducible exact hb12 | with_reducible refine Below.drew ?_ | with_reducible refine below_drewN ?_ _ | with_reducible refine Below.alloc ?_ (by have := hb12.size; first | (simp; done) | (simp; omega) | omega) _ | with_reducible refine Below.setCell ?_ (by first | (simp; done) | (simp; omega) | omega) _))⟩
                · have hqI : (0 : Int) < (qn : Int) := by omega
                  have hqN : 0 < qn := by omega
                  obtain ⟨b, oo, rfl, h1, h2, hcell⟩ := hq.waits (by omega)
                  clear hcell h1 h2
                  obtain ⟨x, hxx⟩ : ∃ x, tk q 0 = x := ⟨_, rfl⟩
                  obtain ⟨md0, hmm⟩ : ∃ y, md q 0 = y := ⟨_, rfl⟩
                  obtain ⟨cb, hcb⟩ : ∃ cb, canB W rs md0 = cb := ⟨_, rfl⟩
                  have hcan : (W == -1 && (!md0 || rn == 0)) = cb := by rw [← hcb]; unfold canB; rw [H_h.out.rlen]
                  have hl0 : lastZ W rs q = if cb = true then 8 else 0 := by
                    unfold lastZ
                    rw [hmm, hcb]
                    have : 0 < q.length := by omega
                    simp [this]
                  have qC : ∀ Wd, Calls Try.prog 41 #[.agg #[.int .i64 W, .slice ra rn rc, .slice (some ⟨b, oo, none⟩) qn qc], .agg #[.int .i64 x, .bool md0]] Wd fun e w' => e = .returned (.bool cb) ∧ Below Wd.heap.size Wd w' := fun Wd => hcan ▸ can_any W _ _ ra rn rc rfl x md0 Wd
                  have he : (if cb = true then (8 : Int) else 0) = z := by rw [← hend, hl0]
                  have H_he := Box.mk he
                  have H_hl0 := Box.mk hl0
                  have H_hend := Box.mk hend
                  have H_hfin := Box.mk hfin
                  have H_hqn := Box.mk hqn
                  have H_hxx := Box.mk hxx
                  have H_hmm := Box.mk hmm
                  have H_hcb := Box.mk hcb
                  have H_hcan := Box.mk hcan
                  have H_qC := Box.mk qC
                  have H_hq0 := Box.mk hq0
                  clear he hl0 hend hfin hqn hxx hmm hcb hcan qC hq0
                  cases cb
                  · skip
                    go_wp2_with fail
                    refine wp_gen fun w11 hc11 => ?_
                    have hb11 : Below w.heap.size w w11 := bchain (by repeat' (first | with_reducible exact hbw | with_reducible refine Below.drew ?_ | with_reducible refine below_drewN ?_ _ | with_reducible refine Below.alloc ?_ (by have := hbw.size; first | (simp; done) | (simp; omega) | omega) _ | with_reducible refine Below.setCell ?_ (by first | (simp; done) | (simp; omega) | omega) _)) hc11
                    have hst11 : Below wr.heap.size wr w11 := bchain (by repeat' (first | with_reducible exact Below.refl _ _ | with_reducible refine Below.drew ?_ | with_reducible refine below_drewN ?_ _ | with_reducible refine Below.alloc ?_ (by first | (simp; done) | (simp; omega) | omega) _ | with_reducible refine Below.setCell ?_ (by first | (simp; done) | (simp; omega) | omega) _)) hc11
                    replace O_0 := cell_later hst11 O_0
                    replace O_1 := cell_later hst11 O_1
                    replace O_2 := cell_later hst11 O_2
                    replace O_l := Nat.lt_of_lt_of_le O_l hst11.size
                    replace hq := hq.later hst11
                    clear hst11
                    have KO_0 := cell_on O_0
                    have KO_1 := cell_on O_1
                    have KO_2 := cell_on O_2
                    obtain ⟨b', oo', e0, _, _, hcell⟩ := hq.waits (by have := H_hqn.out; omega)
                    cases e0
                    obtain ⟨c0, c1⟩ := hcell 0 (by have := H_hqn.out; omega)
                    clear hcell
                    rw [H_hxx.out] at c0
                    rw [H_hmm.out] at c1
                    simp only [Nat.zero_mul, Nat.add_zero] at c0 c1
                    have d0 := cell_on c0
                    have d1 := cell_on c1
                    refine wp_region_on (by kernel_rfl) (by kernel_rfl) ?_
                    repeat (go_big_quiet_step ((first | (go_at_call 41; with_reducible exact calls_on (H_qC.out _)))))
                    refine wpQuiet_nil ?_
                    intro w12 hc12
                    clear KO_0 KO_1 KO_2
                    have hb12 : Below w.heap.size w w12 := bchain (by repeat' (first | with_reducible exact hb11 | with_reducible refine Below.drew ?_ | with_reducible refine below_drewN ?_ _ | with_reducible refine Below.alloc ?_ (by have := hb11.size; first | (simp; done) | (simp; omega) | omega) _ | with_reducible refine Below.setCell ?_ (by first | (simp; done) | (simp; omega) | omega) _)) hc12
                    have hst12 : Below w11.heap.size w11 w12 := bchain (by repeat' (first | with_reducible exact Below.refl _ _ | with_reducible refine Below.drew ?_ | with_reducible refine below_drewN ?_ _ | with_reducible refine Below.alloc ?_ (by first | (simp; done) | (simp; omega) | omega) _ | with_reducible refine Below.setCell ?_ (by first | (simp; done) | (simp; omega) | omega) _)) hc12
                    replace O_0 := cell_later hst12 O_0
                    replace O_1 := cell_later hst12 O_1
                    replace O_2 := cell_later hst12 O_2
                    replace O_l := Nat.lt_of_lt_of_le O_l hst12.size
                    replace hq := hq.later hst12
                    clear hst12
                    go_wp2_with fail
                    go_ret
                    exact ⟨ret_int H_he.out, (by repeat' (first | with_reducible exact hb12 | with_reducible refine Below.drew ?_ | with_reducible refine below_drewN ?_ _ | with_reducible refine Below.alloc ?_ (by have := hb12.size; first | (simp; done) | (simp; omega) | omega) _ | with_reducible refine Below.setCell ?_ (by first | (simp; done) | (simp; omega) | omega) _))⟩
                  · skip
                    go_wp2_with fail
                    refine wp_gen fun w11 hc11 => ?_
                    have hb11 : Below w.heap.size w w11 := bchain (by repeat' (first | with_reducible exact hbw | with_reducible refine Below.drew ?_ | with_reducible refine below_drewN ?_ _ | with_reducible refine Below.alloc ?_ (by have := hbw.size; first | (simp; done) | (simp; omega) | omega) _ | with_reducible refine Below.setCell ?_ (by first | (simp; done) | (simp; omega) | omega) _)) hc11
                    have hst11 : Below wr.heap.size wr w11 := bchain (by repeat' (first | with_reducible exact Below.refl _ _ | with_reducible refine Below.drew ?_ | with_reducible refine below_drewN ?_ _ | with_reducible refine Below.alloc ?_ (by first | (simp; done) | (simp; omega) | omega) _ | with_reducible refine Below.setCell ?_ (by first | (simp; done) | (simp; omega) | omega) _)) hc11
                    replace O_0 := cell_later hst11 O_0
                    replace O_1 := cell_later hst11 O_1
                    replace O_2 := cell_later hst11 O_2
                    replace O_l := Nat.lt_of_lt_of_le O_l hst11.size
                    replace hq := hq.later hst11
                    clear hst11
                    have KO_0 := cell_on O_0
                    have KO_1 := cell_on O_1
                    have KO_2 := cell_on O_2
                    obtain ⟨b', oo', e0, _, _, hcell⟩ := hq.waits (by have := H_hqn.out; omega)
                    cases e0
                    obtain ⟨c0, c1⟩ := hcell 0 (by have := H_hqn.out; omega)
                    clear hcell
                    rw [H_hxx.out] at c0
                    rw [H_hmm.out] at c1
                    simp only [Nat.zero_mul, Nat.add_zero] at c0 c1
                    have d0 := cell_on c0
                    have d1 := cell_on c1
                    refine wp_region_on (by kernel_rfl) (by kernel_rfl) ?_
                    repeat (go_big_quiet_step ((first | (go_at_call 41; with_reducible exact calls_on (H_qC.out _)))))
                    refine wpQuiet_nil ?_
                    intro w12 hc12
                    clear KO_0 KO_1 KO_2
                    have hb12 : Below w.heap.size w w12 := bchain (by repeat' (first | with_reducible exact hb11 | with_reducible refine Below.drew ?_ | with_reducible refine below_drewN ?_ _ | with_reducible refine Below.alloc ?_ (by have := hb11.size; first | (simp; done) | (simp; omega) | omega) _ | with_reducible refine Below.setCell ?_ (by first | (simp; done) | (simp; omega) | omega) _)) hc12
                    have hst12 : Below w11.heap.size w11 w12 := bchain (by repeat' (first | with_reducible exact Below.refl _ _ | with_reducible refine Below.drew ?_ | with_reducible refine below_drewN ?_ _ | with_reducible refine Below.alloc ?_ (by first | (simp; done) | (simp; omega) | omega) _ | with_reducible refine Below.setCell ?_ (by first | (simp; done) | (simp; omega) | omega) _)) hc12
                    replace O_0 := cell_later hst12 O_0
                    replace O_1 := cell_later hst12 O_1
                    replace O_2 := cell_later hst12 O_2
                    replace O_l := Nat.lt_of_lt_of_le O_l hst12.size
                    replace hq := hq.later hst12
                    clear hst12
                    go_wp2_with fail
                    go_ret
                    exact ⟨ret_int H_he.out, (by repeat' (first | with_reducible exact hb12 | with_reducible refine Below.drew ?_ | with_reducible refine below_drewN ?_ _ | with_reducible refine Below.alloc ?_ (by have := hb12.size; first | (simp; done) | (simp; omega) | omega) _ | with_reducible refine Below.setCell ?_ (by first | (simp; done) | (simp; omega) | omega) _))⟩

end Go.Proofs.Ytnkbbfeaodppgaa
