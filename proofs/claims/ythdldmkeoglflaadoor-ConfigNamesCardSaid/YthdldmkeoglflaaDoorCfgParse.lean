/- config.Parse. -/
import Derived.Test.YthdldmkeoglflaaDoorCfgTxtF
import Derived.Test.YthdldmkeoglflaaDoorCfgTxtP
import Derived.Test.YthdldmkeoglflaaDoorOwnAt
import Derived.Deep.Cut
namespace Go.Proofs.YthdldmkeoglflaaDoor
set_option linter.unusedSimpArgs false
set_option linter.unusedVariables false
set_option linter.unnecessarySimpa false
open Go.RowKit

theorem wp_facts {P : Program} {c : Code} {Q : Exit → Act → World → Prop} {a : Act} {w : World} (Φ : World → Prop) (h : Φ w) (k : ∀ w', Φ w' → Code.wp P c Q a w') : Code.wp P c Q a w := k w h
theorem Blk.cellsAt2 {w : World} {b t : Nat} {cs : List Value} (h : Blk w b t cs) : CellsAt w (some ⟨b, 0, none⟩) cs := .inr ⟨b, 0, rfl, h.rangeAt⟩
set_option maxRecDepth 100000 in
set_option maxHeartbeats 4000000 in
theorem Parse_any (b : ByteArray) (w : World) (hb : b.size ≤ 100000) (hE : ErrIn w) (htab : ∀ W, Below w.heap.size w W → Lib.TabIs Tryd.prog W "internal/strconv.uint64pow10" .u64 Lib.pow10Tab) :
    Calls Tryd.prog 13 #[.string b] w fun e w' =>
      RetS w' e (pzR b) ∧ Below w.heap.size w w' := by
  obtain ⟨R, hR⟩ : ∃ R, pzR b = R := ⟨_, rfl⟩
  rw [hR]
  by_cases h1 : 1000 < b.size
  · have h1' : (1000 : Int) < (b.size : Int) := by omega
    have hr2 : zOut 4 = R := by rw [← hR]; unfold pzR; rw [if_pos h1]
    have H_hR := Box.mk hR
    have H_hE := Box.mk hE
    have H_htab := Box.mk htab
    have H_hr2 := Box.mk hr2
    clear hR hE htab hr2
    go_enter Tryd.func13, Tryd.ntmps13
    have hb0 := Below.refl w.heap.size w
    go_wp2_with fail
    refine bodyPost_ret (v := .tuple #[.agg #[.int .i64 0, .int .i64 0, .int .i64 0, .int .i64 0, .int .i64 0, .int .i64 0, .int .i64 0, .int .i64 0, .int .i64 0, .int .u32 0, .slice none 0 0], .int .i64 4]) (by simp [results, Tryd.results13, go_sem, *]) rfl ⟨RetS.of (r := zOut 4) ⟨none, 0, rfl, .inl rfl⟩ H_hr2.out, (by repeat' (first | with_reducible exact hb0 | with_reducible refine Below.drew ?_ | with_reducible refine below_drewN ?_ _ | with_reducible refine Below.alloc ?_ (by have := hb0.size; first | (simp; done) | (simp; omega) | omega) _ | with_reducible refine Below.setCell ?_ (by first | (simp; done) | (simp; omega) | omega) _))⟩
  · have h1' : ¬ (1000 : Int) < (b.size : Int) := by omega
    have hfl := fun W (g : Below w.heap.size w W) => fields_any b W hb (hE.later g)
    have hlen : b.data.toList.length = b.size := Array.length_toList
    have hmem := fun i r (h : (rowsL b.data.toList)[i]? = some r) => rowsL_mem h
    have hrl := rowsL_len b.data.toList
    rw [hlen] at hmem hrl
    obtain ⟨rows, hrows⟩ : ∃ rows, rowsL b.data.toList = rows := ⟨_, rfl⟩
    simp only [hrows] at hfl hmem hrl
    have hnum := fun x W (g : Below w.heap.size w W) (hx : x.size ≤ b.size) => number_any x W (by omega) (hE.later g)
    have hfl2 := fun W (g : Below w.heap.size w W) => (hfl W g).mono fun e w' h => (show (∃ a c vs, e = Ending.returned (.slice a rows.length c) ∧ OwnX w' W.heap.size 38 1 (.slice a rows.length c) rows.length vs ∧ RowsB w' W.heap.size vs rows) ∧ Below W.heap.size W w' ∧ Below W.heap.size W w' from ⟨h.1, h.2, h.2⟩)
    have hkeys : Keys (peersN rows) := peersN_keys rows
    have hpl : (peersN rows).length ≤ rows.length := by
      have := peersK_len rows rows.length
      rwa [peersK_end] at this
    have hpz : R = (if chkS (readL rows) (limN rows 9) (peersN rows) = 0 ∧ textL (readL rows) (limN rows 9) (peersN rows) = b.data.toList then ⟨readL rows, limN rows 9, peersN rows, 0⟩ else zOut 12) := by
      rw [← hR, ← hrows]; unfold pzR; rw [if_neg h1]
    clear hfl
    have H_hR := Box.mk hR
    have H_hE := Box.mk hE
    have H_htab := Box.mk htab
    have H_hlen := Box.mk hlen
    have H_hrows := Box.mk hrows
    have H_hfl2 := Box.mk hfl2
    have H_hmem := Box.mk hmem
    have H_hnum := Box.mk hnum
    have H_hkeys := Box.mk hkeys
    have H_hpl := Box.mk hpl
    have H_hpz := Box.mk hpz
    clear hR hE htab hlen hrows hfl2 hmem hnum hkeys hpl hpz
    go_enter Tryd.func13, Tryd.ntmps13
    have hb0 := Below.refl w.heap.size w
    go_wp2_with fail
    with_reducible refine (H_hfl2.out _ (by repeat' (first | with_reducible exact hb0 | with_reducible refine Below.drew ?_ | with_reducible refine below_drewN ?_ _ | with_reducible refine Below.alloc ?_ (by have := hb0.size; first | (simp; done) | (simp; omega) | omega) _ | with_reducible refine Below.setCell ?_ (by first | (simp; done) | (simp; omega) | omega) _))).mono ?_
    rintro e w1 ⟨⟨a, c, vs, rfl, hrow, hrb⟩, hk1, hc1⟩
    have hb1 : Below w.heap.size w w1 := bchain (by repeat' (first | with_reducible exact hb0 | with_reducible refine Below.drew ?_ | with_reducible refine below_drewN ?_ _ | with_reducible refine Below.alloc ?_ (by have := hb0.size; first | (simp; done) | (simp; omega) | omega) _ | with_reducible refine Below.setCell ?_ (by first | (simp; done) | (simp; omega) | omega) _)) hc1
    clear hc1 hb0
    have hRB : Blk w1 w.heap.size 27 [.int .i64 0, .int .i64 0, .int .i64 0, .int .i64 0, .int .i64 0, .int .i64 0, .int .i64 0, .int .i64 0, .int .i64 0, .int .u32 0, .slice none 0 0] := (((Blk.newA w _ _ 27 [.int .i64 0, .int .i64 0, .int .i64 0, .int .i64 0, .int .i64 0, .int .i64 0, .int .i64 0, .int .i64 0, .int .i64 0, .int .u32 0, .slice none 0 0] rfl rfl).alloc _).alloc _).later hk1
    have hXB : Blk w1 (w.heap.size + 1) 27 [.int .i64 0, .int .i64 0, .int .i64 0, .int .i64 0, .int .i64 0, .int .i64 0, .int .i64 0, .int .i64 0, .int .i64 0, .int .u32 (secK rows 0), .slice none (peersK rows 0).length 0] := ((Blk.newA (w.alloc _) _ _ 27 [.int .i64 0, .int .i64 0, .int .i64 0, .int .i64 0, .int .i64 0, .int .i64 0, .int .i64 0, .int .i64 0, .int .i64 0, .int .u32 (secK rows 0), .slice none (peersK rows 0).length 0] (by simp) rfl).alloc _).later hk1
    have hLB : Blk w1 (w.heap.size + 2) 73 ((limsK rows 0).map (Value.int .i64)) := (Blk.newA ((w.alloc _).alloc _) _ _ 73 ((limsK rows 0).map (Value.int .i64)) (by simp) rfl).later hk1
    replace hrow := hrow.mono (base' := w.heap.size + 3) (by simp)
    replace hrb := hrb.mono (base' := w.heap.size + 3) (by simp)
    clear hk1
    obtain ⟨B, hB⟩ : ∃ B, w.heap.size = B := ⟨_, rfl⟩
    go_wp2_with fail
    simp only [hB] at hRB hXB hLB hrow hrb ⊢
    go_loopw [18] (fun i wr => ∃ (k : Nat) (oa : Option Addr) (oc : Nat), k ≤ rows.length ∧ i = .int .i64 k ∧ Below w.heap.size w wr ∧ Blk wr B 27 [.int .i64 0, .int .i64 0, .int .i64 0, .int .i64 0, .int .i64 0, .int .i64 0, .int .i64 0, .int .i64 0, .int .i64 0, .int .u32 0, .slice none 0 0] ∧ Blk wr (B + 1) 27 [.int .i64 0, .int .i64 0, .int .i64 0, .int .i64 0, .int .i64 0, .int .i64 0, .int .i64 0, .int .i64 0, .int .i64 0, .int .u32 (secK rows k), .slice oa (peersK rows k).length oc] ∧ Blk wr (B + 2) 73 ((limsK rows k).map (Value.int .i64)) ∧ OwnX wr (B + 3) 46 2 (.slice oa (peersK rows k).length oc) (peersK rows k).length (cel (peersK rows k)) ∧ OwnX wr (B + 3) 38 1 (.slice a rows.length c) rows.length vs ∧ RowsB wr (B + 3) vs rows) (fun i _ => rows.length - (intOf i).toNat)
    case atStart => exact ⟨0, none, 0, Nat.zero_le _, rfl, (by repeat' (first | with_reducible exact hb1 | with_reducible refine Below.drew ?_ | with_reducible refine below_drewN ?_ _ | with_reducible refine Below.alloc ?_ (by have := hb1.size; first | (simp; done) | (simp; omega) | omega) _ | with_reducible refine Below.setCell ?_ (by first | (simp; done) | (simp; omega) | omega) _)), hRB, hXB, hLB, OwnX.nil _ _ _ _, hrow, hrb⟩
    case round =>
      clear hRB hXB hLB hrow hrb
      obtain ⟨k, oa, oc, hkl, rfl, hbw, hRB, hXB, hLB, hown, hrow, hrb⟩ := hrel
      by_cases hlt : k < rows.length
      · have hlt' : (k : Int) < (rows.length : Int) := by omega
        obtain ⟨r, hr⟩ : ∃ r, rows[k]? = some r := ⟨_, List.getElem?_eq_getElem hlt⟩
        obtain ⟨hr1, hr2, hr3⟩ := H_hmem.out k r hr
        obtain ⟨ga, rfl, hga, hgl, hcv, -⟩ := hrow.at (by omega)
        obtain ⟨bb, hv, hBk, hbb⟩ := hrb.at' k r hr
        have cv := hcv k _ hv
        have hbl := hBk.lt
        obtain ⟨m, hm⟩ : ∃ m, r.length = m + 1 := ⟨r.length - 1, by omega⟩
        have hlm : lastB r = r[m] := by
          unfold lastB; rw [show r.length - 1 = m by omega, List.getElem?_eq_getElem (by omega)]; rfl
        have lw : wr.cell? ⟨bb, m, none⟩ = some (.string (lastB r)) := hBk.cell (by rw [List.getElem?_map, List.getElem?_eq_getElem (by omega), hlm]; rfl)
        have hxs : (lastB r).size ≤ b.size := by rw [hlm]; exact hr3 _ (List.getElem_mem _)
        have hlim : limN rows k = numB (lastB r) := limN_at hr
        obtain ⟨x, hx⟩ : ∃ x, lastB r = x := ⟨_, rfl⟩
        have hpo : peerO r = if m = 2 then some (r[1]?.getD ⟨#[]⟩, numB x) else none := by
          unfold peerO; rw [hm, hx]
          by_cases h : m = 2
          · subst h; rfl
          · rw [if_neg h, if_neg (by omega)]
        have hw1 : m = 2 → wr.cell? ⟨bb, 1, none⟩ = some (.string (r[1]?.getD ⟨#[]⟩)) := fun h => hBk.cell (by
          have h1 : 1 < r.length := by omega
          rw [List.getElem?_map, List.getElem?_eq_getElem h1]; rfl)
        rw [hx] at lw hxs hlim
        obtain ⟨N, hN⟩ : ∃ N, numB x = N := ⟨_, rfl⟩
        obtain ⟨n0, n4⟩ := numB_rng x
        rw [hN] at hlim hpo n0 n4
        have hcall : ∀ W, Below w.heap.size w W → Calls Tryd.prog 45 #[.string x] W fun e w' => e = .returned (.int .u32 N) ∧ Below W.heap.size W w' := fun W g => by
          have := H_hnum.out x W g hxs
          rwa [show ((numW x.data.toList : Nat) : Int) = N from hN] at this
        have hwr : IntKind.i64.wrap N = N := by rw [IntKind.wrap_i64]; omega
        have e1 : ((m + 1 : Nat) : Int) - 1 = m := by omega
        have e2 : (m : Int) < ((m + 1 : Nat) : Int) := by omega
        have hr1' : 1 ≤ m + 1 := by omega
        have hml : m ≤ 100001 := by omega
        simp only [hm] at cv hv
        have hB2 := hLB.lt
        clear hcv hlm hr1 hr2 hr3 hv
        by_cases h9 : k < 9
        · have h9' : (k : Int) < 9 := by omega
          have hl2 : limsK rows (k + 1) = (limsK rows k).set k N := by rw [limsK_set h9, hlim]
          have hs2 : secK rows (k + 1) = secK rows k := secK_keep (by omega)
          have hp2 : peersK rows (k + 1) = peersK rows k := peersK_low (by omega)
          clear hw1
          have H_hm := Box.mk hm
          have H_hx := Box.mk hx
          have H_hN := Box.mk hN
          have H_hcall := Box.mk hcall
          have H_hlim := Box.mk hlim
          have H_hpo := Box.mk hpo
          have H_hr := Box.mk hr
          have H_hl2 := Box.mk hl2
          have H_hs2 := Box.mk hs2
          have H_hp2 := Box.mk hp2
          clear hm hx hN hcall hlim hpo hr hl2 hs2 hp2
          go_wp2_with fail
          with_reducible refine (H_hcall.out _ (by repeat' (first | with_reducible exact hbw | with_reducible refine Below.drew ?_ | with_reducible refine below_drewN ?_ _ | with_reducible refine Below.alloc ?_ (by have := hbw.size; first | (simp; done) | (simp; omega) | omega) _ | with_reducible refine Below.setCell ?_ (by first | (simp; done) | (simp; omega) | omega) _))).mono ?_
          rintro e w11 ⟨rfl, hc11⟩
          have hb11 : Below w.heap.size w w11 := bchain (by repeat' (first | with_reducible exact hbw | with_reducible refine Below.drew ?_ | with_reducible refine below_drewN ?_ _ | with_reducible refine Below.alloc ?_ (by have := hbw.size; first | (simp; done) | (simp; omega) | omega) _ | with_reducible refine Below.setCell ?_ (by first | (simp; done) | (simp; omega) | omega) _)) hc11
          have hst11 : Below wr.heap.size wr w11 := bchain (by repeat' (first | with_reducible exact Below.refl _ _ | with_reducible refine Below.drew ?_ | with_reducible refine below_drewN ?_ _ | with_reducible refine Below.alloc ?_ (by first | (simp; done) | (simp; omega) | omega) _ | with_reducible refine Below.setCell ?_ (by first | (simp; done) | (simp; omega) | omega) _)) hc11
          replace hRB := hRB.later hst11
          replace hXB := hXB.later hst11
          replace hLB := hLB.later hst11
          replace hown := hown.later hst11
          replace hrow := hrow.later hst11
          replace hrb := hrb.later hst11
          clear hst11
          clear hc11 hbw
          have fL := hLB.free k
          have cL : w11.cell? ⟨B + 2, k, none⟩ = some (.int .i64 ((limsK rows k)[k]?.getD 0)) := hLB.cellI (by rw [limsK_len]; exact h9)
          go_wp2_with fail
          go_roundw
          case rel => exact ⟨k + 1, oa, oc, hlt, by go_num, (by repeat' (first | with_reducible exact hb11 | with_reducible refine Below.drew ?_ | with_reducible refine below_drewN ?_ _ | with_reducible refine Below.alloc ?_ (by have := hb11.size; first | (simp; done) | (simp; omega) | omega) _ | with_reducible refine Below.setCell ?_ (by first | (simp; done) | (simp; omega) | omega) _)), hRB.setFar (by first | (simp; done) | (simp; omega) | omega) _, by rw [H_hs2.out, H_hp2.out]; exact hXB.setFar (by first | (simp; done) | (simp; omega) | omega) _, by rw [H_hl2.out]; exact hLB.setI k N, by rw [H_hp2.out]; exact hown.setCell (by first | (simp; done) | (simp; omega) | omega) _, hrow.setCell (by first | (simp; done) | (simp; omega) | omega) _, hrb.set (by first | (simp; done) | (simp; omega) | omega) _⟩
          case measure => simp [intOf]; omega
        · have h9' : ¬ (k : Int) < 9 := by omega
          have hl2 : limsK rows (k + 1) = limsK rows k := limsK_keep (by omega)
          by_cases h10 : k = 9
          · subst h10
            have hs2 : secK rows (9 + 1) = N := by rw [secK_set, hlim]
            have hp2 : peersK rows (9 + 1) = peersK rows 9 := peersK_low (by omega)
            clear hw1
            have H_hm := Box.mk hm
            have H_hx := Box.mk hx
            have H_hN := Box.mk hN
            have H_hcall := Box.mk hcall
            have H_hlim := Box.mk hlim
            have H_hpo := Box.mk hpo
            have H_hr := Box.mk hr
            have H_hl2 := Box.mk hl2
            have H_hs2 := Box.mk hs2
            have H_hp2 := Box.mk hp2
            clear hm hx hN hcall hlim hpo hr hl2 hs2 hp2
            go_wp2_with fail
            with_reducible refine (H_hcall.out _ (by repeat' (first | with_reducible exact hbw | with_reducible refine Below.drew ?_ | with_reducible refine below_drewN ?_ _ | with_reducible refine Below.alloc ?_ (by have := hbw.size; first | (simp; done) | (simp; omega) | omega) _ | with_reducible refine Below.setCell ?_ (by first | (simp; done) | (simp; omega) | omega) _))).mono ?_
            rintro e w11 ⟨rfl, hc11⟩
            have hb11 : Below w.heap.size w w11 := bchain (by repeat' (first | with_reducible exact hbw | with_reducible refine Below.drew ?_ | with_reducible refine below_drewN ?_ _ | with_reducible refine Below.alloc ?_ (by have := hbw.size; first | (simp; done) | (simp; omega) | omega) _ | with_reducible refine Below.setCell ?_ (by first | (simp; done) | (simp; omega) | omega) _)) hc11
            have hst11 : Below wr.heap.size wr w11 := bchain (by repeat' (first | with_reducible exact Below.refl _ _ | with_reducible refine Below.drew ?_ | with_reducible refine below_drewN ?_ _ | with_reducible refine Below.alloc ?_ (by first | (simp; done) | (simp; omega) | omega) _ | with_reducible refine Below.setCell ?_ (by first | (simp; done) | (simp; omega) | omega) _)) hc11
            replace hRB := hRB.later hst11
            replace hXB := hXB.later hst11
            replace hLB := hLB.later hst11
            replace hown := hown.later hst11
            replace hrow := hrow.later hst11
            replace hrb := hrb.later hst11
            clear hst11
            clear hc11 hbw
            have fX := hXB.free 9
            have cX := hXB.cell (j := 9) rfl
            go_wp2_with fail
            go_roundw
            case rel => exact ⟨9 + 1, oa, oc, hlt, by go_num, (by repeat' (first | with_reducible exact hb11 | with_reducible refine Below.drew ?_ | with_reducible refine below_drewN ?_ _ | with_reducible refine Below.alloc ?_ (by have := hb11.size; first | (simp; done) | (simp; omega) | omega) _ | with_reducible refine Below.setCell ?_ (by first | (simp; done) | (simp; omega) | omega) _)), hRB.setFar (by first | (simp; done) | (simp; omega) | omega) _, by rw [H_hs2.out, H_hp2.out]; exact hXB.set 9 _, by rw [H_hl2.out]; exact hLB.setFar (by first | (simp; done) | (simp; omega) | omega) _, by rw [H_hp2.out]; exact hown.setCell (by first | (simp; done) | (simp; omega) | omega) _, hrow.setCell (by first | (simp; done) | (simp; omega) | omega) _, hrb.set (by first | (simp; done) | (simp; omega) | omega) _⟩
            case measure => first | (simp [intOf]; done) | (simp [intOf]; omega)
          · have h10' : ¬ (k : Int) = 9 := by omega
            have h10'' : ((k : Int) == 9) = false := beq_eq_false_iff_ne.2 h10'
            have hs2 : secK rows (k + 1) = secK rows k := secK_keep h10
            have hp2 := peersK_on (show 10 ≤ k by omega) hr
            by_cases h3 : m = 2
            · subst h3
              rw [hpo, if_pos rfl] at hp2
              obtain ⟨y, hy⟩ : ∃ y, r[1]?.getD ⟨#[]⟩ = y := ⟨_, rfl⟩
              have h1r : (r.map Value.string)[1]? = some (.string y) := by
                rw [List.getElem?_map, ← hy, List.getElem?_eq_getElem (show 1 < r.length by omega)]; rfl
              obtain ⟨P, hP⟩ : ∃ P, peersK rows k = P := ⟨_, rfl⟩
              rw [hy] at hp2
              rw [hP] at hp2 hown hXB
              have hPl : P.length ≤ 100000 := by have := peersK_len rows k; rw [hP] at this; omega
              obtain ⟨i0, hi, hz0, hz1, hz2⟩ := info_parts info_peer
              have e4 : (1 : Int) < ((2 + 1 : Nat) : Int) := by omega
              have e5 : ((2 : Nat) : Int) + 1 = 3 := by omega
              clear hw1
              have H_hm := Box.mk hm
              have H_hx := Box.mk hx
              have H_hN := Box.mk hN
              have H_hcall := Box.mk hcall
              have H_hlim := Box.mk hlim
              have H_hpo := Box.mk hpo
              have H_hr := Box.mk hr
              have H_hl2 := Box.mk hl2
              have H_hs2 := Box.mk hs2
              have H_hp2 := Box.mk hp2
              have H_hP := Box.mk hP
              have H_hy := Box.mk hy
              have H_h1r := Box.mk h1r
              clear hm hx hN hcall hlim hpo hr hl2 hs2 hp2 hP hy h1r
              go_wp2_with fail
              go_wp2_with fail
              refine wp_gen fun w11 hc11 => ?_
              have hb11 : Below w.heap.size w w11 := bchain (by repeat' (first | with_reducible exact hbw | with_reducible refine Below.drew ?_ | with_reducible refine below_drewN ?_ _ | with_reducible refine Below.alloc ?_ (by have := hbw.size; first | (simp; done) | (simp; omega) | omega) _ | with_reducible refine Below.setCell ?_ (by first | (simp; done) | (simp; omega) | omega) _)) hc11
              have hst11 : Below wr.heap.size wr w11 := bchain (by repeat' (first | with_reducible exact Below.refl _ _ | with_reducible refine Below.drew ?_ | with_reducible refine below_drewN ?_ _ | with_reducible refine Below.alloc ?_ (by first | (simp; done) | (simp; omega) | omega) _ | with_reducible refine Below.setCell ?_ (by first | (simp; done) | (simp; omega) | omega) _)) hc11
              replace hRB := hRB.later hst11
              replace hXB := hXB.later hst11
              replace hLB := hLB.later hst11
              replace hown := hown.later hst11
              replace hrow := hrow.later hst11
              replace hrb := hrb.later hst11
              replace hBk := hBk.later hst11
              clear hst11
              have KX := cell_on (hXB.cell (j := 10) rfl)
              have KW := cell_on (hBk.cell H_h1r.out)
              refine wp_region_on_spec_tail [(6, [], fun _ => VIs (.int .u32 N)), (8, [], fun _ => VNewP [.string y, .int .u32 N])] [6, 8] [] [(6, []), (8, [])] 9 (by kernel_rfl) (by kernel_rfl) rfl (by kernel_rfl) rfl (by kernel_rfl) ⟨fun _ => VIs.last, fun _ => VNewP.last, trivial⟩ ?_
              try simp only [List.take_succ_cons, List.take_zero, List.drop_succ_cons, List.drop_zero]
              refine wpSpec_quiet 6 (by kernel_rfl) (by kernel_rfl) ?_
              simp only [List.take_succ_cons, List.take_zero, List.drop_succ_cons, List.drop_zero]
              repeat (go_big_quiet_step (fail))
              refine wpQuiet_nil ?_
              show wpSpec _ _ _ _ _ _ _ _ _ _ _
              refine wpSpec_at [] (VIs (.int .u32 N)) rfl (by first | rfl | (simp [viewS, Act.eval]; done)) rfl (by first | rfl | (simp [Region.wanted]; done)) ?_ rfl ?_
              · intro wq hq hfq
                clear hfq
                refine gives_call 45 _ _ #[.string x] rfl (by kernel_rfl) (by simp [Act.eval]) ((H_hcall.out _ (bchain hb11 hq)).mono ?_)
                rintro e w' ⟨rfl, hb⟩
                exact ⟨_, rfl, hb, rfl⟩
              rintro x6 ⟨_, hx6⟩
              cases hx6
              simp only [Act.put, List.setIfInBounds_toArray, List.set_cons_succ, List.set_cons_zero]
              refine wpSpec_quiet 1 (by kernel_rfl) (by kernel_rfl) ?_
              simp only [List.take_succ_cons, List.take_zero, List.drop_succ_cons, List.drop_zero]
              repeat (go_big_quiet_step (fail))
              refine wpQuiet_nil ?_
              show wpSpec _ _ _ _ _ _ _ _ _ _ _
              refine wpSpec_at [] (VNewP [.string y, .int .u32 N]) rfl (by first | rfl | (simp [viewS, Act.eval]; done)) rfl (by first | rfl | (simp [Region.wanted]; done)) ?_ rfl ?_
              · intro wq hq hfq
                clear hfq
                unfold Oper.gives; go_simp; exact ⟨(Below.refl _ _).alloc (Nat.le_refl _) _, _, _, rfl, Blk.newA wq _ _ _ [.string y, .int .u32 N] rfl rfl⟩
              rintro x8 ⟨_, ⟨vb, vc, rfl, _⟩⟩
              simp only [Act.put, List.setIfInBounds_toArray, List.set_cons_succ, List.set_cons_zero]
              intro w12 hc12 hfq
              have f8 := hfq 8
              simp only [upd, Nat.beq, cond] at f8
              clear hfq
              have hb12 : Below w.heap.size w w12 := bchain (by repeat' (first | with_reducible exact hb11 | with_reducible refine Below.drew ?_ | with_reducible refine below_drewN ?_ _ | with_reducible refine Below.alloc ?_ (by have := hb11.size; first | (simp; done) | (simp; omega) | omega) _ | with_reducible refine Below.setCell ?_ (by first | (simp; done) | (simp; omega) | omega) _)) hc12
              have hst12 : Below w11.heap.size w11 w12 := bchain (by repeat' (first | with_reducible exact Below.refl _ _ | with_reducible refine Below.drew ?_ | with_reducible refine below_drewN ?_ _ | with_reducible refine Below.alloc ?_ (by first | (simp; done) | (simp; omega) | omega) _ | with_reducible refine Below.setCell ?_ (by first | (simp; done) | (simp; omega) | omega) _)) hc12
              replace hRB := hRB.later hst12
              replace hXB := hXB.later hst12
              replace hLB := hLB.later hst12
              replace hown := hown.later hst12
              replace hrow := hrow.later hst12
              replace hrb := hrb.later hst12
              replace hBk := hBk.later hst12
              clear hst12
              obtain ⟨vb', vc', e8, k8⟩ := f8
              cases e8
              go_wp2_with (at_builtin; refine stop ?_)
              refine Stop.go ?_
              refine wpList_append_x _ rfl _ _ 25 rfl (B + 3) 46 i0 (.agg #[.string ⟨#[]⟩, .int .u32 0]) 2 24 Tryd.underlying25 hi hz0 hz1 hz2 rfl (by decide) (.slice oa P.length oc) P.length (cel P) rfl hown (some ⟨vb, 0, none⟩) 1 vc [.string y, .int .u32 N] rfl rfl k8.cellsAt2 (by intro u hu; simp at hu; rcases hu with rfl | rfl <;> rfl) (by unfold maxLen; omega) (by omega) (by have := hLB.lt; omega) ?_
              intro a' c' W1 hown2 hg hown3
              have hR2 := hRB.keptT hown hg (by decide)
              have hX2 := hXB.keptT hown hg (by decide)
              have hL2 := hLB.keptT hown hg (by decide)
              have hw2 := hrow.keptT hown hg (by decide)
              have hb2 := hrb.kept hown hg (by decide)
              have hbW : Below w.heap.size w W1 := below_grownX hb12 hg (by have := hb12.size; omega) (fun k hk => by have := (hown.lt k hk).1; omega)
              have hceq : cel P ++ [.string y, .int .u32 N] = cel (P ++ [(y, N)]) := by rw [cel_append]; rfl
              have hpeq : peersK rows (k + 1) = P ++ [(y, N)] := by rw [H_hp2.out]; rfl
              have hleq : P.length + 1 = (P ++ [(y, N)]).length := by simp
              rw [hceq] at hown2
              have fX := hX2.free 10
              have cX := hX2.cell (j := 10) rfl
              clear hown hRB hXB hLB hrow hrb hBk hg hown3 k8
              have H_hceq := Box.mk hceq
              have H_hpeq := Box.mk hpeq
              have H_hleq := Box.mk hleq
              clear hceq hpeq hleq
              go_wp2_with fail
              go_roundw
              case rel => exact ⟨k + 1, a', c', hlt, by go_num, (by repeat' (first | with_reducible exact hbW | with_reducible refine Below.drew ?_ | with_reducible refine below_drewN ?_ _ | with_reducible refine Below.alloc ?_ (by have := hbW.size; first | (simp; done) | (simp; omega) | omega) _ | with_reducible refine Below.setCell ?_ (by first | (simp; done) | (simp; omega) | omega) _)), hR2.setFar (by first | (simp; done) | (simp; omega) | omega) _, by rw [H_hs2.out, H_hpeq.out, ← H_hleq.out]; exact hX2.set 10 _, by rw [H_hl2.out]; exact hL2.setFar (by first | (simp; done) | (simp; omega) | omega) _, by rw [H_hpeq.out, ← H_hleq.out]; exact hown2.setCell (by first | (simp; done) | (simp; omega) | omega) _, hw2.setCell (by first | (simp; done) | (simp; omega) | omega) _, hb2.set (by first | (simp; done) | (simp; omega) | omega) _⟩
              case measure => simp [intOf]; omega
            · have h3' : ((m : Int) + 1 == 3) = false := beq_eq_false_iff_ne.2 (by omega)
              rw [hpo, if_neg h3] at hp2
              replace hp2 : peersK rows (k + 1) = peersK rows k := by rw [hp2]; simp
              clear hw1
              have H_hm := Box.mk hm
              have H_hx := Box.mk hx
              have H_hN := Box.mk hN
              have H_hcall := Box.mk hcall
              have H_hlim := Box.mk hlim
              have H_hpo := Box.mk hpo
              have H_hr := Box.mk hr
              have H_hl2 := Box.mk hl2
              have H_hs2 := Box.mk hs2
              have H_hp2 := Box.mk hp2
              clear hm hx hN hcall hlim hpo hr hl2 hs2 hp2
              go_wp2_with fail
              go_roundw
              case rel => exact ⟨k + 1, oa, oc, hlt, by go_num, (by repeat' (first | with_reducible exact hbw | with_reducible refine Below.drew ?_ | with_reducible refine below_drewN ?_ _ | with_reducible refine Below.alloc ?_ (by have := hbw.size; first | (simp; done) | (simp; omega) | omega) _ | with_reducible refine Below.setCell ?_ (by first | (simp; done) | (simp; omega) | omega) _)), hRB, by rw [H_hs2.out, H_hp2.out]; exact hXB, by rw [H_hl2.out]; exact hLB, by rw [H_hp2.out]; exact hown, hrow, hrb⟩
              case measure => simp [intOf]; omega
      · obtain rfl : k = rows.length := by omega
        clear hlt hkl hrow hrb
        have hpz := H_hpz.out
        have hkeys := H_hkeys.out
        have hpl := H_hpl.out
        have hsr := numB_rng (lastB (rows[9]?.getD []))
        rw [limsK_end] at hLB
        rw [secK_end, peersK_end] at hXB
        rw [peersK_end] at hown
        obtain ⟨s, hs⟩ : ∃ s, limN rows 9 = s := ⟨_, rfl⟩
        obtain ⟨ps, hps⟩ : ∃ ps, peersN rows = ps := ⟨_, rfl⟩
        obtain ⟨L, hL⟩ : ∃ L, readL rows = L := ⟨_, rfl⟩
        obtain ⟨l0, l1, l2, l3, l4, l5, l6, l7, l8⟩ := L
        have hsr2 : 0 ≤ s ∧ s < 4294967296 := by rw [← hs]; exact hsr
        rw [hs, hps, hL] at hpz
        rw [hps] at hkeys hpl hown
        rw [hs, hps] at hXB
        rw [hL] at hLB
        obtain ⟨s0, s4⟩ := hsr2
        have p6 : ∀ ad, oa = some ad → ad.block ≠ B := fun ad e => by have := (hown.addr ad e).1; omega
        obtain ⟨E, hE2⟩ : ∃ E, chkS (⟨l0, l1, l2, l3, l4, l5, l6, l7, l8⟩ : Lim) s ps = E := ⟨_, rfl⟩
        rw [hE2] at hpz
        have htxt := fun W (g : SIn W s ps oa) (hb : Below w.heap.size w W) => Text_any l0 l1 l2 l3 l4 l5 l6 l7 l8 s ps oa oc W g E hE2 (fun W' hb' => H_htab.out W' (bchain hb hb'))
        unfold RetSI at htxt
        have hps6 : ps.length ≤ 1000000 := by omega
        clear hsr
        have H_hs := Box.mk hs
        have H_hps := Box.mk hps
        have H_hL := Box.mk hL
        have H_hE2 := Box.mk hE2
        have H_hkeys := Box.mk hkeys
        clear hs hps hL hE2 hkeys
        have L_0 := hLB.cell (j := 0) rfl
        have L_1 := hLB.cell (j := 1) rfl
        have L_2 := hLB.cell (j := 2) rfl
        have L_3 := hLB.cell (j := 3) rfl
        have L_4 := hLB.cell (j := 4) rfl
        have L_5 := hLB.cell (j := 5) rfl
        have L_6 := hLB.cell (j := 6) rfl
        have L_7 := hLB.cell (j := 7) rfl
        have L_8 := hLB.cell (j := 8) rfl
        have H_hpz := Box.mk hpz
        have H_htxt := Box.mk htxt
        clear hpz htxt
        go_wp2_with fail
        with_reducible refine (limits_any l0 l1 l2 l3 l4 l5 l6 l7 l8 _).mono ?_
        rintro e w11 ⟨rfl, hc11⟩
        have hb11 : Below w.heap.size w w11 := bchain (by repeat' (first | with_reducible exact hbw | with_reducible refine Below.drew ?_ | with_reducible refine below_drewN ?_ _ | with_reducible refine Below.alloc ?_ (by have := hbw.size; first | (simp; done) | (simp; omega) | omega) _ | with_reducible refine Below.setCell ?_ (by first | (simp; done) | (simp; omega) | omega) _)) hc11
        have hst11 : Below wr.heap.size wr w11 := bchain (by repeat' (first | with_reducible exact Below.refl _ _ | with_reducible refine Below.drew ?_ | with_reducible refine below_drewN ?_ _ | with_reducible refine Below.alloc ?_ (by first | (simp; done) | (simp; omega) | omega) _ | with_reducible refine Below.setCell ?_ (by first | (simp; done) | (simp; omega) | omega) _)) hc11
        replace hRB := hRB.later hst11
        replace hXB := hXB.later hst11
        replace hown := hown.later hst11
        clear hst11
        clear hc11 hbw
        clear L_0 L_1 L_2 L_3 L_4 L_5 L_6 L_7 L_8 hLB
        have X_0 := hXB.cell (j := 0) rfl
        have X_1 := hXB.cell (j := 1) rfl
        have X_2 := hXB.cell (j := 2) rfl
        have X_3 := hXB.cell (j := 3) rfl
        have X_4 := hXB.cell (j := 4) rfl
        have X_5 := hXB.cell (j := 5) rfl
        have X_6 := hXB.cell (j := 6) rfl
        have X_7 := hXB.cell (j := 7) rfl
        have X_8 := hXB.cell (j := 8) rfl
        have X_f0 := hXB.free 0
        have X_f1 := hXB.free 1
        have X_f2 := hXB.free 2
        have X_f3 := hXB.free 3
        have X_f4 := hXB.free 4
        have X_f5 := hXB.free 5
        have X_f6 := hXB.free 6
        have X_f7 := hXB.free 7
        have X_f8 := hXB.free 8
        go_upto_region 17 with fail
        refine wp_facts (fun Wx => Below w.heap.size w Wx ∧ Blk Wx B 27 [.int .i64 0, .int .i64 0, .int .i64 0, .int .i64 0, .int .i64 0, .int .i64 0, .int .i64 0, .int .i64 0, .int .i64 0, .int .u32 0, .slice none 0 0] ∧ Blk Wx (B + 1) 27 [.int .i64 l0, .int .i64 l1, .int .i64 l2, .int .i64 l3, .int .i64 l4, .int .i64 l5, .int .i64 l6, .int .i64 l7, .int .i64 l8, .int .u32 s, .slice oa ps.length oc] ∧ SIn Wx s ps oa) ⟨(by repeat' (first | with_reducible exact hb11 | with_reducible refine Below.drew ?_ | with_reducible refine below_drewN ?_ _ | with_reducible refine Below.alloc ?_ (by have := hb11.size; first | (simp; done) | (simp; omega) | omega) _ | with_reducible refine Below.setCell ?_ (by first | (simp; done) | (simp; omega) | omega) _)), (by repeat' (first | with_reducible exact hRB | with_reducible refine Blk.setFar ?_ (by first | (simp; done) | (simp; omega) | omega) _)), ((((((((hXB.set 0 _).set 1 _).set 2 _).set 3 _).set 4 _).set 5 _).set 6 _).set 7 _).set 8 _, ⟨s0, s4, ((((((((((hown.setCell (by first | (simp; done) | (simp; omega) | omega) _).setCell (by first | (simp; done) | (simp; omega) | omega) _).setCell (by first | (simp; done) | (simp; omega) | omega) _).setCell (by first | (simp; done) | (simp; omega) | omega) _).setCell (by first | (simp; done) | (simp; omega) | omega) _).setCell (by first | (simp; done) | (simp; omega) | omega) _).setCell (by first | (simp; done) | (simp; omega) | omega) _).setCell (by first | (simp; done) | (simp; omega) | omega) _).setCell (by first | (simp; done) | (simp; omega) | omega) _).cellsAt), H_hkeys.out, hps6⟩⟩ ?_
        clear X_0 X_1 X_2 X_3 X_4 X_5 X_6 X_7 X_8 X_f0 X_f1 X_f2 X_f3 X_f4 X_f5 X_f6 X_f7 X_f8 hRB hXB hown
        rintro Wx ⟨hbx, hRB, hXB, hS⟩
        have htx := H_htxt.out
        by_cases h0 : E = 0
        · subst h0
          obtain ⟨T, hT⟩ : ∃ T : ByteArray, (⟨(textL (⟨l0, l1, l2, l3, l4, l5, l6, l7, l8⟩ : Lim) s ps).toArray⟩ : ByteArray) = T := ⟨_, rfl⟩
          have htR : textR 0 (⟨l0, l1, l2, l3, l4, l5, l6, l7, l8⟩ : Lim) s ps = (T, 0) := by unfold textR; rw [if_pos rfl, hT]
          simp only [htR] at htx
          cases hcmp : (T.toList == b.toList) with
          | true =>
            have hTb : T = b := seqB_iff.1 hcmp
            have hr2 : (⟨(⟨l0, l1, l2, l3, l4, l5, l6, l7, l8⟩ : Lim), s, ps, 0⟩ : SOut) = R := by
              have ht : textL (⟨l0, l1, l2, l3, l4, l5, l6, l7, l8⟩ : Lim) s ps = b.data.toList := by rw [← hTb, ← hT]
              rw [H_hpz.out, if_pos ⟨rfl, ht⟩]
            have H_hT := Box.mk hT
            have H_htR := Box.mk htR
            have H_hTb := Box.mk hTb
            have H_hr2 := Box.mk hr2
            have H_htx := Box.mk htx
            clear hT htR hTb hr2 htx
            have X_0 := hXB.cell (j := 0) rfl
            have X_1 := hXB.cell (j := 1) rfl
            have X_2 := hXB.cell (j := 2) rfl
            have X_3 := hXB.cell (j := 3) rfl
            have X_4 := hXB.cell (j := 4) rfl
            have X_5 := hXB.cell (j := 5) rfl
            have X_6 := hXB.cell (j := 6) rfl
            have X_7 := hXB.cell (j := 7) rfl
            have X_8 := hXB.cell (j := 8) rfl
            have X_9 := hXB.cell (j := 9) rfl
            have X_10 := hXB.cell (j := 10) rfl
            go_wp2_with fail
            with_reducible refine (H_htx.out _ hS hbx).mono ?_
            rintro e w61 ⟨rfl, hc61⟩
            have hb61 : Below w.heap.size w w61 := bchain (by repeat' (first | with_reducible exact hbx | with_reducible refine Below.drew ?_ | with_reducible refine below_drewN ?_ _ | with_reducible refine Below.alloc ?_ (by have := hbx.size; first | (simp; done) | (simp; omega) | omega) _ | with_reducible refine Below.setCell ?_ (by first | (simp; done) | (simp; omega) | omega) _)) hc61
            have hst61 : Below Wx.heap.size Wx w61 := bchain (by repeat' (first | with_reducible exact Below.refl _ _ | with_reducible refine Below.drew ?_ | with_reducible refine below_drewN ?_ _ | with_reducible refine Below.alloc ?_ (by first | (simp; done) | (simp; omega) | omega) _ | with_reducible refine Below.setCell ?_ (by first | (simp; done) | (simp; omega) | omega) _)) hc61
            replace hRB := hRB.later hst61
            replace hXB := hXB.later hst61
            replace hS := hS.later hst61
            clear hst61
            clear hc61 hbx
            clear X_0 X_1 X_2 X_3 X_4 X_5 X_6 X_7 X_8 X_9 X_10
            have X_0 := hXB.cell (j := 0) rfl
            have X_1 := hXB.cell (j := 1) rfl
            have X_2 := hXB.cell (j := 2) rfl
            have X_3 := hXB.cell (j := 3) rfl
            have X_4 := hXB.cell (j := 4) rfl
            have X_5 := hXB.cell (j := 5) rfl
            have X_6 := hXB.cell (j := 6) rfl
            have X_7 := hXB.cell (j := 7) rfl
            have X_8 := hXB.cell (j := 8) rfl
            have X_9 := hXB.cell (j := 9) rfl
            have X_10 := hXB.cell (j := 10) rfl
            have R_0 := hRB.cell (j := 0) rfl
            have R_1 := hRB.cell (j := 1) rfl
            have R_2 := hRB.cell (j := 2) rfl
            have R_3 := hRB.cell (j := 3) rfl
            have R_4 := hRB.cell (j := 4) rfl
            have R_5 := hRB.cell (j := 5) rfl
            have R_6 := hRB.cell (j := 6) rfl
            have R_7 := hRB.cell (j := 7) rfl
            have R_8 := hRB.cell (j := 8) rfl
            have R_9 := hRB.cell (j := 9) rfl
            have R_10 := hRB.cell (j := 10) rfl
            have R_f0 := hRB.free 0
            have R_f1 := hRB.free 1
            have R_f2 := hRB.free 2
            have R_f3 := hRB.free 3
            have R_f4 := hRB.free 4
            have R_f5 := hRB.free 5
            have R_f6 := hRB.free 6
            have R_f7 := hRB.free 7
            have R_f8 := hRB.free 8
            have R_f9 := hRB.free 9
            have R_f10 := hRB.free 10
            go_wp2_with fail
            refine bodyPost_ret (v := .tuple #[.agg #[.int .i64 l0, .int .i64 l1, .int .i64 l2, .int .i64 l3, .int .i64 l4, .int .i64 l5, .int .i64 l6, .int .i64 l7, .int .i64 l8, .int .u32 s, .slice oa ps.length oc], .int .i64 0]) (by simp [results, Tryd.results13, go_sem, *]) rfl ⟨RetS.of (r := ⟨(⟨l0, l1, l2, l3, l4, l5, l6, l7, l8⟩ : Lim), s, ps, 0⟩) ⟨oa, oc, rfl, (by repeat' (first | with_reducible exact hS.cells | with_reducible refine CellsAt.setFarG ?_ p6 _ | with_reducible refine CellsAt.drewN ?_ _))⟩ H_hr2.out, (by repeat' (first | with_reducible exact hb61 | with_reducible refine Below.drew ?_ | with_reducible refine below_drewN ?_ _ | with_reducible refine Below.alloc ?_ (by have := hb61.size; first | (simp; done) | (simp; omega) | omega) _ | with_reducible refine Below.setCell ?_ (by first | (simp; done) | (simp; omega) | omega) _))⟩
          | false =>
            have hTb : T ≠ b := fun e => by rw [e, show (b.toList == b.toList) = true from seqB_self b] at hcmp; cases hcmp
            have hr2 : zOut 12 = R := by
              rw [H_hpz.out, if_neg]
              rintro ⟨_, h⟩
              exact hTb (by rw [← hT, h])
            have H_hT := Box.mk hT
            have H_htR := Box.mk htR
            have H_hTb := Box.mk hTb
            have H_hr2 := Box.mk hr2
            have H_htx := Box.mk htx
            clear hT htR hTb hr2 htx
            have X_0 := hXB.cell (j := 0) rfl
            have X_1 := hXB.cell (j := 1) rfl
            have X_2 := hXB.cell (j := 2) rfl
            have X_3 := hXB.cell (j := 3) rfl
            have X_4 := hXB.cell (j := 4) rfl
            have X_5 := hXB.cell (j := 5) rfl
            have X_6 := hXB.cell (j := 6) rfl
            have X_7 := hXB.cell (j := 7) rfl
            have X_8 := hXB.cell (j := 8) rfl
            have X_9 := hXB.cell (j := 9) rfl
            have X_10 := hXB.cell (j := 10) rfl
            go_wp2_with fail
            with_reducible refine (H_htx.out _ hS hbx).mono ?_
            rintro e w61 ⟨rfl, hc61⟩
            have hb61 : Below w.heap.size w w61 := bchain (by repeat' (first | with_reducible exact hbx | with_reducible refine Below.drew ?_ | with_reducible refine below_drewN ?_ _ | with_reducible refine Below.alloc ?_ (by have := hbx.size; first | (simp; done) | (simp; omega) | omega) _ | with_reducible refine Below.setCell ?_ (by first | (simp; done) | (simp; omega) | omega) _)) hc61
            have hst61 : Below Wx.heap.size Wx w61 := bchain (by repeat' (first | with_reducible exact Below.refl _ _ | with_reducible refine Below.drew ?_ | with_reducible refine below_drewN ?_ _ | with_reducible refine Below.alloc ?_ (by first | (simp; done) | (simp; omega) | omega) _ | with_reducible refine Below.setCell ?_ (by first | (simp; done) | (simp; omega) | omega) _)) hc61
            replace hRB := hRB.later hst61
            replace hXB := hXB.later hst61
            replace hS := hS.later hst61
            clear hst61
            clear hc61 hbx
            clear X_0 X_1 X_2 X_3 X_4 X_5 X_6 X_7 X_8 X_9 X_10
            have R_0 := hRB.cell (j := 0) rfl
            have R_1 := hRB.cell (j := 1) rfl
            have R_2 := hRB.cell (j := 2) rfl
            have R_3 := hRB.cell (j := 3) rfl
            have R_4 := hRB.cell (j := 4) rfl
            have R_5 := hRB.cell (j := 5) rfl
            have R_6 := hRB.cell (j := 6) rfl
            have R_7 := hRB.cell (j := 7) rfl
            have R_8 := hRB.cell (j := 8) rfl
            have R_9 := hRB.cell (j := 9) rfl
            have R_10 := hRB.cell (j := 10) rfl
            have R_f0 := hRB.free 0
            have R_f1 := hRB.free 1
            have R_f2 := hRB.free 2
            have R_f3 := hRB.free 3
            have R_f4 := hRB.free 4
            have R_f5 := hRB.free 5
            have R_f6 := hRB.free 6
            have R_f7 := hRB.free 7
            have R_f8 := hRB.free 8
            have R_f9 := hRB.free 9
            have R_f10 := hRB.free 10
            go_wp2_with fail
            refine bodyPost_ret (v := .tuple #[.agg #[.int .i64 0, .int .i64 0, .int .i64 0, .int .i64 0, .int .i64 0, .int .i64 0, .int .i64 0, .int .i64 0, .int .i64 0, .int .u32 0, .slice none 0 0], .int .i64 12]) (by simp [results, Tryd.results13, go_sem, *]) rfl ⟨RetS.of (r := zOut 12) ⟨none, 0, rfl, .inl rfl⟩ H_hr2.out, (by repeat' (first | with_reducible exact hb61 | with_reducible refine Below.drew ?_ | with_reducible refine below_drewN ?_ _ | with_reducible refine Below.alloc ?_ (by have := hb61.size; first | (simp; done) | (simp; omega) | omega) _ | with_reducible refine Below.setCell ?_ (by first | (simp; done) | (simp; omega) | omega) _))⟩
        · have htR : textR E (⟨l0, l1, l2, l3, l4, l5, l6, l7, l8⟩ : Lim) s ps = (⟨#[]⟩, E) := by unfold textR; rw [if_neg h0]
          simp only [htR] at htx
          have b1 : (E != 0) = true := bne_iff_ne.2 h0
          have hr2 : zOut 12 = R := by rw [H_hpz.out, if_neg (fun h => h0 h.1)]
          have H_htR := Box.mk htR
          have H_hr2 := Box.mk hr2
          have H_htx := Box.mk htx
          clear htR hr2 htx
          have X_0 := hXB.cell (j := 0) rfl
          have X_1 := hXB.cell (j := 1) rfl
          have X_2 := hXB.cell (j := 2) rfl
          have X_3 := hXB.cell (j := 3) rfl
          have X_4 := hXB.cell (j := 4) rfl
          have X_5 := hXB.cell (j := 5) rfl
          have X_6 := hXB.cell (j := 6) rfl
          have X_7 := hXB.cell (j := 7) rfl
          have X_8 := hXB.cell (j := 8) rfl
          have X_9 := hXB.cell (j := 9) rfl
          have X_10 := hXB.cell (j := 10) rfl
          go_wp2_with fail
          with_reducible refine (H_htx.out _ hS hbx).mono ?_
          rintro e w61 ⟨rfl, hc61⟩
          have hb61 : Below w.heap.size w w61 := bchain (by repeat' (first | with_reducible exact hbx | with_reducible refine Below.drew ?_ | with_reducible refine below_drewN ?_ _ | with_reducible refine Below.alloc ?_ (by have := hbx.size; first | (simp; done) | (simp; omega) | omega) _ | with_reducible refine Below.setCell ?_ (by first | (simp; done) | (simp; omega) | omega) _)) hc61
          have hst61 : Below Wx.heap.size Wx w61 := bchain (by repeat' (first | with_reducible exact Below.refl _ _ | with_reducible refine Below.drew ?_ | with_reducible refine below_drewN ?_ _ | with_reducible refine Below.alloc ?_ (by first | (simp; done) | (simp; omega) | omega) _ | with_reducible refine Below.setCell ?_ (by first | (simp; done) | (simp; omega) | omega) _)) hc61
          replace hRB := hRB.later hst61
          replace hXB := hXB.later hst61
          replace hS := hS.later hst61
          clear hst61
          clear hc61 hbx
          clear X_0 X_1 X_2 X_3 X_4 X_5 X_6 X_7 X_8 X_9 X_10
          have R_0 := hRB.cell (j := 0) rfl
          have R_1 := hRB.cell (j := 1) rfl
          have R_2 := hRB.cell (j := 2) rfl
          have R_3 := hRB.cell (j := 3) rfl
          have R_4 := hRB.cell (j := 4) rfl
          have R_5 := hRB.cell (j := 5) rfl
          have R_6 := hRB.cell (j := 6) rfl
          have R_7 := hRB.cell (j := 7) rfl
          have R_8 := hRB.cell (j := 8) rfl
          have R_9 := hRB.cell (j := 9) rfl
          have R_10 := hRB.cell (j := 10) rfl
          have R_f0 := hRB.free 0
          have R_f1 := hRB.free 1
          have R_f2 := hRB.free 2
          have R_f3 := hRB.free 3
          have R_f4 := hRB.free 4
          have R_f5 := hRB.free 5
          have R_f6 := hRB.free 6
          have R_f7 := hRB.free 7
          have R_f8 := hRB.free 8
          have R_f9 := hRB.free 9
          have R_f10 := hRB.free 10
          go_wp2_with fail
          refine bodyPost_ret (v := .tuple #[.agg #[.int .i64 0, .int .i64 0, .int .i64 0, .int .i64 0, .int .i64 0, .int .i64 0, .int .i64 0, .int .i64 0, .int .i64 0, .int .u32 0, .slice none 0 0], .int .i64 12]) (by simp [results, Tryd.results13, go_sem, *]) rfl ⟨RetS.of (r := zOut 12) ⟨none, 0, rfl, .inl rfl⟩ H_hr2.out, (by repeat' (first | with_reducible exact hb61 | with_reducible refine Below.drew ?_ | with_reducible refine below_drewN ?_ _ | with_reducible refine Below.alloc ?_ (by have := hb61.size; first | (simp; done) | (simp; omega) | omega) _ | with_reducible refine Below.setCell ?_ (by first | (simp; done) | (simp; omega) | omega) _))⟩
end Go.Proofs.YthdldmkeoglflaaDoor
