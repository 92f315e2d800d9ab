/- What Rounds return. -/
import Derived.Test.YtoelndaeemlefaaSchedSame
import Derived.Test.YtoelndaeemlefaaSchedRoundP
namespace Go.Proofs.Ytoelndaeemlefaa
set_option linter.unusedSimpArgs false
set_option linter.unusedVariables false
set_option linter.unnecessarySimpa false
open Go.RowKit

set_option maxHeartbeats 4000000 in
theorem rnext_n (n m : Nat) (l a : List Int) (la aa : Option Addr) (lc ac f : Nat) (w : World) (hn : n = l.length) (hm : m = a.length) (hl : CellsAt w la (l.map (Value.int .i64))) (ha : CellsAt w aa (a.map (Value.int .i64))) (hv : TV l a) (hpos : 0 < l.length) (hml : l.length ≤ 12) (hf : f ≤ 12) :
    Calls Try.prog 37 #[.agg #[.slice la n lc, .slice aa m ac], .int .i64 f] w fun e w' =>
      e = .returned (.int .i64 (nxtI l a f)) ∧ Below w.heap.size w w' := by
  subst hn hm
  have hne : ¬ (l.length : Int) = 0 := by omega
  go_enter Try.func37, Try.ntmps37
  have hb0 := Below.refl w.heap.size w
  go_wp2_with fail
  go_loopw [5] (fun i wr => ∃ k : Nat, k ≤ l.length ∧ i = .int .i64 k ∧ Below w.heap.size w wr ∧ (wr.cell? ⟨w.heap.size, 0, none⟩ = some (.slice la l.length lc) ∧ wr.cell? ⟨w.heap.size, 1, none⟩ = some (.slice aa a.length ac)) ∧ Hid (scan l a f k (l.length - k) = nxt l a f)) (fun i _ => l.length - (intOf i).toNat)
  case atStart => exact ⟨0, Nat.zero_le _, rfl, (by repeat' (first | with_reducible exact hb0 | with_reducible refine Below.drew ?_ | with_reducible refine below_drewN ?_ _ | with_reducible refine Below.alloc ?_ (by have := hb0.size; first | (simp; done) | (simp; omega) | omega) _ | with_reducible refine Below.setCell ?_ (by first | (simp; done) | (simp; omega) | omega) _)), ⟨by go_simp, by go_simp⟩, hid rfl⟩
  case round =>
    obtain ⟨k, hk, rfl, hbw, ⟨P_0, P_1⟩, Hs⟩ := hrel
    by_cases hlt : k < l.length
    · have hlt' : (k : Int) < (l.length : Int) := by omega
      obtain ⟨r, hr⟩ : ∃ r : Nat, (f + k) % l.length = r := ⟨_, rfl⟩
      have hrl : r < l.length := by rw [← hr]; exact Nat.mod_lt _ hpos
      have hmod : Int.tmod ((f : Int) + (k : Int)) (l.length : Int) = (r : Int) := by rw [← hr, ← tmod_nat]; simp
      by_cases hcan : can l a r = true
      · have hres : nxtI l a f = r := by
          have := Hs.out
          rw [scan_yes (by rw [hr]; exact hcan) (by omega), hr] at this
          simp [nxtI, ← this]
        have H_hr := hid hr
        have H_hcan := hid hcan
        have H_hres := hid hres
        clear hr hcan hres
        have P_l : w.heap.size < wr.heap.size := by have := World.block_lt_of_cell? _ _ P_0; simpa using this
        go_wp2_with fail
        refine (rcan_n l.length a.length l a la aa lc ac r _ rfl rfl (hl.later hbw) (ha.later hbw) hrl hv).mono ?_
        rintro e w11 ⟨rfl, hc11⟩
        have hb11 : Below w.heap.size w w11 := bchain (by repeat' (first | with_reducible exact hbw | with_reducible refine Below.drew ?_ | with_reducible refine below_drewN ?_ _ | with_reducible refine Below.alloc ?_ (by have := hbw.size; first | (simp; done) | (simp; omega) | omega) _ | with_reducible refine Below.setCell ?_ (by first | (simp; done) | (simp; omega) | omega) _)) hc11
        have hst11 : Below wr.heap.size wr w11 := bchain (by repeat' (first | with_reducible exact Below.refl _ _ | with_reducible refine Below.drew ?_ | with_reducible refine below_drewN ?_ _ | with_reducible refine Below.alloc ?_ (by first | (simp; done) | (simp; omega) | omega) _ | with_reducible refine Below.setCell ?_ (by first | (simp; done) | (simp; omega) | omega) _)) hc11
        replace P_0 := cell_later hst11 P_0
        replace P_1 := cell_later hst11 P_1
        replace P_l := Nat.lt_of_lt_of_le P_l hst11.size
        clear hst11
        clear hc11 hbw
        rw [H_hcan.out]
        go_wp2_with fail
        go_ret
        exact ⟨ret_int H_hres.out.symm, (by repeat' (first | with_reducible exact hb11 | with_reducible refine Below.drew ?_ | with_reducible refine below_drewN ?_ _ | with_reducible refine Below.alloc ?_ (by have := hb11.size; first | (simp; done) | (simp; omega) | omega) _ | with_reducible refine Below.setCell ?_ (by first | (simp; done) | (simp; omega) | omega) _))⟩
      · have hcan : can l a r = false := by simpa using hcan
        have hsn := scan_no (c := l.length - k) (c' := l.length - (k + 1)) (by rw [hr]; exact hcan) (by omega)
        have H_hr := hid hr
        have H_hcan := hid hcan
        have H_hsn := hid hsn
        clear hr hcan hsn
        have P_l : w.heap.size < wr.heap.size := by have := World.block_lt_of_cell? _ _ P_0; simpa using this
        go_wp2_with fail
        refine (rcan_n l.length a.length l a la aa lc ac r _ rfl rfl (hl.later hbw) (ha.later hbw) hrl hv).mono ?_
        rintro e w11 ⟨rfl, hc11⟩
        have hb11 : Below w.heap.size w w11 := bchain (by repeat' (first | with_reducible exact hbw | with_reducible refine Below.drew ?_ | with_reducible refine below_drewN ?_ _ | with_reducible refine Below.alloc ?_ (by have := hbw.size; first | (simp; done) | (simp; omega) | omega) _ | with_reducible refine Below.setCell ?_ (by first | (simp; done) | (simp; omega) | omega) _)) hc11
        have hst11 : Below wr.heap.size wr w11 := bchain (by repeat' (first | with_reducible exact Below.refl _ _ | with_reducible refine Below.drew ?_ | with_reducible refine below_drewN ?_ _ | with_reducible refine Below.alloc ?_ (by first | (simp; done) | (simp; omega) | omega) _ | with_reducible refine Below.setCell ?_ (by first | (simp; done) | (simp; omega) | omega) _)) hc11
        replace P_0 := cell_later hst11 P_0
        replace P_1 := cell_later hst11 P_1
        replace P_l := Nat.lt_of_lt_of_le P_l hst11.size
        clear hst11
        clear hc11 hbw
        rw [H_hcan.out]
        go_wp2_with fail
        go_roundw
        case rel => exact ⟨k + 1, by omega, by go_num, (by repeat' (first | with_reducible exact hb11 | with_reducible refine Below.drew ?_ | with_reducible refine below_drewN ?_ _ | with_reducible refine Below.alloc ?_ (by have := hb11.size; first | (simp; done) | (simp; omega) | omega) _ | with_reducible refine Below.setCell ?_ (by first | (simp; done) | (simp; omega) | omega) _)), ⟨by go_simp, by go_simp⟩, hid (by rw [← H_hsn.out]; exact Hs.out)⟩
        case measure => simp [intOf]; omega
    · obtain rfl : k = l.length := by omega
      have hres : nxtI l a f = -1 := by
        have := Hs.out
        rw [Nat.sub_self] at this
        simp [nxtI, ← this, scan]
      have H_hres := hid hres
      clear hres
      go_wp2_with fail
      go_ret
      exact ⟨ret_int H_hres.out.symm, (by repeat' (first | with_reducible exact hbw | with_reducible refine Below.drew ?_ | with_reducible refine below_drewN ?_ _ | with_reducible refine Below.alloc ?_ (by have := hbw.size; first | (simp; done) | (simp; omega) | omega) _ | with_reducible refine Below.setCell ?_ (by first | (simp; done) | (simp; omega) | omega) _))⟩

/-- The state of rounds. -/
structure RSt (wr : World) (B N : Nat) (la aa : Option Addr) (lc n : Nat) (a tot L out : List Int) (da : Option Addr) (dc f len : Nat) : Prop where
  own : OwnX wr N 3 1 (.slice da out.length dc) out.length (out.map (Value.int .i64))
  tk : Tk wr B N la aa lc L a
  tv : TV L a
  tot : out ++ rr a (n - out.length) L f = tot
  len : L.length = len
  at_ : AtLeast N wr
theorem RSt.later {wr w' : World} {B N : Nat} {la aa : Option Addr} {lc n : Nat} {a tot L out : List Int} {da : Option Addr} {dc f len : Nat} (h : RSt wr B N la aa lc n a tot L out da dc f len) (hb : Below wr.heap.size wr w') : RSt w' B N la aa lc n a tot L out da dc f len :=
  ⟨h.own.later hb, h.tk.later hb, h.tv, h.tot, h.len, h.at_.later hb⟩


set_option maxHeartbeats 4000000 in
theorem rrounds_any (l a : List Int) (n : Int) (la aa : Option Addr) (lc ac : Nat) (w : World) (hl : CellsAt w la (l.map (Value.int .i64))) (ha : CellsAt w aa (a.map (Value.int .i64))) (hml : l.length ≤ maxLen) :
    Calls Try.prog 24 #[.agg #[.slice la l.length lc, .slice aa a.length ac], .int .i64 n] w fun e w' =>
      ListRet w' e (tkRounds l a n) ∧ Below w.heap.size w w' := by
  obtain ⟨i0, hi, hz0, hz1, hz2⟩ := info_parts info_i64
  rcases tErr_cases l a with h8 | h8
  · by_cases n1 : n < 0
    · have he : (([], 2) : List Int × Int) = tkRounds l a n := by simp [tkRounds, h8, n1]
      have H_h8 := hid h8
      have H_he := hid he
      clear h8 he
      go_enter Try.func24, Try.ntmps24
      have hb0 := Below.refl w.heap.size w
      go_wp2_with fail
      refine (rtcheck_any l a la aa lc ac _ (hl.alloc _) (ha.alloc _) hml).mono ?_
      rintro e w1 ⟨rfl, hc1⟩
      have hb1 : Below w.heap.size w w1 := bchain (by repeat' (first | with_reducible exact hb0 | with_reducible refine Below.drew ?_ | with_reducible refine below_drewN ?_ _ | with_reducible refine Below.alloc ?_ (by have := hb0.size; first | (simp; done) | (simp; omega) | omega) _ | with_reducible refine Below.setCell ?_ (by first | (simp; done) | (simp; omega) | omega) _)) hc1
      have P_0 : w1.cell? ⟨w.heap.size, 0, none⟩ = some (.slice la l.length lc) := (hc1.cell (p := ⟨w.heap.size, 0, none⟩) (by first | (simp; done) | (simp; omega))).trans (by first | (simp; done) | go_simp)
      have P_1 : w1.cell? ⟨w.heap.size, 1, none⟩ = some (.slice aa a.length ac) := (hc1.cell (p := ⟨w.heap.size, 1, none⟩) (by first | (simp; done) | (simp; omega))).trans (by first | (simp; done) | go_simp)
      have P_l : w.heap.size < w1.heap.size := Nat.lt_of_lt_of_le (by first | (simp; done) | (simp; omega)) hc1.size
      clear hc1 hb0
      rw [H_h8.out]
      go_wp2_with fail
      go_ret2
      exact ⟨ListRet.of ⟨none, 0, rfl, .inl rfl⟩ H_he.out, (by repeat' (first | with_reducible exact hb1 | with_reducible refine Below.drew ?_ | with_reducible refine below_drewN ?_ _ | with_reducible refine Below.alloc ?_ (by have := hb1.size; first | (simp; done) | (simp; omega) | omega) _ | with_reducible refine Below.setCell ?_ (by first | (simp; done) | (simp; omega) | omega) _))⟩
    by_cases n2 : 300 < n
    · have he : (([], 2) : List Int × Int) = tkRounds l a n := by simp [tkRounds, h8, n1, n2]
      have H_h8 := hid h8
      have H_he := hid he
      clear h8 he
      go_enter Try.func24, Try.ntmps24
      have hb0 := Below.refl w.heap.size w
      go_wp2_with fail
      refine (rtcheck_any l a la aa lc ac _ (hl.alloc _) (ha.alloc _) hml).mono ?_
      rintro e w1 ⟨rfl, hc1⟩
      have hb1 : Below w.heap.size w w1 := bchain (by repeat' (first | with_reducible exact hb0 | with_reducible refine Below.drew ?_ | with_reducible refine below_drewN ?_ _ | with_reducible refine Below.alloc ?_ (by have := hb0.size; first | (simp; done) | (simp; omega) | omega) _ | with_reducible refine Below.setCell ?_ (by first | (simp; done) | (simp; omega) | omega) _)) hc1
      have P_0 : w1.cell? ⟨w.heap.size, 0, none⟩ = some (.slice la l.length lc) := (hc1.cell (p := ⟨w.heap.size, 0, none⟩) (by first | (simp; done) | (simp; omega))).trans (by first | (simp; done) | go_simp)
      have P_1 : w1.cell? ⟨w.heap.size, 1, none⟩ = some (.slice aa a.length ac) := (hc1.cell (p := ⟨w.heap.size, 1, none⟩) (by first | (simp; done) | (simp; omega))).trans (by first | (simp; done) | go_simp)
      have P_l : w.heap.size < w1.heap.size := Nat.lt_of_lt_of_le (by first | (simp; done) | (simp; omega)) hc1.size
      clear hc1 hb0
      rw [H_h8.out]
      go_wp2_with fail
      go_ret2
      exact ⟨ListRet.of ⟨none, 0, rfl, .inl rfl⟩ H_he.out, (by repeat' (first | with_reducible exact hb1 | with_reducible refine Below.drew ?_ | with_reducible refine below_drewN ?_ _ | with_reducible refine Below.alloc ?_ (by have := hb1.size; first | (simp; done) | (simp; omega) | omega) _ | with_reducible refine Below.setCell ?_ (by first | (simp; done) | (simp; omega) | omega) _))⟩
    have he : ((rr a n.toNat l 0, 0) : List Int × Int) = tkRounds l a n := by simp [tkRounds, h8, n1, n2]
    obtain ⟨N, rfl⟩ : ∃ N : Nat, n = N := ⟨n.toNat, by omega⟩
    rw [Int.toNat_natCast] at he
    obtain ⟨q1, q2, q3, _⟩ := tErr_ok h8
    have htv := TV.of h8
    have q4 : a.length ≤ 17592186044415 := by omega
    have q5 : l.length ≤ 17592186044415 := by omega
    have q6 : 0 < a.length := by omega
    have hN : N ≤ 300 := by omega
    have hrl := rr_len a N l 0
    have H_he := hid he
    have H_h8 := hid h8
    have H_q3 := hid q3
    clear he h8 q3
    go_enter Try.func24, Try.ntmps24
    have hb0 := Below.refl w.heap.size w
    go_wp2_with fail
    refine (rtcheck_any l a la aa lc ac _ (hl.alloc _) (ha.alloc _) hml).mono ?_
    rintro e w1 ⟨rfl, hc1⟩
    have hb1 : Below w.heap.size w w1 := bchain (by repeat' (first | with_reducible exact hb0 | with_reducible refine Below.drew ?_ | with_reducible refine below_drewN ?_ _ | with_reducible refine Below.alloc ?_ (by have := hb0.size; first | (simp; done) | (simp; omega) | omega) _ | with_reducible refine Below.setCell ?_ (by first | (simp; done) | (simp; omega) | omega) _)) hc1
    have P_0 : w1.cell? ⟨w.heap.size, 0, none⟩ = some (.slice la l.length lc) := (hc1.cell (p := ⟨w.heap.size, 0, none⟩) (by first | (simp; done) | (simp; omega))).trans (by first | (simp; done) | go_simp)
    have P_1 : w1.cell? ⟨w.heap.size, 1, none⟩ = some (.slice aa a.length ac) := (hc1.cell (p := ⟨w.heap.size, 1, none⟩) (by first | (simp; done) | (simp; omega))).trans (by first | (simp; done) | go_simp)
    have P_l : w.heap.size < w1.heap.size := Nat.lt_of_lt_of_le (by first | (simp; done) | (simp; omega)) hc1.size
    clear hc1 hb0
    rw [H_h8.out]
    replace hl := hl.later hb1
    replace ha := ha.later hb1
    go_upto_region 5 with fail
    go_cut [6] (fun s wx => ∃ B la' lc' aa' ac', s = .pointer (some ⟨B, 0, none⟩) ∧ Below w1.heap.size w1 wx ∧ (wx.cell? ⟨B, 0, none⟩ = some (.slice la' l.length lc') ∧ wx.cell? ⟨B, 1, none⟩ = some (.slice aa' a.length ac')) ∧ (∀ ad, la' = some ad → ad.block ≠ B) ∧ Tk wx (w.heap.size + 1) wx.heap.size la' aa' lc' l a)
    case first =>
      go_wp2_with fail
      refine (rtwin_any l a la aa lc ac _ hl ha q5 q4).mono ?_
      rintro e w2 ⟨l2, lc2, a2, ac2, rfl, k1, k2, kf, hc2⟩
      obtain ⟨t4, t5⟩ := kf q1 q6
      go_wp2_with fail
      go_meet
      refine ⟨_, l2, lc2, a2, ac2, rfl, hc2.alloc hc2.size _, ⟨by go_simp, by go_simp⟩, fun ad e => by have := t4.lt ad e; omega, (t4.mono (by omega)).alloc _⟩
    case rest =>
      obtain ⟨B, la', lc', aa', ac', rfl, KX, ⟨U_0, U_1⟩, hne, tk⟩ := hcut
      obtain ⟨lb, rfl, f1, f2, -⟩ := tk.at (by omega)
      have hb2 := bchain hb1 KX
      have hBN : B < wc.heap.size := by have := World.block_lt_of_cell? _ _ U_0; simpa using this
      have hne : lb ≠ B := hne _ rfl
      clear KX P_0 P_1 P_l hl ha hb1
      go_wp2_with fail
      go_loopw [7, 8] (fun o fv wr => ∃ (L out : List Int) (da : Option Addr) (dc f : Nat), out.length ≤ N ∧ f ≤ 12 ∧ o = .slice da out.length dc ∧ fv = .int .i64 f ∧ Below w.heap.size w wr ∧ (wr.cell? ⟨B, 0, none⟩ = some (.slice (some ⟨lb, 0, none⟩) l.length lc') ∧ wr.cell? ⟨B, 1, none⟩ = some (.slice aa' a.length ac')) ∧ Hid (RSt wr (w.heap.size + 1) wc.heap.size (some ⟨lb, 0, none⟩) aa' lc' N a (rr a N l 0) L out da dc f l.length)) (fun o _ _ => N - rowLen o)
      case atStart => exact ⟨l, [], none, 0, 0, Nat.zero_le _, Nat.zero_le _, rfl, rfl, hb2, ⟨U_0, U_1⟩, hid ⟨OwnX.nil _ _ _ _, tk, htv, by simp, rfl, Nat.le_refl _⟩⟩
      case round =>
        clear U_0 U_1 tk hb2
        obtain ⟨L, out, da, dc, f, ho, hf, rfl, rfl, hbw, ⟨U_0, U_1⟩, HS⟩ := hrel
        by_cases hlt : out.length < N
        · have hlt' : (out.length : Int) < (N : Int) := by omega
          have S := HS.out
          clear HS
          have hU : B < wr.heap.size := Nat.lt_of_lt_of_le hBN S.at_
          have hLl := S.len
          have hLn : L.length ≤ 12 := by omega
          have hLp : 0 < L.length := by omega
          cases hnx : nxt L a f with
          | none =>
            have hnI : nxtI L a f = -1 := by simp [nxtI, hnx]
            have hfin := rr_end S.tot (.inl hnx)
            have H_hnx := hid hnx
            have H_hnI := hid hnI
            have H_hLl := hid hLl
            have H_hfin := hid hfin
            clear hnx hnI hLl hfin
            have U_l := hU
            go_wp2_with fail
            refine (rnext_n l.length a.length L a _ aa' lc' ac' f _ H_hLl.out.symm rfl S.tk.left S.tk.aft S.tv hLp hLn hf).mono ?_
            rintro e w11 ⟨rfl, hc11⟩
            have hb11 : Below w.heap.size w w11 := bchain (by repeat' (first | with_reducible exact hbw | with_reducible refine Below.drew ?_ | with_reducible refine below_drewN ?_ _ | with_reducible refine Below.alloc ?_ (by have := hbw.size; first | (simp; done) | (simp; omega) | omega) _ | with_reducible refine Below.setCell ?_ (by first | (simp; done) | (simp; omega) | omega) _)) hc11
            have hst11 : Below wr.heap.size wr w11 := bchain (by repeat' (first | with_reducible exact Below.refl _ _ | with_reducible refine Below.drew ?_ | with_reducible refine below_drewN ?_ _ | with_reducible refine Below.alloc ?_ (by first | (simp; done) | (simp; omega) | omega) _ | with_reducible refine Below.setCell ?_ (by first | (simp; done) | (simp; omega) | omega) _)) hc11
            replace U_0 := cell_later hst11 U_0
            replace U_1 := cell_later hst11 U_1
            replace U_l := Nat.lt_of_lt_of_le U_l hst11.size
            replace S := S.later hst11
            clear hst11
            clear hc11 hbw
            rw [H_hnI.out]
            go_wp2_with fail
            go_ret2
            exact ⟨ListRet.of ⟨da, dc, by rw [← H_hfin.out]; rfl, by rw [← H_hfin.out]; exact S.own.cellsAt⟩ H_he.out, (by repeat' (first | with_reducible exact hb11 | with_reducible refine Below.drew ?_ | with_reducible refine below_drewN ?_ _ | with_reducible refine Below.alloc ?_ (by have := hb11.size; first | (simp; done) | (simp; omega) | omega) _ | with_reducible refine Below.setCell ?_ (by first | (simp; done) | (simp; omega) | omega) _))⟩
          | some i =>
            have hnI : nxtI L a f = i := by simp [nxtI, hnx]
            obtain ⟨hil, hic⟩ := scan_some hLp hnx
            have hil' : (i : Int) < (l.length : Int) := by omega
            have hi0 : ¬ (i : Int) < 0 := by omega
            have H_hnx := hid hnx
            have H_hnI := hid hnI
            have H_hLl := hid hLl
            have H_hic := hid hic
            clear hnx hnI hLl hic
            have hic := H_hic.out
            have U_l := hU
            go_wp2_with fail
            refine (rnext_n l.length a.length L a _ aa' lc' ac' f _ H_hLl.out.symm rfl S.tk.left S.tk.aft S.tv hLp hLn hf).mono ?_
            rintro e w11 ⟨rfl, hc11⟩
            have hb11 : Below w.heap.size w w11 := bchain (by repeat' (first | with_reducible exact hbw | with_reducible refine Below.drew ?_ | with_reducible refine below_drewN ?_ _ | with_reducible refine Below.alloc ?_ (by have := hbw.size; first | (simp; done) | (simp; omega) | omega) _ | with_reducible refine Below.setCell ?_ (by first | (simp; done) | (simp; omega) | omega) _)) hc11
            have hst11 : Below wr.heap.size wr w11 := bchain (by repeat' (first | with_reducible exact Below.refl _ _ | with_reducible refine Below.drew ?_ | with_reducible refine below_drewN ?_ _ | with_reducible refine Below.alloc ?_ (by first | (simp; done) | (simp; omega) | omega) _ | with_reducible refine Below.setCell ?_ (by first | (simp; done) | (simp; omega) | omega) _)) hc11
            replace U_0 := cell_later hst11 U_0
            replace U_1 := cell_later hst11 U_1
            replace U_l := Nat.lt_of_lt_of_le U_l hst11.size
            replace S := S.later hst11
            clear hst11
            clear hc11 hbw
            rw [H_hnI.out]
            have Ho := S.own
            have T := S.tk
            have HN : wc.heap.size ≤ w11.heap.size := S.at_
            have hLl := S.len
            obtain ⟨lb', e1, -, -, hcells⟩ := T.at (by omega)
            cases e1
            obtain ⟨x1, x2⟩ := hcells i hil
            clear hcells
            have hx : 0 < g L i := by have := hic; simp only [can, Bool.and_eq_true, decide_eq_true_eq] at this; exact this.1
            have hx2 : g L i ≤ 60 := (S.tv.nth i hil).2.1
            have xl : lb < w11.heap.size := Nat.lt_of_lt_of_le f2 HN
            have H_hLl := hid hLl
            clear hLl
            go_wp2_with (at_builtin; refine stop ?_)
            refine Stop.go ?_
            have T2 := T.set hil (g L i - 1)
            have Ho2 := Ho.setCell (a := ⟨lb, i, none⟩) f2 (.int .i64 (g L i - 1))
            refine wpList_append_x _ rfl _ _ 22 rfl wc.heap.size 3 i0 (.int .i64 0) 1 8 Try.underlying22 hi hz0 hz1 hz2 rfl (by decide) _ _ _ rfl (Ho2.alloc _) (some ⟨w11.heap.size, 0, none⟩) 1 1 [.int .i64 i] rfl rfl (by have h9 := cellsAt_one (w11.setCell ⟨lb, i, none⟩ (.int .i64 (g L i - 1))) (.int .i64 i) 3; simp only [World.size_setCell] at h9; exact h9) (oneCell_int _ _) (by unfold maxLen; omega) (by omega) (by simp; omega) ?_
            intro a3 c3 w12 hown3 hg hat
            have hb12 : Below w.heap.size w w12 := below_grownX (by repeat' (first | with_reducible exact hb11 | with_reducible refine Below.drew ?_ | with_reducible refine below_drewN ?_ _ | with_reducible refine Below.alloc ?_ (by have := hb11.size; first | (simp; done) | (simp; omega) | omega) _ | with_reducible refine Below.setCell ?_ (by first | (simp; done) | (simp; omega) | omega) _)) (base := w.heap.size) hg (by simp; omega) (fun q hq => by have := (Ho.lt q hq).1; omega)
            have hP : Below wc.heap.size (w11.setCell ⟨lb, i, none⟩ (.int .i64 (g L i - 1))) w12 := below_grownX (by repeat' (first | with_reducible exact Below.refl _ _ | with_reducible refine Below.drew ?_ | with_reducible refine Below.alloc ?_ (by simp; omega) _)) hg (by simp; omega) (fun q hq => (Ho.lt q hq).1)
            have T3 := T2.below hP
            have HN3 : AtLeast wc.heap.size w12 := Nat.le_trans HN (by simpa using hP.size)
            have hneB : B ≠ lb := fun e => hne e.symm
            replace U_0 := (hP.cell (p := ⟨B, 0, none⟩) hBN).trans (by go_simp : _ = some (Value.slice (some ⟨lb, 0, none⟩) l.length lc'))
            replace U_1 := (hP.cell (p := ⟨B, 1, none⟩) hBN).trans (by go_simp : _ = some (Value.slice aa' a.length ac'))
            clear hP
            have S3 : RSt w12 (w.heap.size + 1) wc.heap.size (some ⟨lb, 0, none⟩) aa' lc' N a (rr a N l 0) (L.set i (g L i - 1)) (out ++ [(i : Int)]) a3 c3 (i + 1) l.length :=
              ⟨by simpa using hown3, T3, S.tv.step hil hic, rr_step S.tot hlt H_hnx.out, by rw [List.length_set]; exact H_hLl.out, HN3⟩
            clear hown3 T3 T2 Ho2 Ho T x1 x2
            go_wp2_with fail
            go_roundw
            case rel => exact ⟨_, _, a3, c3, i + 1, by simp; omega, by omega, by simp, by go_num, hb12, ⟨U_0, U_1⟩, hid S3⟩
            case measure => simp [rowLen]; omega
        · have S := HS.out
          have hfin := rr_end S.tot (.inr hlt)
          have hlt' : ¬ (out.length : Int) < (N : Int) := by omega
          have H_hfin := hid hfin
          clear hfin
          go_wp2_with fail
          go_ret2
          exact ⟨ListRet.of ⟨da, dc, by rw [← H_hfin.out]; rfl, by rw [← H_hfin.out]; exact S.own.cellsAt⟩ H_he.out, (by repeat' (first | with_reducible exact hbw | with_reducible refine Below.drew ?_ | with_reducible refine below_drewN ?_ _ | with_reducible refine Below.alloc ?_ (by have := hbw.size; first | (simp; done) | (simp; omega) | omega) _ | with_reducible refine Below.setCell ?_ (by first | (simp; done) | (simp; omega) | omega) _))⟩
  · have he : (([], 8) : List Int × Int) = tkRounds l a n := by simp [tkRounds, h8]
    have H_h8 := hid h8
    have H_he := hid he
    clear h8 he
    go_enter Try.func24, Try.ntmps24
    have hb0 := Below.refl w.heap.size w
    go_wp2_with fail
    refine (rtcheck_any l a la aa lc ac _ (hl.alloc _) (ha.alloc _) hml).mono ?_
    rintro e w1 ⟨rfl, hc1⟩
    have hb1 : Below w.heap.size w w1 := bchain (by repeat' (first | with_reducible exact hb0 | with_reducible refine Below.drew ?_ | with_reducible refine below_drewN ?_ _ | with_reducible refine Below.alloc ?_ (by have := hb0.size; first | (simp; done) | (simp; omega) | omega) _ | with_reducible refine Below.setCell ?_ (by first | (simp; done) | (simp; omega) | omega) _)) hc1
    have P_0 : w1.cell? ⟨w.heap.size, 0, none⟩ = some (.slice la l.length lc) := (hc1.cell (p := ⟨w.heap.size, 0, none⟩) (by first | (simp; done) | (simp; omega))).trans (by first | (simp; done) | go_simp)
    have P_1 : w1.cell? ⟨w.heap.size, 1, none⟩ = some (.slice aa a.length ac) := (hc1.cell (p := ⟨w.heap.size, 1, none⟩) (by first | (simp; done) | (simp; omega))).trans (by first | (simp; done) | go_simp)
    have P_l : w.heap.size < w1.heap.size := Nat.lt_of_lt_of_le (by first | (simp; done) | (simp; omega)) hc1.size
    clear hc1 hb0
    rw [H_h8.out]
    go_wp2_with fail
    refine (rtcheck_any l a la aa lc ac _ (hl.later hb1) (ha.later hb1) hml).mono ?_
    rintro e w2 ⟨rfl, hc2⟩
    have hb2 : Below w.heap.size w w2 := bchain (by repeat' (first | with_reducible exact hb1 | with_reducible refine Below.drew ?_ | with_reducible refine below_drewN ?_ _ | with_reducible refine Below.alloc ?_ (by have := hb1.size; first | (simp; done) | (simp; omega) | omega) _ | with_reducible refine Below.setCell ?_ (by first | (simp; done) | (simp; omega) | omega) _)) hc2
    have hst2 : Below w1.heap.size w1 w2 := bchain (by repeat' (first | with_reducible exact Below.refl _ _ | with_reducible refine Below.drew ?_ | with_reducible refine below_drewN ?_ _ | with_reducible refine Below.alloc ?_ (by first | (simp; done) | (simp; omega) | omega) _ | with_reducible refine Below.setCell ?_ (by first | (simp; done) | (simp; omega) | omega) _)) hc2
    replace P_0 := cell_later hst2 P_0
    replace P_1 := cell_later hst2 P_1
    replace P_l := Nat.lt_of_lt_of_le P_l hst2.size
    clear hst2
    clear hc2 hb1
    rw [H_h8.out]
    go_wp2_with fail
    go_ret2
    exact ⟨ListRet.of ⟨none, 0, rfl, .inl rfl⟩ H_he.out, (by repeat' (first | with_reducible exact hb2 | with_reducible refine Below.drew ?_ | with_reducible refine below_drewN ?_ _ | with_reducible refine Below.alloc ?_ (by have := hb2.size; first | (simp; done) | (simp; omega) | omega) _ | with_reducible refine Below.setCell ?_ (by first | (simp; done) | (simp; omega) | omega) _))⟩

theorem Tk.cloned {w1 w2 : World} {B B1 : Nat} {la aa : Option Addr} {lc : Nat} {l a : List Int} (hl : OwnX w2 B1 3 1 (.slice la l.length lc) l.length (l.map (Value.int .i64))) (ha : CellsAt w1 aa (a.map (Value.int .i64))) (hne : ∀ ad, aa = some ad → ad.block < w1.heap.size)
    (hB : B ≤ B1) (hB1 : w1.heap.size ≤ B1) (hb : Below w1.heap.size w1 w2) : Tk w2 B w2.heap.size la aa lc l a :=
  ⟨hl.mono hB, ha.later hb, fun ad e => (hl.addr ad e).2, fun ad e => Nat.lt_of_lt_of_le (hne ad e) hb.size, fun ad ad' e e' => by have := (hl.addr ad e).1; have := hne ad' e'; omega⟩

set_option maxHeartbeats 4000000 in
theorem rounds_any (l a : List Int) (n : Int) (la aa : Option Addr) (lc ac : Nat) (w : World) (hl : CellsAt w la (l.map (Value.int .i64))) (ha : CellsAt w aa (a.map (Value.int .i64))) (hml : l.length ≤ maxLen) :
    Calls Try.prog 23 #[.agg #[.slice la l.length lc, .slice aa a.length ac], .int .i64 n] w fun e w' =>
      ListRet w' e (tkRounds l a n) ∧ Below w.heap.size w w' := by
  obtain ⟨i0, hi, hz0, hz1, hz2⟩ := info_parts info_i64
  rcases tErr_cases l a with h8 | h8
  · by_cases n1 : n < 0
    · have he : (([], 2) : List Int × Int) = tkRounds l a n := by simp [tkRounds, h8, n1]
      have H_h8 := hid h8
      have H_he := hid he
      clear h8 he
      go_enter Try.func23, Try.ntmps23
      have hb0 := Below.refl w.heap.size w
      go_wp2_with fail
      refine (tcheck_any l a la aa lc ac _ (hl.alloc _) (ha.alloc _) hml).mono ?_
      rintro e w1 ⟨rfl, hc1⟩
      have hb1 : Below w.heap.size w w1 := bchain (by repeat' (first | with_reducible exact hb0 | with_reducible refine Below.drew ?_ | with_reducible refine below_drewN ?_ _ | with_reducible refine Below.alloc ?_ (by have := hb0.size; first | (simp; done) | (simp; omega) | omega) _ | with_reducible refine Below.setCell ?_ (by first | (simp; done) | (simp; omega) | omega) _)) hc1
      have P_0 : w1.cell? ⟨w.heap.size, 0, none⟩ = some (.slice la l.length lc) := (hc1.cell (p := ⟨w.heap.size, 0, none⟩) (by first | (simp; done) | (simp; omega))).trans (by first | (simp; done) | go_simp)
      have P_1 : w1.cell? ⟨w.heap.size, 1, none⟩ = some (.slice aa a.length ac) := (hc1.cell (p := ⟨w.heap.size, 1, none⟩) (by first | (simp; done) | (simp; omega))).trans (by first | (simp; done) | go_simp)
      have P_l : w.heap.size < w1.heap.size := Nat.lt_of_lt_of_le (by first | (simp; done) | (simp; omega)) hc1.size
      clear hc1 hb0
      rw [H_h8.out]
      go_wp2_with fail
      go_ret2
      exact ⟨ListRet.of ⟨none, 0, rfl, .inl rfl⟩ H_he.out, (by repeat' (first | with_reducible exact hb1 | with_reducible refine Below.drew ?_ | with_reducible refine below_drewN ?_ _ | with_reducible refine Below.alloc ?_ (by have := hb1.size; first | (simp; done) | (simp; omega) | omega) _ | with_reducible refine Below.setCell ?_ (by first | (simp; done) | (simp; omega) | omega) _))⟩
    by_cases n2 : 300 < n
    · have he : (([], 2) : List Int × Int) = tkRounds l a n := by simp [tkRounds, h8, n1, n2]
      have H_h8 := hid h8
      have H_he := hid he
      clear h8 he
      go_enter Try.func23, Try.ntmps23
      have hb0 := Below.refl w.heap.size w
      go_wp2_with fail
      refine (tcheck_any l a la aa lc ac _ (hl.alloc _) (ha.alloc _) hml).mono ?_
      rintro e w1 ⟨rfl, hc1⟩
      have hb1 : Below w.heap.size w w1 := bchain (by repeat' (first | with_reducible exact hb0 | with_reducible refine Below.drew ?_ | with_reducible refine below_drewN ?_ _ | with_reducible refine Below.alloc ?_ (by have := hb0.size; first | (simp; done) | (simp; omega) | omega) _ | with_reducible refine Below.setCell ?_ (by first | (simp; done) | (simp; omega) | omega) _)) hc1
      have P_0 : w1.cell? ⟨w.heap.size, 0, none⟩ = some (.slice la l.length lc) := (hc1.cell (p := ⟨w.heap.size, 0, none⟩) (by first | (simp; done) | (simp; omega))).trans (by first | (simp; done) | go_simp)
      have P_1 : w1.cell? ⟨w.heap.size, 1, none⟩ = some (.slice aa a.length ac) := (hc1.cell (p := ⟨w.heap.size, 1, none⟩) (by first | (simp; done) | (simp; omega))).trans (by first | (simp; done) | go_simp)
      have P_l : w.heap.size < w1.heap.size := Nat.lt_of_lt_of_le (by first | (simp; done) | (simp; omega)) hc1.size
      clear hc1 hb0
      rw [H_h8.out]
      go_wp2_with fail
      go_ret2
      exact ⟨ListRet.of ⟨none, 0, rfl, .inl rfl⟩ H_he.out, (by repeat' (first | with_reducible exact hb1 | with_reducible refine Below.drew ?_ | with_reducible refine below_drewN ?_ _ | with_reducible refine Below.alloc ?_ (by have := hb1.size; first | (simp; done) | (simp; omega) | omega) _ | with_reducible refine Below.setCell ?_ (by first | (simp; done) | (simp; omega) | omega) _))⟩
    have he : ((rr a n.toNat l 0, 0) : List Int × Int) = tkRounds l a n := by simp [tkRounds, h8, n1, n2]
    obtain ⟨N, rfl⟩ : ∃ N : Nat, n = N := ⟨n.toNat, by omega⟩
    rw [Int.toNat_natCast] at he
    obtain ⟨q1, q2, q3, _⟩ := tErr_ok h8
    have htv := TV.of h8
    have q4 : a.length ≤ 17592186044415 := by omega
    have q5 : l.length ≤ 17592186044415 := by omega
    have q6 : 0 < a.length := by omega
    have hN : N ≤ 300 := by omega
    have hrl := rr_len a N l 0
    have hln0 : ¬ (l.length : Int) = 0 := by omega
    have H_he := hid he
    have H_h8 := hid h8
    have H_q3 := hid q3
    clear he h8 q3
    go_enter Try.func23, Try.ntmps23
    have hb0 := Below.refl w.heap.size w
    go_wp2_with fail
    refine (tcheck_any l a la aa lc ac _ (hl.alloc _) (ha.alloc _) hml).mono ?_
    rintro e w1 ⟨rfl, hc1⟩
    have hb1 : Below w.heap.size w w1 := bchain (by repeat' (first | with_reducible exact hb0 | with_reducible refine Below.drew ?_ | with_reducible refine below_drewN ?_ _ | with_reducible refine Below.alloc ?_ (by have := hb0.size; first | (simp; done) | (simp; omega) | omega) _ | with_reducible refine Below.setCell ?_ (by first | (simp; done) | (simp; omega) | omega) _)) hc1
    have P_0 : w1.cell? ⟨w.heap.size, 0, none⟩ = some (.slice la l.length lc) := (hc1.cell (p := ⟨w.heap.size, 0, none⟩) (by first | (simp; done) | (simp; omega))).trans (by first | (simp; done) | go_simp)
    have P_1 : w1.cell? ⟨w.heap.size, 1, none⟩ = some (.slice aa a.length ac) := (hc1.cell (p := ⟨w.heap.size, 1, none⟩) (by first | (simp; done) | (simp; omega))).trans (by first | (simp; done) | go_simp)
    have P_l : w.heap.size < w1.heap.size := Nat.lt_of_lt_of_le (by first | (simp; done) | (simp; omega)) hc1.size
    clear hc1 hb0
    rw [H_h8.out]
    replace hl := hl.later hb1
    replace ha := ha.later hb1
    have hz := hb1.size
    have P_2 : w.heap.size < w1.heap.size + 1 := by omega
    have P_3 : w1.heap.size < w1.heap.size + 1 := by omega
    have haa : ∀ ad, aa = some ad → ad.block < w1.heap.size := by
      obtain ⟨b, o, rfl, hr⟩ := ha.intG q6
      intro ad e
      cases e
      exact (hr 0 q6).2.1
    go_upto_region 6 with fail
    go_cut [7] (fun s wx => ∃ B la' lc' aa' ac', s = .pointer (some ⟨B, 0, none⟩) ∧ Below w1.heap.size w1 wx ∧ (wx.cell? ⟨B, 0, none⟩ = some (.slice la' l.length lc') ∧ wx.cell? ⟨B, 1, none⟩ = some (.slice aa' a.length ac')) ∧ (∀ ad, la' = some ad → ad.block ≠ B) ∧ Tk wx (w.heap.size + 1) wx.heap.size la' aa' lc' l a)
    case first =>
      go_region_held3 (fun w' => w'.cell? ⟨w.heap.size, 0, none⟩ = some (.slice la l.length lc) ∧ w'.cell? ⟨w.heap.size, 1, none⟩ = some (.slice aa a.length ac)) (refine ⟨(Below.cell (p := ⟨w.heap.size, 0, none⟩) (B := w1.heap.size) ?_ P_l).trans P_0, (Below.cell (p := ⟨w.heap.size, 1, none⟩) (B := w1.heap.size) ?_ P_l).trans P_1⟩ <;> (repeat' (first | exact Below.refl _ _ | exact KL | with_reducible refine Below.drew ?_ | with_reducible refine Below.alloc ?_ (by first | omega | (simp; done) | (simp; omega)) _ | with_reducible refine Below.setCell ?_ (by first | omega | (simp; done) | (simp; omega)) _))) ((first
      |
        (go_at_call 33; refine (cloneI_any la _ lc l _ rfl ?_ q5).mono ?_; (focus (repeat' (first | with_reducible exact hl | with_reducible refine CellsAt.alloc ?_ _ | with_reducible refine CellsAt.drew ?_ | with_reducible refine CellsAt.later ?_ KL))); rintro e wL ⟨aL, cL, rfl, hownL, hcL⟩; have KL : Below w1.heap.size w1 wL := (bchain (by (repeat' (first | exact Below.refl _ _ | exact KL | exact KL | with_reducible refine Below.drew ?_ | with_reducible refine Below.alloc ?_ (by first | omega | (simp; done) | (simp; omega)) _ | with_reducible refine Below.setCell ?_ (by first | omega | (simp; done) | (simp; omega)) _))) hcL); have hzL := hcL.size; (try simp only [World.size_drew, World.size_alloc] at hzL); obtain ⟨hcellL, hfrozL⟩ := bcell hcL; have hxL : wL.heap.size < wL.heap.size + 1 := (by omega); (try (have hyL : w1.heap.size < wL.heap.size := by omega)); (try (have hvL : wL.heap.size < wL.heap.size := by omega)))
      ))
      all_goals (
        have nl := fun ad e => hownL.addr ad e
        simp only [World.size_drew, World.size_alloc] at nl
        have t4 := Tk.cloned (B := w.heap.size + 1) hownL ha haa (by simp; omega) (by first | (simp; done) | exact Nat.le_refl _) KL
        go_wp2_with fail
        go_meet
        refine ⟨_, aL, cL, aa, ac, rfl, ?_, ⟨by go_simp, by go_simp⟩, fun ad e => by have := nl ad e; omega, ?_⟩
        rotate_left
        · first
          | exact t4.alloc _
          | exact ((t4.setNe (p := ⟨_, 0, none⟩) (fun ad e => by have := nl ad e; simp; omega) (fun ad e => by have := haa ad e; simp; omega) _).setNe (p := ⟨_, 1, none⟩) (fun ad e => by have := nl ad e; simp; omega) (fun ad e => by have := haa ad e; simp; omega) _).size (by simp)
        · (repeat' (first | exact Below.refl _ _ | exact KL | with_reducible refine Below.drew ?_ | with_reducible refine Below.alloc ?_ (by first | omega | (simp; done) | (simp; omega)) _ | with_reducible refine Below.setCell ?_ (by first | omega | (simp; done) | (simp; omega)) _)))
    case rest =>
      clear haa
      obtain ⟨B, la', lc', aa', ac', rfl, KX, ⟨U_0, U_1⟩, hne, tk⟩ := hcut
      obtain ⟨lb, rfl, f1, f2, -⟩ := tk.at (by omega)
      have hb2 := bchain hb1 KX
      have hBN : B < wc.heap.size := by have := World.block_lt_of_cell? _ _ U_0; simpa using this
      have hne : lb ≠ B := hne _ rfl
      clear KX P_0 P_1 P_2 P_3 P_l hl ha hb1 hz
      go_wp2_with fail
      go_loopw [8, 9, 10] (fun o iv dv wr => ∃ (L out : List Int) (da : Option Addr) (dc f k i : Nat), out.length ≤ N ∧ k ≤ l.length ∧ i < l.length ∧ o = .slice da out.length dc ∧ iv = .int .i64 i ∧ dv = .int .i64 k ∧ Below w.heap.size w wr ∧ (wr.cell? ⟨B, 0, none⟩ = some (.slice (some ⟨lb, 0, none⟩) l.length lc') ∧ wr.cell? ⟨B, 1, none⟩ = some (.slice aa' a.length ac')) ∧ Hid ((f + k) % l.length = i ∧ scan L a f k (l.length - k) = nxt L a f) ∧ Hid (RSt wr (w.heap.size + 1) wc.heap.size (some ⟨lb, 0, none⟩) aa' lc' N a (rr a N l 0) L out da dc f l.length)) (fun o _ d _ => (N - rowLen o) * 13 + (12 - (intOf d).toNat))
      case atStart => exact ⟨l, [], none, 0, 0, 0, 0, Nat.zero_le _, Nat.zero_le _, q1, rfl, rfl, rfl, hb2, ⟨U_0, U_1⟩, hid ⟨by simp, rfl⟩, hid ⟨OwnX.nil _ _ _ _, tk, htv, by simp, rfl, Nat.le_refl _⟩⟩
      case round =>
        clear U_0 U_1 tk hb2
        obtain ⟨L, out, da, dc, f, k, i, ho, hk, hil0, rfl, rfl, rfl, hbw, ⟨U_0, U_1⟩, Hf, HS⟩ := hrel
        have S := HS.out
        clear HS
        by_cases hlt : out.length < N
        · have hlt' : (out.length : Int) < (N : Int) := by omega
          have hU : B < wr.heap.size := Nat.lt_of_lt_of_le hBN S.at_
          have hLl := S.len
          have hil : i < L.length := by omega
          have hil' : (i : Int) < (l.length : Int) := by omega
          obtain ⟨j, hj⟩ : ∃ j : Nat, (i + 1) % l.length = j := ⟨_, rfl⟩
          have hjl : j < l.length := by rw [← hj]; exact Nat.mod_lt _ (by omega)
          have hmod : Int.tmod ((i : Int) + 1) (l.length : Int) = (j : Int) := by rw [← hj, ← tmod_nat]; simp
          by_cases hk2 : k < l.length
          · have hk2' : (k : Int) < (l.length : Int) := by omega
            by_cases hic : can L a i = true
            · have hnx : nxt L a f = some i := by
                have := Hf.out.2
                rw [scan_yes (by rw [hLl, Hf.out.1]; exact hic) (by omega), hLl, Hf.out.1] at this
                exact this.symm
              have H_hnx := hid hnx
              have H_hLl := hid hLl
              have H_hj := hid hj
              clear hnx hLl hj
              have H_hic := hid hic
              clear hic
              have U_l := hU
              go_wp2_with fail
              refine (can_n l.length a.length L a _ aa' lc' ac' i _ H_hLl.out.symm rfl S.tk.left S.tk.aft hil S.tv).mono ?_
              rintro e w11 ⟨rfl, hc11⟩
              have hb11 : Below w.heap.size w w11 := bchain (by repeat' (first | with_reducible exact hbw | with_reducible refine Below.drew ?_ | with_reducible refine below_drewN ?_ _ | with_reducible refine Below.alloc ?_ (by have := hbw.size; first | (simp; done) | (simp; omega) | omega) _ | with_reducible refine Below.setCell ?_ (by first | (simp; done) | (simp; omega) | omega) _)) hc11
              have hst11 : Below wr.heap.size wr w11 := bchain (by repeat' (first | with_reducible exact Below.refl _ _ | with_reducible refine Below.drew ?_ | with_reducible refine below_drewN ?_ _ | with_reducible refine Below.alloc ?_ (by first | (simp; done) | (simp; omega) | omega) _ | with_reducible refine Below.setCell ?_ (by first | (simp; done) | (simp; omega) | omega) _)) hc11
              replace U_0 := cell_later hst11 U_0
              replace U_1 := cell_later hst11 U_1
              replace U_l := Nat.lt_of_lt_of_le U_l hst11.size
              replace S := S.later hst11
              clear hst11
              clear hc11 hbw
              rw [H_hic.out]
              have hic := H_hic.out
              have Ho := S.own
              have T := S.tk
              have HN : wc.heap.size ≤ w11.heap.size := S.at_
              have hLl := S.len
              obtain ⟨lb', e1, -, -, hcells⟩ := T.at (by omega)
              cases e1
              obtain ⟨x1, x2⟩ := hcells i hil
              clear hcells
              have hx : 0 < g L i := by have := hic; simp only [can, Bool.and_eq_true, decide_eq_true_eq] at this; exact this.1
              have hx2 : g L i ≤ 60 := (S.tv.nth i hil).2.1
              have xl : lb < w11.heap.size := Nat.lt_of_lt_of_le f2 HN
              have H_hLl := hid hLl
              clear hLl
              go_wp2_with (at_builtin; refine stop ?_)
              refine Stop.go ?_
              have T2 := T.set hil (g L i - 1)
              have Ho2 := Ho.setCell (a := ⟨lb, i, none⟩) f2 (.int .i64 (g L i - 1))
              refine wpList_append_x _ rfl _ _ 22 rfl wc.heap.size 3 i0 (.int .i64 0) 1 8 Try.underlying22 hi hz0 hz1 hz2 rfl (by decide) _ _ _ rfl (Ho2.alloc _) (some ⟨w11.heap.size, 0, none⟩) 1 1 [.int .i64 i] rfl rfl (by have h9 := cellsAt_one (w11.setCell ⟨lb, i, none⟩ (.int .i64 (g L i - 1))) (.int .i64 i) 3; simp only [World.size_setCell] at h9; exact h9) (oneCell_int _ _) (by unfold maxLen; omega) (by omega) (by simp; omega) ?_
              intro a3 c3 w12 hown3 hg hat
              have hb12 : Below w.heap.size w w12 := below_grownX (by repeat' (first | with_reducible exact hb11 | with_reducible refine Below.drew ?_ | with_reducible refine below_drewN ?_ _ | with_reducible refine Below.alloc ?_ (by have := hb11.size; first | (simp; done) | (simp; omega) | omega) _ | with_reducible refine Below.setCell ?_ (by first | (simp; done) | (simp; omega) | omega) _)) (base := w.heap.size) hg (by simp; omega) (fun q hq => by have := (Ho.lt q hq).1; omega)
              have hP : Below wc.heap.size (w11.setCell ⟨lb, i, none⟩ (.int .i64 (g L i - 1))) w12 := below_grownX (by repeat' (first | with_reducible exact Below.refl _ _ | with_reducible refine Below.drew ?_ | with_reducible refine Below.alloc ?_ (by simp; omega) _)) hg (by simp; omega) (fun q hq => (Ho.lt q hq).1)
              have T3 := T2.below hP
              have HN3 : AtLeast wc.heap.size w12 := Nat.le_trans HN (by simpa using hP.size)
              have hneB : B ≠ lb := fun e => hne e.symm
              replace U_0 := (hP.cell (p := ⟨B, 0, none⟩) hBN).trans (by go_simp : _ = some (Value.slice (some ⟨lb, 0, none⟩) l.length lc'))
              replace U_1 := (hP.cell (p := ⟨B, 1, none⟩) hBN).trans (by go_simp : _ = some (Value.slice aa' a.length ac'))
              clear hP
              have S3 : RSt w12 (w.heap.size + 1) wc.heap.size (some ⟨lb, 0, none⟩) aa' lc' N a (rr a N l 0) (L.set i (g L i - 1)) (out ++ [(i : Int)]) a3 c3 (i + 1) l.length :=
                ⟨by simpa using hown3, T3, S.tv.step hil hic, rr_step S.tot hlt H_hnx.out, by rw [List.length_set]; exact H_hLl.out, HN3⟩
              clear hown3 T3 T2 Ho2 Ho T x1 x2
              have hic2 := hid hic
              clear hic
              go_wp2_with fail
              go_roundw
              case rel => exact ⟨_, _, a3, c3, i + 1, 0, j, by simp; omega, Nat.zero_le _, hjl, by simp, by go_num, by go_num, hb12, ⟨U_0, U_1⟩, hid ⟨H_hj.out, by rw [nxt, List.length_set, H_hLl.out]; rfl⟩, hid S3⟩
              case measure => simp [rowLen, intOf]; omega
            · have hic : can L a i = false := by simpa using hic
              have hsn := scan_no (l := L) (a := a) (f := f) (k := k) (c := l.length - k) (c' := l.length - (k + 1)) (by rw [hLl, Hf.out.1]; exact hic) (by omega)
              have H_hLl := hid hLl
              have H_hj := hid hj
              have H_hic := hid hic
              have H_hsn := hid hsn
              clear hLl hj hic hsn
              have U_l := hU
              go_wp2_with fail
              refine (can_n l.length a.length L a _ aa' lc' ac' i _ H_hLl.out.symm rfl S.tk.left S.tk.aft hil S.tv).mono ?_
              rintro e w11 ⟨rfl, hc11⟩
              have hb11 : Below w.heap.size w w11 := bchain (by repeat' (first | with_reducible exact hbw | with_reducible refine Below.drew ?_ | with_reducible refine below_drewN ?_ _ | with_reducible refine Below.alloc ?_ (by have := hbw.size; first | (simp; done) | (simp; omega) | omega) _ | with_reducible refine Below.setCell ?_ (by first | (simp; done) | (simp; omega) | omega) _)) hc11
              have hst11 : Below wr.heap.size wr w11 := bchain (by repeat' (first | with_reducible exact Below.refl _ _ | with_reducible refine Below.drew ?_ | with_reducible refine below_drewN ?_ _ | with_reducible refine Below.alloc ?_ (by first | (simp; done) | (simp; omega) | omega) _ | with_reducible refine Below.setCell ?_ (by first | (simp; done) | (simp; omega) | omega) _)) hc11
              replace U_0 := cell_later hst11 U_0
              replace U_1 := cell_later hst11 U_1
              replace U_l := Nat.lt_of_lt_of_le U_l hst11.size
              replace S := S.later hst11
              clear hst11
              clear hc11 hbw
              rw [H_hic.out]
              go_wp2_with fail
              go_roundw
              case rel => exact ⟨L, out, da, dc, f, k + 1, j, ho, by omega, hjl, rfl, by go_num, by go_num, hb11, ⟨U_0, U_1⟩, hid ⟨by rw [← H_hj.out, ← Hf.out.1, Nat.mod_add_mod]; rfl, by rw [← H_hsn.out]; exact Hf.out.2⟩, hid S⟩
              case measure => simp [rowLen, intOf]; omega
          · have hk2' : ¬ (k : Int) < (l.length : Int) := by omega
            have hnx : nxt L a f = none := by
              have := Hf.out.2
              rw [show l.length - k = 0 from by omega] at this
              exact this.symm
            have hfin := rr_end S.tot (.inl hnx)
            have H_hfin := hid hfin
            have H_hnx := hid hnx
            have H_hLl := hid hLl
            have H_hj := hid hj
            clear hfin hnx hLl hj
            go_wp2_with fail
            go_ret2
            exact ⟨ListRet.of ⟨da, dc, by rw [← H_hfin.out]; rfl, by rw [← H_hfin.out]; exact S.own.cellsAt⟩ H_he.out, (by repeat' (first | with_reducible exact hbw | with_reducible refine Below.drew ?_ | with_reducible refine below_drewN ?_ _ | with_reducible refine Below.alloc ?_ (by have := hbw.size; first | (simp; done) | (simp; omega) | omega) _ | with_reducible refine Below.setCell ?_ (by first | (simp; done) | (simp; omega) | omega) _))⟩
        · have hfin := rr_end S.tot (.inr hlt)
          have hlt' : ¬ (out.length : Int) < (N : Int) := by omega
          have H_hfin := hid hfin
          clear hfin
          go_wp2_with fail
          go_ret2
          exact ⟨ListRet.of ⟨da, dc, by rw [← H_hfin.out]; rfl, by rw [← H_hfin.out]; exact S.own.cellsAt⟩ H_he.out, (by repeat' (first | with_reducible exact hbw | with_reducible refine Below.drew ?_ | with_reducible refine below_drewN ?_ _ | with_reducible refine Below.alloc ?_ (by have := hbw.size; first | (simp; done) | (simp; omega) | omega) _ | with_reducible refine Below.setCell ?_ (by first | (simp; done) | (simp; omega) | omega) _))⟩
  · have he : (([], 8) : List Int × Int) = tkRounds l a n := by simp [tkRounds, h8]
    have H_h8 := hid h8
    have H_he := hid he
    clear h8 he
    go_enter Try.func23, Try.ntmps23
    have hb0 := Below.refl w.heap.size w
    go_wp2_with fail
    refine (tcheck_any l a la aa lc ac _ (hl.alloc _) (ha.alloc _) hml).mono ?_
    rintro e w1 ⟨rfl, hc1⟩
    have hb1 : Below w.heap.size w w1 := bchain (by repeat' (first | with_reducible exact hb0 | with_reducible refine Below.drew ?_ | with_reducible refine below_drewN ?_ _ | with_reducible refine Below.alloc ?_ (by have := hb0.size; first | (simp; done) | (simp; omega) | omega) _ | with_reducible refine Below.setCell ?_ (by first | (simp; done) | (simp; omega) | omega) _)) hc1
    have P_0 : w1.cell? ⟨w.heap.size, 0, none⟩ = some (.slice la l.length lc) := (hc1.cell (p := ⟨w.heap.size, 0, none⟩) (by first | (simp; done) | (simp; omega))).trans (by first | (simp; done) | go_simp)
    have P_1 : w1.cell? ⟨w.heap.size, 1, none⟩ = some (.slice aa a.length ac) := (hc1.cell (p := ⟨w.heap.size, 1, none⟩) (by first | (simp; done) | (simp; omega))).trans (by first | (simp; done) | go_simp)
    have P_l : w.heap.size < w1.heap.size := Nat.lt_of_lt_of_le (by first | (simp; done) | (simp; omega)) hc1.size
    clear hc1 hb0
    rw [H_h8.out]
    go_wp2_with fail
    go_ret2
    exact ⟨ListRet.of ⟨none, 0, rfl, .inl rfl⟩ H_he.out, (by repeat' (first | with_reducible exact hb1 | with_reducible refine Below.drew ?_ | with_reducible refine below_drewN ?_ _ | with_reducible refine Below.alloc ?_ (by have := hb1.size; first | (simp; done) | (simp; omega) | omega) _ | with_reducible refine Below.setCell ?_ (by first | (simp; done) | (simp; omega) | omega) _))⟩

end Go.Proofs.Ytoelndaeemlefaa
