/- The law TicketAll: all go out. -/
import Derived.Test.YtpfldkcbkolgnaaTicketAllP
import Derived.Test.YtpfldkcbkolgnaaCup
import Derived.Deep.DeepCutAuto
namespace Go.Proofs.Ytpfldkcbkolgnaa
set_option linter.unusedSimpArgs false
set_option linter.unusedVariables false
set_option linter.unnecessarySimpa false
open Go.RowKit

theorem ht_ints : Try.prog.underlying 22 = some (.slice (Try.prog.elem 22)) := by kernel_rfl
theorem hsz_ints (w : World) : (sizeOf (Try.prog.elem 22)).run Try.prog w = .ok 1 w := by kernel_rfl
theorem info_i64' : (Try.prog.info? 3).map (fun i => (i.zero, i.size, i.bytes)) = some (some (.int .i64 0), 1, 8) := by kernel_rfl

set_option maxRecDepth 100000 in
set_option maxHeartbeats 8000000 in
theorem all_walk (pa : Option Addr) (pc : Nat) (xs : List Int) (w : World) (hx : CellsAt w pa (xs.map (Value.int .i64))) (c5 : xs.length ≤ 16) :
    Calls Try.prog 4 #[.slice pa xs.length pc] w fun e w' =>
      e = .returned (.bool true) ∧ Below w.heap.size w w' := by
  obtain ⟨n, hn⟩ : ∃ n, n = xs.length := ⟨_, rfl⟩
  obtain ⟨i0, ii, iz0, iz1, iz2⟩ := info_parts info_i64'
  have d5 : decide ((16 : Int) < (n : Int)) = false := decide_eq_false (by omega)
  have d6 : decide (16 < n) = false := decide_eq_false (by omega)
  have hn16 : n ≤ 16 := by omega
  rw [← hn]
  have H_hn := hid hn
  clear hn
  go_enter Try.func4, Try.ntmps4
  have hb0 := Below.refl w.heap.size w
  go_wp2_with fail
  with_reducible refine (alive_any _).mono ?_
  rintro e w1 ⟨rfl, hc1⟩
  have hb1 : Below w.heap.size w w1 := bchain (by repeat' (first | with_reducible exact hb0 | with_reducible refine Below.drew ?_ | with_reducible refine below_drewN ?_ _ | with_reducible refine Below.alloc ?_ (by have := hb0.size; first | (simp; done) | (simp; omega) | omega) _ | with_reducible refine Below.setCell ?_ (by first | (simp; done) | (simp; omega) | omega) _)) hc1
  clear hc1 hb0
  go_wp2_with fail
  with_reducible refine (gave_any 16 n _ (by omega) (by omega) (by omega) (by omega)).mono ?_
  rintro e w2 ⟨⟨a2, k2, rfl⟩, hc2⟩
  have hb2 : Below w.heap.size w w2 := bchain (by repeat' (first | with_reducible exact hb1 | with_reducible refine Below.drew ?_ | with_reducible refine below_drewN ?_ _ | with_reducible refine Below.alloc ?_ (by have := hb1.size; first | (simp; done) | (simp; omega) | omega) _ | with_reducible refine Below.setCell ?_ (by first | (simp; done) | (simp; omega) | omega) _)) hc2
  clear hc2 hb1
  have zw2 := hb2.size
  go_wp2_with fail
  refine wp_gen fun w3 hc3 => ?_
  have hb3 : Below w.heap.size w w3 := bchain (by repeat' (first | with_reducible exact hb2 | with_reducible refine Below.drew ?_ | with_reducible refine below_drewN ?_ _ | with_reducible refine Below.alloc ?_ (by have := hb2.size; first | (simp; done) | (simp; omega) | omega) _ | with_reducible refine Below.setCell ?_ (by first | (simp; done) | (simp; omega) | omega) _)) hc3
  have N_0 : w3.cell? ⟨w2.heap.size, 0, none⟩ = some (.int .i64 n) := (hc3.cell (p := ⟨w2.heap.size, 0, none⟩) (by first | (simp; done) | (simp; omega))).trans (by first | (simp; done) | go_simp)
  have N_1 : w3.cell? ⟨w2.heap.size, 1, none⟩ = some (.int .i64 0) := (hc3.cell (p := ⟨w2.heap.size, 1, none⟩) (by first | (simp; done) | (simp; omega))).trans (by first | (simp; done) | go_simp)
  have N_2 : w3.cell? ⟨w2.heap.size, 2, none⟩ = some (.int .i64 16) := (hc3.cell (p := ⟨w2.heap.size, 2, none⟩) (by first | (simp; done) | (simp; omega))).trans (by first | (simp; done) | go_simp)
  have N_3 : w3.cell? ⟨w2.heap.size, 3, none⟩ = some (.slice a2 0 k2) := (hc3.cell (p := ⟨w2.heap.size, 3, none⟩) (by first | (simp; done) | (simp; omega))).trans (by first | (simp; done) | go_simp)
  have N_f0 : w3.frozen? ⟨w2.heap.size, 0, none⟩ = false := (hc3.frozen (p := ⟨w2.heap.size, 0, none⟩) (by first | (simp; done) | (simp; omega))).trans (by first | (simp; done) | go_simp)
  have N_f1 : w3.frozen? ⟨w2.heap.size, 1, none⟩ = false := (hc3.frozen (p := ⟨w2.heap.size, 1, none⟩) (by first | (simp; done) | (simp; omega))).trans (by first | (simp; done) | go_simp)
  have N_f2 : w3.frozen? ⟨w2.heap.size, 2, none⟩ = false := (hc3.frozen (p := ⟨w2.heap.size, 2, none⟩) (by first | (simp; done) | (simp; omega))).trans (by first | (simp; done) | go_simp)
  have N_f3 : w3.frozen? ⟨w2.heap.size, 3, none⟩ = false := (hc3.frozen (p := ⟨w2.heap.size, 3, none⟩) (by first | (simp; done) | (simp; omega))).trans (by first | (simp; done) | go_simp)
  have N_l : w2.heap.size < w3.heap.size := Nat.lt_of_lt_of_le (by first | (simp; done) | (simp; omega)) hc3.size
  have zN3 := N_l
  go_loopw [7, 8] (fun v q wr => ∃ (k : Nat) (av : Option Addr) (cv : Nat), k ≤ n ∧ v = .slice av k cv ∧ q = .int .i64 k ∧ Below w3.heap.size w3 wr ∧ OwnX wr w3.heap.size 3 1 (.slice av k cv) k (((List.range k).map Int.ofNat).map (Value.int .i64))) (fun _ q _ => n - (intOf q).toNat)
  case atStart => exact ⟨0, none, 0, Nat.zero_le _, rfl, rfl, Below.refl _ _, OwnX.nil _ _ _ _⟩
  case round =>
    obtain ⟨k, av, cv, hk, rfl, rfl, hc4, o4⟩ := hrel
    obtain ⟨w4, hw4⟩ : ∃ w4, w4 = wr := ⟨wr, rfl⟩
    subst hw4
    have hb4 : Below w.heap.size w w4 := bchain (by repeat' (first | with_reducible exact hb3 | with_reducible refine Below.drew ?_ | with_reducible refine below_drewN ?_ _ | with_reducible refine Below.alloc ?_ (by have := hb3.size; first | (simp; done) | (simp; omega) | omega) _ | with_reducible refine Below.setCell ?_ (by first | (simp; done) | (simp; omega) | omega) _)) hc4
    have hst4 : Below w3.heap.size w3 w4 := bchain (by repeat' (first | with_reducible exact Below.refl _ _ | with_reducible refine Below.drew ?_ | with_reducible refine below_drewN ?_ _ | with_reducible refine Below.alloc ?_ (by first | (simp; done) | (simp; omega) | omega) _ | with_reducible refine Below.setCell ?_ (by first | (simp; done) | (simp; omega) | omega) _)) hc4
    replace N_0 := cell_later hst4 N_0
    replace N_1 := cell_later hst4 N_1
    replace N_2 := cell_later hst4 N_2
    replace N_3 := cell_later hst4 N_3
    replace N_f0 := frozen_later hst4 N_l N_f0
    replace N_f1 := frozen_later hst4 N_l N_f1
    replace N_f2 := frozen_later hst4 N_l N_f2
    replace N_f3 := frozen_later hst4 N_l N_f3
    replace N_l := Nat.lt_of_lt_of_le N_l hst4.size
    clear hst4
    have zz4 := hc4.size
    by_cases hlt : k < n
    · have hlt' : (k : Int) < (n : Int) := by omega
      go_wp2_with (at_builtin; refine stop ?_)
      refine Stop.go ?_
      refine wpList_append_x _ rfl _ _ 22 rfl w3.heap.size 3 i0 (.int .i64 0) 1 8 Try.underlying22 ii iz0 iz1 iz2 rfl (by decide) (.slice av k cv) k _ rfl (o4.alloc _) (some ⟨w4.heap.size, 0, none⟩) 1 1 [.int .i64 k] rfl rfl (cellsAt_top rfl) (oneCell_int _ _) (by unfold maxLen; omega) (by omega) (by simp; omega) ?_
      intro a5 c5 w5 o5 hg hk5
      have hb5 : Below w3.heap.size w3 w5 := below_grownX (hc4.alloc (by omega) _) hg (by simp; omega) (fun q h => (o4.lt q h).1)
      have ho5 : (((List.range k).map Int.ofNat).map (Value.int .i64)) ++ [.int .i64 k] = (((List.range (k + 1)).map Int.ofNat).map (Value.int .i64)) := by rw [List.range_succ]; simp
      rw [ho5] at o5
      have H_ho5 := hid ho5
      clear ho5
      go_wp2_with fail
      go_roundw
      case rel => exact ⟨k + 1, a5, c5, by omega, rfl, by go_num, hb5, o5⟩
      case measure => simp [intOf]; omega
    · obtain rfl : n = k := by omega
      have kL := o4.cellsAt
      have hcv : ((List.range n).map Int.ofNat).length ≤ cv := by obtain ⟨_, _, e0, e1, _⟩ := o4.cells; cases e0; simpa using e1
      have pL : ∀ ad, av = some ad → ad.block ≠ w2.heap.size := fun ad e => by have := (o4.addr ad e).1; omega
      clear o4
      go_wp2_with fail
      go_loopw [7, 9] (fun v q wr => ∃ (i : Nat) (L : List Int) (hs : Slips) (av : Option Addr) (cv : Nat) (ak : Option Addr) (ck : Nat), i ≤ n ∧ v = .slice av L.length cv ∧ L.length ≤ cv ∧ q = .int .i64 i ∧ Below w.heap.size w wr ∧ (wr.cell? ⟨w2.heap.size, 0, none⟩ = some (.int .i64 n) ∧ wr.cell? ⟨w2.heap.size, 1, none⟩ = some (.int .i64 0) ∧ wr.cell? ⟨w2.heap.size, 2, none⟩ = some (.int .i64 16) ∧ wr.cell? ⟨w2.heap.size, 3, none⟩ = some (.slice ak hs.length ck)) ∧ (wr.frozen? ⟨w2.heap.size, 0, none⟩ = false ∧ wr.frozen? ⟨w2.heap.size, 1, none⟩ = false ∧ wr.frozen? ⟨w2.heap.size, 2, none⟩ = false ∧ wr.frozen? ⟨w2.heap.size, 3, none⟩ = false) ∧ CellsAt wr ak (cel hs) ∧ CellsAt wr av (L.map (Value.int .i64)) ∧ Hid (Lf n i L hs)) (fun _ q _ => n - (intOf q).toNat)
      case atStart => exact ⟨0, (List.range n).map Int.ofNat, [], av, cv, a2, k2, Nat.zero_le _, by simp, hcv, rfl, (by repeat' (first | with_reducible exact hb4 | with_reducible refine Below.drew ?_ | with_reducible refine below_drewN ?_ _ | with_reducible refine Below.alloc ?_ (by have := hb4.size; first | (simp; done) | (simp; omega) | omega) _ | with_reducible refine Below.setCell ?_ (by first | (simp; done) | (simp; omega) | omega) _)), ⟨N_0, N_1, N_2, N_3⟩, ⟨N_f0, N_f1, N_f2, N_f3⟩, .inl rfl, kL, hid (Lf.start hn16)⟩
      case round =>
        clear N_0 N_1 N_2 N_3 N_f0 N_f1 N_f2 N_f3 N_l kL pL hc4 zz4
        obtain ⟨i, L, hs, av, cv, ak, ck, hi, rfl, hcv, rfl, hbw, ⟨N_0, N_1, N_2, N_3⟩, ⟨N_f0, N_f1, N_f2, N_f3⟩, k1, kL, HL⟩ := hrel
        have N_l : w2.heap.size < wr.heap.size := World.block_lt_of_cell? _ _ N_0
        by_cases hlt : i < n
        · have hlt' : (i : Int) < (n : Int) := by omega
          have hLl : 0 < L.length := by have := HL.out.len; omega
          obtain ⟨b, o', rfl, hcell⟩ := hx.int (by have := H_hn.out; omega)
          have t0 := cell_later hbw (hcell i (by have := H_hn.out; omega))
          obtain ⟨x, hxe⟩ : ∃ x, x = xs[i]?.getD 0 := ⟨_, rfl⟩
          rw [← hxe] at t0
          clear hcell hxe
          obtain ⟨b2, o2, rfl, hcl⟩ := kL.int hLl
          go_upto_if 52 with (fail)
          go_cut [10] (fun s wx => ∃ m : Nat, m < L.length ∧ s = .int .i64 m ∧ Below wr.heap.size wr wx)
          case first =>
            by_cases hx0 : 0 < x
            · obtain ⟨m, hm⟩ : ∃ m : Nat, x % (L.length : Int) = m := ⟨(x % (L.length : Int)).toNat, by have := Int.emod_nonneg x (show (L.length : Int) ≠ 0 by omega); omega⟩
              have hmL : m < L.length := by have := Int.emod_lt_of_pos x (show (0 : Int) < (L.length : Int) by omega); omega
              have hx0' : 0 ≤ x := by omega
              have hLp : (0 : Int) < (L.length : Int) := by omega
              have Hm := hid hm
              clear hm
              go_wp2_with fail
              go_meet
              exact ⟨m, hmL, congrArg (Value.int .i64) Hm.out, Below.refl _ _⟩
            · go_wp2_with fail
              go_meet
              exact ⟨0, hLl, rfl, Below.refl _ _⟩
          case rest =>
            obtain ⟨m, hmL, rfl, hc5⟩ := hcut
            obtain ⟨w5, hw5⟩ : ∃ w5, w5 = wc := ⟨wc, rfl⟩
            subst hw5
            have hbw5 : Below w.heap.size w w5 := bchain hbw hc5
            have T0 := cell_later hc5 (hcl m hmL)
            obtain ⟨t, hte⟩ : ∃ t, t = L[m]?.getD 0 := ⟨_, rfl⟩
            have hte' : t = L[m] := by rw [hte, List.getElem?_eq_getElem hmL]; rfl
            rw [← hte] at T0
            have hrr := HL.out.rng t (by rw [hte']; exact List.getElem_mem hmL)
            have ht0 := hrr.1
            have htn := hrr.2.1
            have hpu := HL.out.put hn16 hmL
            rw [← hte'] at hpu
            have Hte := hid hte'
            have HP1 := hid hpu.1
            have HP2 := hid hpu.2
            clear hte hte' hrr hpu
            have hmL' : (m : Int) < (L.length : Int) := by omega
            have hbb := World.block_lt_of_cell? _ _ T0
            simp only at hbb
            replace N_0 := cell_later hc5 N_0
            replace N_1 := cell_later hc5 N_1
            replace N_2 := cell_later hc5 N_2
            replace N_3 := cell_later hc5 N_3
            replace N_f0 := frozen_later hc5 N_l N_f0
            replace N_f1 := frozen_later hc5 N_l N_f1
            replace N_f2 := frozen_later hc5 N_l N_f2
            replace N_f3 := frozen_later hc5 N_l N_f3
            replace N_l : w2.heap.size < w5.heap.size := Nat.lt_of_lt_of_le N_l hc5.size
            replace k1 := k1.later hc5
            have kL5 := kL.later hc5
            clear kL hcl
            have hsl : hs.length ≤ 8796093022206 := by have := HL.out.hlen; omega
            go_upto_region 19 with fail
            have hwt : IntKind.u64.wrap t = t := by rw [IntKind.wrap_u64]; omega
            go_cut [11, 12] (fun s q wx => ∃ (P : Nat) (a6 : Option Addr) (c6 : Nat), s = .pointer (some ⟨P, 0, none⟩) ∧ q = .int .i64 0 ∧ w2.heap.size < P ∧ P < wx.heap.size ∧ Below w5.heap.size w5 wx ∧ (wx.cell? ⟨P, 0, none⟩ = some (.int .i64 n) ∧ wx.cell? ⟨P, 1, none⟩ = some (.int .i64 0) ∧ wx.cell? ⟨P, 2, none⟩ = some (.int .i64 16) ∧ wx.cell? ⟨P, 3, none⟩ = some (.slice a6 (insD hs t t).length c6)) ∧ CellsAt wx a6 (cel (insD hs t t)) ∧ ∀ ad, a6 = some ad → ad.block ≠ w2.heap.size)
            case first =>
              have q1 : w2.heap.size ≠ w5.heap.size := by omega
              have q2 : b2 ≠ w5.heap.size := by omega
              have q3 : w5.heap.size ≠ w2.heap.size := by omega
              have q4 : w5.heap.size ≠ b2 := by omega
              go_region_held3 (fun w' => w'.cell? ⟨w2.heap.size, 0, none⟩ = some (.int .i64 n) ∧ w'.cell? ⟨w2.heap.size, 1, none⟩ = some (.int .i64 0) ∧ w'.cell? ⟨w2.heap.size, 2, none⟩ = some (.int .i64 16) ∧ w'.cell? ⟨w2.heap.size, 3, none⟩ = some (.slice ak hs.length ck) ∧ w'.cell? ⟨b2, o2 + m, none⟩ = some (.int .i64 t)) (first | exact ⟨N_0, N_1, N_2, N_3, T0⟩ | go_keep | (refine ⟨?_, ?_, ?_, ?_, ?_⟩ <;> go_simp; done)) ((first | (go_at_call 10; with_reducible refine (put_r n 0 16 t t hs n 0 16 0 (insD hs t t) hs.length (insD hs t t).length ak ck _ rfl rfl HP1.out k1.drew hsl).mono ?_; rintro e w6 ⟨⟨a6, c6, rfl, k6, f6⟩, hc6⟩; (have hst6 : Below w5.heap.size w5 w6 := bchain (Below.drew (Below.refl _ _)) hc6); (replace N_0 := cell_later hst6 N_0); (replace N_1 := cell_later hst6 N_1); (replace N_2 := cell_later hst6 N_2); (replace N_3 := cell_later hst6 N_3); (replace T0 := cell_later hst6 T0); (have zz6 := hst6.size); (have yy6 := hc6.size); (try simp only [World.size_drew, World.size_alloc] at yy6)) | (go_at_call 10; with_reducible refine (put_r n 0 16 t t hs n 0 16 0 (insD hs t t) hs.length (insD hs t t).length ak ck _ rfl rfl HP1.out (k1.alloc _).drew hsl).mono ?_; rintro e w6 ⟨⟨a6, c6, rfl, k6, f6⟩, hc6⟩; (have hst6 : Below w5.heap.size w5 w6 := bchain (Below.drew ((Below.refl _ _).alloc (Nat.le_refl _) _)) hc6); (replace N_0 := cell_later hst6 N_0); (replace N_1 := cell_later hst6 N_1); (replace N_2 := cell_later hst6 N_2); (replace N_3 := cell_later hst6 N_3); (replace T0 := cell_later hst6 T0); (have zz6 := hst6.size); (have yy6 := hc6.size); (try simp only [World.size_drew, World.size_alloc] at yy6); (have P_0 : w6.cell? ⟨w5.heap.size, 0, none⟩ = some (.int .i64 0) := (hc6.cell (p := ⟨w5.heap.size, 0, none⟩) (by simp)).trans (by first | (simp; done) | go_simp)); (have P_f0 : w6.frozen? ⟨w5.heap.size, 0, none⟩ = false := (hc6.frozen (p := ⟨w5.heap.size, 0, none⟩) (by simp)).trans (by first | (simp; done) | go_simp)); (have P_1 : w6.cell? ⟨w5.heap.size, 1, none⟩ = some (.int .i64 0) := (hc6.cell (p := ⟨w5.heap.size, 1, none⟩) (by simp)).trans (by first | (simp; done) | go_simp)); (have P_f1 : w6.frozen? ⟨w5.heap.size, 1, none⟩ = false := (hc6.frozen (p := ⟨w5.heap.size, 1, none⟩) (by simp)).trans (by first | (simp; done) | go_simp)); (have P_2 : w6.cell? ⟨w5.heap.size, 2, none⟩ = some (.int .i64 0) := (hc6.cell (p := ⟨w5.heap.size, 2, none⟩) (by simp)).trans (by first | (simp; done) | go_simp)); (have P_f2 : w6.frozen? ⟨w5.heap.size, 2, none⟩ = false := (hc6.frozen (p := ⟨w5.heap.size, 2, none⟩) (by simp)).trans (by first | (simp; done) | go_simp)); (have P_3 : w6.cell? ⟨w5.heap.size, 3, none⟩ = some (.slice none 0 0) := (hc6.cell (p := ⟨w5.heap.size, 3, none⟩) (by simp)).trans (by first | (simp; done) | go_simp)); (have P_f3 : w6.frozen? ⟨w5.heap.size, 3, none⟩ = false := (hc6.frozen (p := ⟨w5.heap.size, 3, none⟩) (by simp)).trans (by first | (simp; done) | go_simp)))))
              all_goals
                have p2 : ∀ ad, a6 = some ad → ad.block ≠ w2.heap.size := fun ad e => by have := f6 ad e; simp at this; omega
                go_wp2_with fail
                go_meet
                first
                  | (have p5 : ∀ ad, a6 = some ad → ad.block ≠ w5.heap.size := fun ad e => by have := f6 ad e; simp at this; omega
                     exact ⟨w5.heap.size, a6, c6, rfl, rfl, by first | omega | (simp; omega), by first | (simp; done) | (simp; omega), by repeat' (first | with_reducible exact hst6 | with_reducible refine Below.drew ?_ | with_reducible refine Below.alloc ?_ (by first | (simp; done) | (simp; omega) | omega) _ | with_reducible refine Below.setCell ?_ (by first | (simp; done) | (simp; omega) | omega) _), ⟨by go_simp, by go_simp, by go_simp, by go_simp⟩, by repeat' (first | with_reducible exact k6 | with_reducible refine CellsAt.alloc ?_ _ | with_reducible refine CellsAt.drew ?_ | with_reducible refine CellsAt.setFarG ?_ p5 _), p2⟩)
                  | (have p5 : ∀ ad, a6 = some ad → ad.block ≠ w6.heap.size := fun ad e => by rcases cellsAt_lt k6 ad e with h | h; (have h1 := congrArg List.length h; rw [cel_len, insD_len] at h1; simp at h1); omega
                     exact ⟨w6.heap.size, a6, c6, rfl, rfl, by first | omega | (simp; omega), by first | (simp; done) | (simp; omega), by repeat' (first | with_reducible exact hst6 | with_reducible refine Below.drew ?_ | with_reducible refine Below.alloc ?_ (by first | (simp; done) | (simp; omega) | omega) _ | with_reducible refine Below.setCell ?_ (by first | (simp; done) | (simp; omega) | omega) _), ⟨by go_simp, by go_simp, by go_simp, by go_simp⟩, by repeat' (first | with_reducible exact k6 | with_reducible refine CellsAt.alloc ?_ _ | with_reducible refine CellsAt.drew ?_ | with_reducible refine CellsAt.setFarG ?_ p5 _), p2⟩)
            case rest =>
              clear hwt
              obtain ⟨P, a6, c6, rfl, rfl, zP, P_l, hc6, ⟨P_0, P_1, P_2, P_3⟩, k6, p6⟩ := hcut
              obtain ⟨w6, hw6⟩ : ∃ w6, w6 = wc := ⟨wc, rfl⟩
              subst hw6
              have hbw6 : Below w.heap.size w w6 := bchain hbw5 hc6
              replace N_0 := cell_later hc6 N_0
              replace N_1 := cell_later hc6 N_1
              replace N_2 := cell_later hc6 N_2
              replace N_3 := cell_later hc6 N_3
              replace N_f0 := frozen_later hc6 N_l N_f0
              replace N_f1 := frozen_later hc6 N_l N_f1
              replace N_f2 := frozen_later hc6 N_l N_f2
              replace N_f3 := frozen_later hc6 N_l N_f3
              replace N_l : w2.heap.size < w6.heap.size := Nat.lt_of_lt_of_le N_l hc6.size
              replace kL5 := kL5.later hc6
              have hb2l : b2 < w6.heap.size := Nat.lt_of_lt_of_le hbb hc6.size
              clear T0 k1 hc5 hc6 hbw5 hbw hbb
              go_wp2_with fail
              with_reducible refine (rcheck_ok n 0 16 (insD hs t t) _ a6 c6 _ HP2.out.v rfl k6).mono ?_
              rintro e w7 ⟨rfl, hc7⟩
              have hb7 : Below w.heap.size w w7 := bchain (by repeat' (first | with_reducible exact hbw6 | with_reducible refine Below.drew ?_ | with_reducible refine below_drewN ?_ _ | with_reducible refine Below.alloc ?_ (by have := hbw6.size; first | (simp; done) | (simp; omega) | omega) _ | with_reducible refine Below.setCell ?_ (by first | (simp; done) | (simp; omega) | omega) _)) hc7
              have hst7 : Below w6.heap.size w6 w7 := bchain (by repeat' (first | with_reducible exact Below.refl _ _ | with_reducible refine Below.drew ?_ | with_reducible refine below_drewN ?_ _ | with_reducible refine Below.alloc ?_ (by first | (simp; done) | (simp; omega) | omega) _ | with_reducible refine Below.setCell ?_ (by first | (simp; done) | (simp; omega) | omega) _)) hc7
              replace P_0 := cell_later hst7 P_0
              replace P_1 := cell_later hst7 P_1
              replace P_2 := cell_later hst7 P_2
              replace P_3 := cell_later hst7 P_3
              replace P_l := Nat.lt_of_lt_of_le P_l hst7.size
              replace N_0 := cell_later hst7 N_0
              replace N_1 := cell_later hst7 N_1
              replace N_2 := cell_later hst7 N_2
              replace N_3 := cell_later hst7 N_3
              replace N_f0 := frozen_later hst7 N_l N_f0
              replace N_f1 := frozen_later hst7 N_l N_f1
              replace N_f2 := frozen_later hst7 N_l N_f2
              replace N_f3 := frozen_later hst7 N_l N_f3
              replace N_l := Nat.lt_of_lt_of_le N_l hst7.size
              replace k6 := k6.later hst7
              replace kL5 := kL5.later hst7
              clear hst7
              clear hc7 hbw6
              go_upto_region 22 with fail
              have hLc := hcv
              have hL16 : L.length ≤ 16 := by have := HL.out.len; omega
              have hs7 := hb7.size
              have zP7 := P_l
              have hl1 : (0 : Int) ≤ (m : Int) := by omega
              have hl2 : (m : Int) ≤ (L.length : Int) := by omega
              have hl4 : (m : Int) ≤ (cv : Int) := by omega
              have hw1 : IntKind.i64.wrap ((m : Int) + 1) = (m : Int) + 1 := IntWalk.i64_in _ (by omega)
              obtain ⟨⟨bd, od, id⟩, hsl, hadb, hade⟩ := slice_from (P := Try.prog) ht_ints hsz_ints b2 o2 L.length cv (m + 1) (by omega) hcv
              have hcast : ((m + 1 : Nat) : Int) = (m : Int) + 1 := by omega
              rw [hcast] at hsl
              have kT := kL5.take m
              have kD : CellsAt w7 (some ⟨bd, od, id⟩) ((L.map (Value.int .i64)).drop (m + 1)) := by
                by_cases hlast : m + 1 < L.length
                · rw [hade hlast]; exact kL5.drop (m + 1)
                · left; rw [List.drop_eq_nil_iff]; simp; omega
              have q1 : w2.heap.size ≠ w7.heap.size := by omega
              have q2 : P ≠ w7.heap.size := by omega
              have q3 : P ≠ w2.heap.size := by omega
              have q4 : w2.heap.size ≠ P := by omega
              obtain ⟨L2, hL2⟩ : ∃ L2, L2 = L.take m ++ L.drop (m + 1) := ⟨_, rfl⟩
              have hL2l : m + (L.length - (m + 1)) = L2.length := by rw [hL2, List.length_append, List.length_take, List.length_drop]; omega
              have hL2m : (L.map (Value.int .i64)).take m ++ (L.map (Value.int .i64)).drop (m + 1) = L2.map (Value.int .i64) := by rw [hL2, List.map_append, List.map_take, List.map_drop]
              have hL216 : L2.length ≤ 16 := by omega
              have htl : ((L.map (Value.int .i64)).take m).length = m * 1 := by rw [List.length_take, List.length_map]; omega
              have hdl : ((L.map (Value.int .i64)).drop (m + 1)).length = (L.length - (m + 1)) * 1 := by rw [List.length_drop, List.length_map]; omega
              have hto : ∀ u ∈ (L.map (Value.int .i64)).take m, u.oneCell' = true := fun u hu => ints_oneCell _ _ u (List.mem_of_mem_take hu)
              have hdo : ∀ u ∈ (L.map (Value.int .i64)).drop (m + 1), u.oneCell' = true := fun u hu => ints_oneCell _ _ u (List.mem_of_mem_drop hu)
              have H_hL2 := hid hL2
              have H_hL2l := hid hL2l
              have H_hL2m := hid hL2m
              have H_htl := hid htl
              have H_hdl := hid hdl
              have H_hto := hid hto
              have H_hdo := hid hdo
              have H_hadb := hid hadb
              have H_hade := hid hade
              have H_hcast := hid hcast
              clear hL2 hL2l hL2m htl hdl hto hdo hadb hade hcast
              go_region_held3 (fun w' => w'.cell? ⟨P, 0, none⟩ = some (.int .i64 n) ∧ w'.cell? ⟨P, 1, none⟩ = some (.int .i64 0) ∧ w'.cell? ⟨P, 2, none⟩ = some (.int .i64 16) ∧ w'.cell? ⟨P, 3, none⟩ = some (.slice a6 (insD hs t t).length c6)) (first | exact ⟨P_0, P_1, P_2, P_3⟩ | go_keep) ((first | (refine step_append_cup _ (by rfl) _ _ _ (by rfl) w7.heap.size 3 i0 (.int .i64 0) 1 8 Try.underlying22 ii iz0 iz1 iz2 rfl (by omega) (.slice (some ⟨w7.heap.size, 0, none⟩) 0 0) 0 [] (by rfl) (CupX.zero _ _ _ _ _) (some ⟨b2, o2, none⟩) m cv _ (by rfl) H_htl.out ?_ H_hto.out m (Nat.zero_add m) (by unfold maxLen; omega) (by omega) ?_ ?_; (focus (repeat' (first | with_reducible exact kT | with_reducible refine CellsAt.alloc ?_ _ | with_reducible refine CellsAt.drew ?_))); (focus (simp)); intro a8 c8 w8 o8 hc8; (have P_0a : w8.cell? ⟨P, 0, none⟩ = some (.int .i64 n) := (hc8.cell (p := ⟨P, 0, none⟩) zP7).trans (by go_simp)); (have P_1a : w8.cell? ⟨P, 1, none⟩ = some (.int .i64 0) := (hc8.cell (p := ⟨P, 1, none⟩) zP7).trans (by go_simp)); (have P_2a : w8.cell? ⟨P, 2, none⟩ = some (.int .i64 16) := (hc8.cell (p := ⟨P, 2, none⟩) zP7).trans (by go_simp)); (have P_3a : w8.cell? ⟨P, 3, none⟩ = some (.slice a6 (insD hs t t).length c6) := (hc8.cell (p := ⟨P, 3, none⟩) zP7).trans (by go_simp)); (have N_0a : w8.cell? ⟨w2.heap.size, 0, none⟩ = some (.int .i64 n) := (hc8.cell (p := ⟨w2.heap.size, 0, none⟩) N_l).trans (by go_simp)); (have N_f0a : w8.frozen? ⟨w2.heap.size, 0, none⟩ = false := (hc8.frozen (p := ⟨w2.heap.size, 0, none⟩) N_l).trans (by go_simp)); (have N_1a : w8.cell? ⟨w2.heap.size, 1, none⟩ = some (.int .i64 0) := (hc8.cell (p := ⟨w2.heap.size, 1, none⟩) N_l).trans (by go_simp)); (have N_f1a : w8.frozen? ⟨w2.heap.size, 1, none⟩ = false := (hc8.frozen (p := ⟨w2.heap.size, 1, none⟩) N_l).trans (by go_simp)); (have N_2a : w8.cell? ⟨w2.heap.size, 2, none⟩ = some (.int .i64 16) := (hc8.cell (p := ⟨w2.heap.size, 2, none⟩) N_l).trans (by go_simp)); (have N_f2a : w8.frozen? ⟨w2.heap.size, 2, none⟩ = false := (hc8.frozen (p := ⟨w2.heap.size, 2, none⟩) N_l).trans (by go_simp)); (have N_3a : w8.cell? ⟨w2.heap.size, 3, none⟩ = some (.slice ak hs.length ck) := (hc8.cell (p := ⟨w2.heap.size, 3, none⟩) N_l).trans (by go_simp)); (have N_f3a : w8.frozen? ⟨w2.heap.size, 3, none⟩ = false := (hc8.frozen (p := ⟨w2.heap.size, 3, none⟩) N_l).trans (by go_simp)); (have hz8 := hc8.size); (simp only [World.size_drew, World.size_alloc] at hz8); (have hc78 : Below w7.heap.size w7 w8 := Below.trans (by repeat' (first | with_reducible exact Below.refl _ _ | with_reducible refine Below.drew ?_ | with_reducible refine Below.alloc ?_ (Nat.le_refl _) _)) hc8)) | (refine step_append_cup _ (by rfl) _ _ _ (by rfl) w7.heap.size 3 i0 (.int .i64 0) 1 8 Try.underlying22 ii iz0 iz1 iz2 rfl (by omega) (.slice a8 m c8) m _ (by rfl) o8 (some ⟨bd, od, id⟩) (L.length - (m + 1)) _ _ (by rfl) H_hdl.out ?_ H_hdo.out L2.length H_hL2l.out (by unfold maxLen; omega) (by omega) ?_ ?_; (focus (exact kD.later hc78)); (focus (first | omega | (simp; omega))); intro a9 c9 w9 o9 hc9; (have P_0b : w9.cell? ⟨P, 0, none⟩ = some (.int .i64 n) := (hc9.cell (p := ⟨P, 0, none⟩) zP7).trans (by go_simp)); (have P_1b : w9.cell? ⟨P, 1, none⟩ = some (.int .i64 0) := (hc9.cell (p := ⟨P, 1, none⟩) zP7).trans (by go_simp)); (have P_2b : w9.cell? ⟨P, 2, none⟩ = some (.int .i64 16) := (hc9.cell (p := ⟨P, 2, none⟩) zP7).trans (by go_simp)); (have P_3b : w9.cell? ⟨P, 3, none⟩ = some (.slice a6 (insD hs t t).length c6) := (hc9.cell (p := ⟨P, 3, none⟩) zP7).trans (by go_simp)); (have N_0b : w9.cell? ⟨w2.heap.size, 0, none⟩ = some (.int .i64 n) := (hc9.cell (p := ⟨w2.heap.size, 0, none⟩) N_l).trans (by go_simp)); (have N_f0b : w9.frozen? ⟨w2.heap.size, 0, none⟩ = false := (hc9.frozen (p := ⟨w2.heap.size, 0, none⟩) N_l).trans (by go_simp)); (have N_1b : w9.cell? ⟨w2.heap.size, 1, none⟩ = some (.int .i64 0) := (hc9.cell (p := ⟨w2.heap.size, 1, none⟩) N_l).trans (by go_simp)); (have N_f1b : w9.frozen? ⟨w2.heap.size, 1, none⟩ = false := (hc9.frozen (p := ⟨w2.heap.size, 1, none⟩) N_l).trans (by go_simp)); (have N_2b : w9.cell? ⟨w2.heap.size, 2, none⟩ = some (.int .i64 16) := (hc9.cell (p := ⟨w2.heap.size, 2, none⟩) N_l).trans (by go_simp)); (have N_f2b : w9.frozen? ⟨w2.heap.size, 2, none⟩ = false := (hc9.frozen (p := ⟨w2.heap.size, 2, none⟩) N_l).trans (by go_simp)); (have N_3b : w9.cell? ⟨w2.heap.size, 3, none⟩ = some (.slice ak hs.length ck) := (hc9.cell (p := ⟨w2.heap.size, 3, none⟩) N_l).trans (by go_simp)); (have N_f3b : w9.frozen? ⟨w2.heap.size, 3, none⟩ = false := (hc9.frozen (p := ⟨w2.heap.size, 3, none⟩) N_l).trans (by go_simp)); (have hz9 := hc9.size); (have hc79 : Below w7.heap.size w7 w9 := hc78.trans hc9))))
              have kN : (L2.map (Value.int .i64) = [] ∨ ∀ ad, a9 = some ad → ad.block ≠ w2.heap.size) ∧ CellsAt w9 a9 (L2.map (Value.int .i64)) := by
                have h9 := o9.cells.2
                rw [List.nil_append, H_hL2m.out] at h9
                refine ⟨?_, h9⟩
                by_cases he : L2.map (Value.int .i64) = []
                · exact .inl he
                · exact .inr fun ad e => by have := (o9.addr (by rw [List.nil_append, H_hL2m.out]; exact he) ad e).1; omega
              have hbw9 : Below w.heap.size w w9 := bchain hb7 hc79
              have hc9c := o9.cells.1
              have k69 := k6.later hc79
              go_wp2_with fail
              go_roundw
              case rel =>
                refine ⟨i + 1, L2, insD hs t t, a9, c9, a6, c6, by omega, rfl, hc9c, by go_num, ?_, ⟨by go_simp, by go_simp, by go_simp, by go_simp⟩, ⟨by go_simp, by go_simp, by go_simp, by go_simp⟩, ?_, ?_, hid (by rw [H_hL2.out]; exact HP2.out)⟩
                · repeat' (first | with_reducible exact hbw9 | with_reducible refine Below.setCell ?_ (by first | (simp; done) | (simp; omega) | omega) _)
                · repeat' (first | with_reducible exact k69 | with_reducible refine CellsAt.setFarG ?_ p6 _)
                · rcases kN.1 with he | pa
                  · exact .inl he
                  · repeat' (first | with_reducible exact kN.2 | with_reducible refine CellsAt.setFarG ?_ pa _)
              case measure => simp [intOf]; omega
        · obtain rfl : n = i := by omega
          have hA := HL.out.all
          have hhl := HL.out.hlen
          have hr : dDrain ⟨n, 0, 16, hs⟩ = (⟨n, n, 16, []⟩, hs, 0) := by
            unfold dDrain Dk.err
            simp only
            rw [if_pos HL.out.v.err, hA.1, ← hhl, List.drop_length, List.take_length]
            simp
          have hb17 : hs.length ≤ 8796093022206 := by omega
          have HA := hid hA.2
          have hnh : n = hs.length := hhl.symm
          have H_hr := hid hr
          have H_hb17 := hid hb17
          have H_hhl := hid hhl
          have H_hnh := hid hnh
          clear hr hb17 hhl hnh
          clear hA
          go_wp2_with fail
          with_reducible refine (drain_r n 0 16 hs n n 16 0 [] hs hs.length 0 n ak ck _ rfl rfl H_hnh.out H_hr.out k1 H_hb17.out).mono ?_
          rintro e w4 ⟨⟨a4, c4, b4, d4, rfl, k4, m4, _, _⟩, hc4⟩
          have hb4 : Below w.heap.size w w4 := bchain (by repeat' (first | with_reducible exact hbw | with_reducible refine Below.drew ?_ | with_reducible refine below_drewN ?_ _ | with_reducible refine Below.alloc ?_ (by have := hbw.size; first | (simp; done) | (simp; omega) | omega) _ | with_reducible refine Below.setCell ?_ (by first | (simp; done) | (simp; omega) | omega) _)) hc4
          have hst4 : Below wr.heap.size wr w4 := bchain (by repeat' (first | with_reducible exact Below.refl _ _ | with_reducible refine Below.drew ?_ | with_reducible refine below_drewN ?_ _ | with_reducible refine Below.alloc ?_ (by first | (simp; done) | (simp; omega) | omega) _ | with_reducible refine Below.setCell ?_ (by first | (simp; done) | (simp; omega) | omega) _)) hc4
          replace N_0 := cell_later hst4 N_0
          replace N_1 := cell_later hst4 N_1
          replace N_2 := cell_later hst4 N_2
          replace N_3 := cell_later hst4 N_3
          replace N_f0 := frozen_later hst4 N_l N_f0
          replace N_f1 := frozen_later hst4 N_l N_f1
          replace N_f2 := frozen_later hst4 N_l N_f2
          replace N_f3 := frozen_later hst4 N_l N_f3
          replace N_l := Nat.lt_of_lt_of_le N_l hst4.size
          replace k1 := k1.later hst4
          clear hst4
          clear hc4 hbw
          clear N_0 N_1 N_2 N_3 N_f0 N_f1 N_f2 N_f3 N_l
          clear k1
          go_wp2_with fail
          refine wp_gen fun w5 hc5 => ?_
          have hb5 : Below w.heap.size w w5 := bchain (by repeat' (first | with_reducible exact hb4 | with_reducible refine Below.drew ?_ | with_reducible refine below_drewN ?_ _ | with_reducible refine Below.alloc ?_ (by have := hb4.size; first | (simp; done) | (simp; omega) | omega) _ | with_reducible refine Below.setCell ?_ (by first | (simp; done) | (simp; omega) | omega) _)) hc5
          have hst5 : Below w4.heap.size w4 w5 := bchain (by repeat' (first | with_reducible exact Below.refl _ _ | with_reducible refine Below.drew ?_ | with_reducible refine below_drewN ?_ _ | with_reducible refine Below.alloc ?_ (by first | (simp; done) | (simp; omega) | omega) _ | with_reducible refine Below.setCell ?_ (by first | (simp; done) | (simp; omega) | omega) _)) hc5
          have A_0 : w5.cell? ⟨w4.heap.size, 0, none⟩ = some (.int .i64 n) := (hc5.cell (p := ⟨w4.heap.size, 0, none⟩) (by first | (simp; done) | (simp; omega))).trans (by first | (simp; done) | go_simp)
          have A_1 : w5.cell? ⟨w4.heap.size, 1, none⟩ = some (.int .i64 n) := (hc5.cell (p := ⟨w4.heap.size, 1, none⟩) (by first | (simp; done) | (simp; omega))).trans (by first | (simp; done) | go_simp)
          have A_2 : w5.cell? ⟨w4.heap.size, 2, none⟩ = some (.int .i64 16) := (hc5.cell (p := ⟨w4.heap.size, 2, none⟩) (by first | (simp; done) | (simp; omega))).trans (by first | (simp; done) | go_simp)
          have A_3 : w5.cell? ⟨w4.heap.size, 3, none⟩ = some (.slice a4 0 c4) := (hc5.cell (p := ⟨w4.heap.size, 3, none⟩) (by first | (simp; done) | (simp; omega))).trans (by first | (simp; done) | go_simp)
          have A_f0 : w5.frozen? ⟨w4.heap.size, 0, none⟩ = false := (hc5.frozen (p := ⟨w4.heap.size, 0, none⟩) (by first | (simp; done) | (simp; omega))).trans (by first | (simp; done) | go_simp)
          have A_f1 : w5.frozen? ⟨w4.heap.size, 1, none⟩ = false := (hc5.frozen (p := ⟨w4.heap.size, 1, none⟩) (by first | (simp; done) | (simp; omega))).trans (by first | (simp; done) | go_simp)
          have A_f2 : w5.frozen? ⟨w4.heap.size, 2, none⟩ = false := (hc5.frozen (p := ⟨w4.heap.size, 2, none⟩) (by first | (simp; done) | (simp; omega))).trans (by first | (simp; done) | go_simp)
          have A_f3 : w5.frozen? ⟨w4.heap.size, 3, none⟩ = false := (hc5.frozen (p := ⟨w4.heap.size, 3, none⟩) (by first | (simp; done) | (simp; omega))).trans (by first | (simp; done) | go_simp)
          have A_l : w4.heap.size < w5.heap.size := Nat.lt_of_lt_of_le (by first | (simp; done) | (simp; omega)) hc5.size
          replace m4 := m4.later hst5
          clear hst5
          go_loopw [16] (fun q wq => ∃ k : Nat, k ≤ n ∧ q = .int .i64 k ∧ Below w5.heap.size w5 wq) (fun q _ => n - (intOf q).toNat)
          case atStart => exact ⟨0, Nat.zero_le _, rfl, Below.refl _ _⟩
          case round =>
            obtain ⟨k, hk, rfl, hc6⟩ := hrel
            obtain ⟨w6, hw6⟩ : ∃ w6, w6 = wr := ⟨wr, rfl⟩
            subst hw6
            have hb6 : Below w.heap.size w w6 := bchain (by repeat' (first | with_reducible exact hb5 | with_reducible refine Below.drew ?_ | with_reducible refine below_drewN ?_ _ | with_reducible refine Below.alloc ?_ (by have := hb5.size; first | (simp; done) | (simp; omega) | omega) _ | with_reducible refine Below.setCell ?_ (by first | (simp; done) | (simp; omega) | omega) _)) hc6
            have hst6 : Below w5.heap.size w5 w6 := bchain (by repeat' (first | with_reducible exact Below.refl _ _ | with_reducible refine Below.drew ?_ | with_reducible refine below_drewN ?_ _ | with_reducible refine Below.alloc ?_ (by first | (simp; done) | (simp; omega) | omega) _ | with_reducible refine Below.setCell ?_ (by first | (simp; done) | (simp; omega) | omega) _)) hc6
            replace A_0 := cell_later hst6 A_0
            replace A_1 := cell_later hst6 A_1
            replace A_2 := cell_later hst6 A_2
            replace A_3 := cell_later hst6 A_3
            replace A_f0 := frozen_later hst6 A_l A_f0
            replace A_f1 := frozen_later hst6 A_l A_f1
            replace A_f2 := frozen_later hst6 A_l A_f2
            replace A_f3 := frozen_later hst6 A_l A_f3
            replace A_l := Nat.lt_of_lt_of_le A_l hst6.size
            replace m4 := m4.later hst6
            clear hst6
            by_cases hkr : k < n
            · have hkr' : (k : Int) < (n : Int) := by omega
              have hH := H_hhl.out
              obtain ⟨bb, oo, rfl, g1, g2, hcell⟩ := m4.slips (by omega)
              obtain ⟨e0, e1⟩ := hcell k (by omega)
              rw [(HA.out k hkr).1] at e0
              rw [(HA.out k hkr).2] at e1
              have hwk : IntKind.u64.wrap (k : Int) = k := by rw [IntKind.wrap_u64]; omega
              clear hcell hH
              go_wp2_with fail
              go_roundw
              case rel => exact ⟨k + 1, by omega, by go_num, hc6⟩
              case measure => simp [intOf]; omega
            · obtain rfl : n = k := by omega
              go_wp2_with fail
              go_ret
              exact ⟨rfl, by repeat' (first | with_reducible exact hb6 | with_reducible refine Below.drew ?_ | with_reducible refine below_drewN ?_ _ | with_reducible refine Below.alloc ?_ (by have := hb6.size; first | (simp; done) | (simp; omega) | omega) _ | with_reducible refine Below.setCell ?_ (by first | (simp; done) | (simp; omega) | omega) _)⟩

end Go.Proofs.Ytpfldkcbkolgnaa
