/- CfgTxtR: CfgRDec, CfgRCut, CfgRNum, CfgRText. -/
import Derived.Test.YthdldmkeoglflaaDoorCfgTxtP
import Derived.Laws.IdiomStrings
import Derived.Test.YthdldmkeoglflaaDoorCfgTxtF
import Derived.Test.YthdldmkeoglflaaDoorCfgRef
/- braidref44.Decimal. -/
namespace Go.Proofs.YthdldmkeoglflaaDoor
set_option linter.unusedSimpArgs false
set_option linter.unusedVariables false
set_option linter.unnecessarySimpa false
open Go.RowKit

def decD (m : Nat) : List UInt8 := if m = 0 then [] else Lib.decDigits m
def dgt (m : Nat) : UInt8 := UInt8.ofNat (48 + m % 10)
theorem dec_last (m : Nat) : Lib.decDigits m = decD (m / 10) ++ [dgt m] := by
  unfold decD
  by_cases h : m < 10
  · unfold dgt; rw [if_pos (by omega), dec_small h, Nat.mod_eq_of_lt h]; rfl
  · unfold dgt; rw [if_neg (by omega), dec_big h]
theorem conv_digit (W : World) (m : Nat) : (convert 43 9 (.slice (some ⟨W.heap.size, 0, none⟩) 1 1)).run Tryd.prog (W.alloc (.cells #[.int .u8 (48 + (m : Int) % 10)] 5)) = .ok (.string (bsB [dgt m])) (W.alloc (.cells #[.int .u8 (48 + (m : Int) % 10)] 5)) := by
  refine run_convert_bytes_back (P := Tryd.prog) _ _ _ 5 ⟨W.heap.size, 0, none⟩ 1 [dgt m] Tryd.underlying43 Tryd.underlying5 Tryd.underlying9 fun j hj => ?_
  obtain rfl : j = 0 := by simp at hj; omega
  have e : (([dgt m][0]'hj).toNat : Int) = 48 + (m : Int) % 10 := by
    show ((dgt m).toNat : Int) = _
    unfold dgt
    rw [dig_nat (Nat.mod_lt _ (by omega))]; omega
  rw [e]
  go_simp
set_option maxRecDepth 100000 in
set_option maxHeartbeats 4000000 in
theorem rDecimal_any (n : Nat) (hn : n < 4294967296) (w : World) :
    Calls Tryd.prog 83 #[.int .u64 n] w fun e w' =>
      e = .returned (.string (bsB (Lib.decDigits n))) ∧ Below w.heap.size w w' := by
  have hcv := fun W => conv_digit W n
  obtain ⟨D, hD⟩ : ∃ D, bsB (Lib.decDigits n) = D := ⟨_, rfl⟩
  have h0 : decD (n / 10) ++ (bsB [dgt n]).data.toList = D.data.toList := by rw [← hD, bsB_list, bsB_list, ← dec_last]
  rw [hD]
  have H_hD := Box.mk hD
  clear hD
  go_enter Tryd.func83, Tryd.ntmps83
  have hb0 := Below.refl w.heap.size w
  go_wp2_with fail
  clear hcv
  go_loopw [0, 3] (fun i s wr => ∃ (m : Nat) (x : ByteArray), i = .int .u64 m ∧ s = .string x ∧ m < 4294967296 ∧ Hid (decD m ++ x.data.toList = D.data.toList) ∧ Below w.heap.size w wr) (fun i _ _ => (intOf i).toNat)
  case atStart => exact ⟨n / 10, _, by go_num, rfl, by omega, hid h0, (by repeat' (first | with_reducible exact hb0 | with_reducible refine Below.drew ?_ | with_reducible refine below_drewN ?_ _ | with_reducible refine Below.alloc ?_ (by have := hb0.size; first | (simp; done) | (simp; omega) | omega) _ | with_reducible refine Below.setCell ?_ (by first | (simp; done) | (simp; omega) | omega) _))⟩
  case round =>
    obtain ⟨m, x, rfl, rfl, hm, hD2, hbw⟩ := hrel
    by_cases hz : m = 0
    · subst hz
      have hx : x = D := by
        have := hD2.out
        unfold decD at this
        rw [if_pos rfl, List.nil_append] at this
        rw [← bsB_of x, this, bsB_of]
      subst hx
      go_wp2_with fail
      go_ret
      exact ⟨rfl, (by repeat' (first | with_reducible exact hbw | with_reducible refine Below.drew ?_ | with_reducible refine below_drewN ?_ _ | with_reducible refine Below.alloc ?_ (by have := hbw.size; first | (simp; done) | (simp; omega) | omega) _ | with_reducible refine Below.setCell ?_ (by first | (simp; done) | (simp; omega) | omega) _))⟩
    · have hm1 : (0 : Int) < (m : Int) := by omega
      have hm2 : 0 < m := by omega
      have hcv := fun W => conv_digit W m
      have hs1 : (bsB [dgt m]).size ≤ 1 := by rw [bsB_size]; simp
      have hsx : x.size ≤ 20 := by
        have h1 := congrArg List.length hD2.out
        have h2 : x.data.toList.length = x.size := Array.length_toList
        have h3 : D.data.toList.length = (Lib.decDigits n).length := by rw [← H_hD.out, bsB_list]
        have h4 := dec_len10 9 n (by omega)
        rw [List.length_append] at h1
        omega
      have hD3 : decD (m / 10) ++ (bsB [dgt m] ++ x).data.toList = D.data.toList := by
        rw [← hD2.out]
        have : (bsB [dgt m] ++ x).data.toList = [dgt m] ++ x.data.toList := by simp [bsB]
        rw [this, ← List.append_assoc, ← dec_last]
        unfold decD; rw [if_neg hz]
      have H_hD3 := Box.mk hD3
      clear hD3
      go_wp2_with fail
      go_roundw
      case rel => exact ⟨m / 10, _, by go_num, rfl, by omega, hid H_hD3.out, (by repeat' (first | with_reducible exact hbw | with_reducible refine Below.drew ?_ | with_reducible refine below_drewN ?_ _ | with_reducible refine Below.alloc ?_ (by have := hbw.size; first | (simp; done) | (simp; omega) | omega) _ | with_reducible refine Below.setCell ?_ (by first | (simp; done) | (simp; omega) | omega) _))⟩
      case measure => simp [intOf]; omega
end Go.Proofs.YthdldmkeoglflaaDoor

/- braidref44.Cut and Number. -/
namespace Go.Proofs.YthdldmkeoglflaaDoor
set_option linter.unusedSimpArgs false
set_option linter.unusedVariables false
set_option linter.unnecessarySimpa false
open Go.RowKit

theorem info_str : (Tryd.prog.info? 9).map (fun i => (i.zero, i.size, i.bytes)) = some (some (.string ⟨#[]⟩), 1, 16) := by kernel_rfl
/-- The pieces that are still to be cut, at k, of that which begins at f. -/
def remC (c : UInt8) (l : List UInt8) (f k : Nat) : List ByteArray := (cutA c ((l.drop f).take (k - f)) (l.drop k)).map bsB
theorem remC_start (c : UInt8) (b : ByteArray) : remC c b.data.toList 0 0 = splitS c b := by unfold remC splitS cutL; simp
theorem remC_end {c : UInt8} {l : List UInt8} {f k : Nat} (h : k = l.length) : remC c l f k = [bsB ((l.drop f).take (k - f))] := by
  unfold remC; rw [h, List.drop_length]; simp [cutA]
theorem remC_on {c : UInt8} {l : List UInt8} {f k : Nat} (hf : f ≤ k) (hk : k < l.length) (h : l[k] ≠ c) : remC c l f k = remC c l f (k + 1) := by
  unfold remC
  rw [List.drop_eq_getElem_cons hk, cutA, if_neg h, take_one hf hk]
theorem remC_cut {c : UInt8} {l : List UInt8} {f k : Nat} (hk : k < l.length) (h : l[k] = c) : remC c l f k = bsB ((l.drop f).take (k - f)) :: remC c l (k + 1) (k + 1) := by
  unfold remC
  rw [List.drop_eq_getElem_cons hk, cutA, if_pos h, List.map_cons, Nat.sub_self, List.take_zero]
set_option maxRecDepth 100000 in
set_option maxHeartbeats 4000000 in
theorem rCut_any (c : UInt8) (b : ByteArray) (w : World) (hb : b.size ≤ 100000) :
    Calls Tryd.prog 15 #[.string b, .int .u8 c.toNat] w fun e w' =>
      (∃ a cp, e = .returned (.slice a (splitS c b).length cp) ∧ OwnX w' w.heap.size 9 1 (.slice a (splitS c b).length cp) (splitS c b).length ((splitS c b).map Value.string)) ∧ Below w.heap.size w w' := by
  obtain ⟨i0, hi, hz0, hz1, hz2⟩ := info_parts info_str
  obtain ⟨l, hl⟩ : ∃ l, b.data.toList = l := ⟨_, rfl⟩
  have hlen : l.length = b.size := by rw [← hl]; exact Array.length_toList
  obtain ⟨R, hR⟩ : ∃ R, splitS c b = R := ⟨_, rfl⟩
  have hRl : R.length ≤ 100001 := by rw [← hR]; have := (splitS_len c b).2; omega
  have hr0 : remC c l 0 0 = R := by rw [← hR, ← hl]; exact remC_start c b
  rw [hR]
  have H_hl := Box.mk hl
  have H_hR := Box.mk hR
  have H_hlen := Box.mk hlen
  clear hl hR hlen
  go_enter Tryd.func15, Tryd.ntmps15
  have hb0 := Below.refl w.heap.size w
  go_wp2_with fail
  go_loopw [5, 6, 7] (fun v5 v6 v7 wr => ∃ (f k : Nat) (oa : Option Addr) (oc : Nat) (done : List ByteArray), v5 = .slice oa done.length oc ∧ v6 = .int .i64 f ∧ v7 = .int .i64 k ∧ (k ≤ b.size ∧ f ≤ k ∧ Hid (done ++ remC c l f k = R) ∨ k = b.size + 1 ∧ Hid (done = R)) ∧ Below w.heap.size w wr ∧ OwnX wr w.heap.size 9 1 (.slice oa done.length oc) done.length (done.map Value.string)) (fun _ _ v7 _ => b.size + 1 - (intOf v7).toNat)
  case atStart => exact ⟨0, 0, none, 0, [], rfl, rfl, rfl, .inl ⟨Nat.zero_le _, Nat.le_refl _, hid hr0⟩, (by repeat' (first | with_reducible exact hb0 | with_reducible refine Below.drew ?_ | with_reducible refine below_drewN ?_ _ | with_reducible refine Below.alloc ?_ (by have := hb0.size; first | (simp; done) | (simp; omega) | omega) _ | with_reducible refine Below.setCell ?_ (by first | (simp; done) | (simp; omega) | omega) _)), OwnX.nil _ _ _ _⟩
  case round =>
    obtain ⟨f, k, oa, oc, done, rfl, rfl, rfl, hk, hbw, hown⟩ := hrel
    have hbs := hbw.size
    rcases hk with ⟨hkb, hfk, hrem⟩ | ⟨hk, hdone⟩
    · have hkb' : (k : Int) ≤ (b.size : Int) := by omega
      have hfk' : (f : Int) ≤ (k : Int) := by omega
      obtain ⟨x, hx⟩ : ∃ x, b.extract f k = x := ⟨_, rfl⟩
      have hx2 : x = bsB ((l.drop f).take (k - f)) := by rw [← hx, ext_bs, H_hl.out]
      by_cases hkn : k = b.size
      · have hkk : ((k : Int) == (b.size : Int)) = true := by rw [hkn]; simp
        have hdone : done ++ [x] = R := by
          have := hrem.out
          rwa [remC_end (by rw [H_hlen.out, hkn]), ← hx2] at this
        have hdl : done.length ≤ 100001 := by
          have := congrArg List.length hdone
          rw [List.length_append] at this; omega
        clear hrem
        have H_hx2 := Box.mk hx2
        have H_hdone := Box.mk hdone
        clear hx2 hdone
        subst hkn
        go_wp2_with (at_builtin; refine stop ?_)
        refine Stop.go ?_
        refine wpList_append_x _ rfl _ _ 38 rfl w.heap.size 9 i0 (.string ⟨#[]⟩) 1 16 Tryd.underlying38 hi hz0 hz1 hz2 rfl (by decide) (.slice oa done.length oc) done.length (done.map Value.string) rfl (hown.alloc _) (some ⟨wr.heap.size, 0, none⟩) 1 1 [.string x] rfl rfl (cellsAt_one _ _ _) (by intro u hu; obtain rfl := List.mem_singleton.1 hu; rfl) (by unfold maxLen; omega) (by omega) (by simp; omega) ?_
        intro a' c' W1 hown2 hg hown3
        have hb12 : Below w.heap.size w W1 := below_grownX (by repeat' (first | with_reducible exact hbw | with_reducible refine Below.drew ?_ | with_reducible refine below_drewN ?_ _ | with_reducible refine Below.alloc ?_ (by have := hbw.size; first | (simp; done) | (simp; omega) | omega) _ | with_reducible refine Below.setCell ?_ (by first | (simp; done) | (simp; omega) | omega) _)) hg (by simp; omega) (fun k hk => (hown.lt k hk).1)
        have hme : done.map Value.string ++ [Value.string x] = (done ++ [x]).map Value.string := by simp
        rw [hme] at hown2
        clear hown hg hown3 hme
        go_wp2_with fail
        go_roundw
        case rel => exact ⟨b.size + 1, b.size + 1, a', c', done ++ [x], by simp, by go_num, by go_num, .inr ⟨rfl, hid H_hdone.out⟩, (by repeat' (first | with_reducible exact hb12 | with_reducible refine Below.drew ?_ | with_reducible refine below_drewN ?_ _ | with_reducible refine Below.alloc ?_ (by have := hb12.size; first | (simp; done) | (simp; omega) | omega) _ | with_reducible refine Below.setCell ?_ (by first | (simp; done) | (simp; omega) | omega) _)), by rw [List.length_append]; exact hown2⟩
        case measure => simp [intOf]
      · have hkk : ((k : Int) == (b.size : Int)) = false := beq_eq_false_iff_ne.2 (by omega)
        have hlt : k < b.size := by omega
        have hkl : k < l.length := by rw [H_hlen.out]; exact hlt
        have hat : b[k]'hlt = l[k] := by
          have := H_hl.out
          subst this
          exact at_list b k hlt hkl
        by_cases hc : l[k] = c
        · have hcc : (((b[k]'hlt).toNat : Int) == (c.toNat : Int)) = true := by rw [hat, hc]; simp
          have hrem2 : (done ++ [x]) ++ remC c l (k + 1) (k + 1) = R := by
            rw [← hrem.out, remC_cut hkl hc, ← hx2, List.append_assoc]; rfl
          have hdl : done.length ≤ 100001 := by
            have := congrArg List.length hrem2
            rw [List.length_append, List.length_append] at this; omega
          clear hrem hat
          have H_hx2 := Box.mk hx2
          have H_hrem2 := Box.mk hrem2
          have H_hc := Box.mk hc
          clear hx2 hrem2 hc
          go_wp2_with (at_builtin; refine stop ?_)
          refine Stop.go ?_
          refine wpList_append_x _ rfl _ _ 38 rfl w.heap.size 9 i0 (.string ⟨#[]⟩) 1 16 Tryd.underlying38 hi hz0 hz1 hz2 rfl (by decide) (.slice oa done.length oc) done.length (done.map Value.string) rfl (hown.alloc _) (some ⟨wr.heap.size, 0, none⟩) 1 1 [.string x] rfl rfl (cellsAt_one _ _ _) (by intro u hu; obtain rfl := List.mem_singleton.1 hu; rfl) (by unfold maxLen; omega) (by omega) (by simp; omega) ?_
          intro a' c' W1 hown2 hg hown3
          have hb12 : Below w.heap.size w W1 := below_grownX (by repeat' (first | with_reducible exact hbw | with_reducible refine Below.drew ?_ | with_reducible refine below_drewN ?_ _ | with_reducible refine Below.alloc ?_ (by have := hbw.size; first | (simp; done) | (simp; omega) | omega) _ | with_reducible refine Below.setCell ?_ (by first | (simp; done) | (simp; omega) | omega) _)) hg (by simp; omega) (fun k hk => (hown.lt k hk).1)
          have hme : done.map Value.string ++ [Value.string x] = (done ++ [x]).map Value.string := by simp
          rw [hme] at hown2
          clear hown hg hown3 hme
          go_wp2_with fail
          go_roundw
          case rel => exact ⟨k + 1, k + 1, a', c', done ++ [x], by simp, by go_num, by go_num, .inl ⟨by omega, Nat.le_refl _, hid H_hrem2.out⟩, (by repeat' (first | with_reducible exact hb12 | with_reducible refine Below.drew ?_ | with_reducible refine below_drewN ?_ _ | with_reducible refine Below.alloc ?_ (by have := hb12.size; first | (simp; done) | (simp; omega) | omega) _ | with_reducible refine Below.setCell ?_ (by first | (simp; done) | (simp; omega) | omega) _)), by rw [List.length_append]; exact hown2⟩
          case measure => simp [intOf]; omega
        · have hcc : (((b[k]'hlt).toNat : Int) == (c.toNat : Int)) = false := beq_eq_false_iff_ne.2 (fun h => hc (by
            rw [← hat]; exact UInt8.toNat_inj.1 (by omega)))
          have hrem2 : done ++ remC c l f (k + 1) = R := by rw [← remC_on hfk hkl hc]; exact hrem.out
          clear hrem hat hc hx2 hx hkl
          have H_hrem2 := Box.mk hrem2
          clear hrem2
          go_wp2_with fail
          go_roundw
          case rel => exact ⟨f, k + 1, oa, oc, done, rfl, by go_num, by go_num, .inl ⟨by omega, by omega, hid H_hrem2.out⟩, (by repeat' (first | with_reducible exact hbw | with_reducible refine Below.drew ?_ | with_reducible refine below_drewN ?_ _ | with_reducible refine Below.alloc ?_ (by have := hbw.size; first | (simp; done) | (simp; omega) | omega) _ | with_reducible refine Below.setCell ?_ (by first | (simp; done) | (simp; omega) | omega) _)), hown⟩
          case measure => simp [intOf]; omega
    · have hk' : ¬ (k : Int) ≤ (b.size : Int) := by omega
      obtain rfl := hdone.out
      clear hk hdone
      go_wp2_with fail
      go_ret
      exact ⟨⟨oa, oc, rfl, hown⟩, (by repeat' (first | with_reducible exact hbw | with_reducible refine Below.drew ?_ | with_reducible refine below_drewN ?_ _ | with_reducible refine Below.alloc ?_ (by have := hbw.size; first | (simp; done) | (simp; omega) | omega) _ | with_reducible refine Below.setCell ?_ (by first | (simp; done) | (simp; omega) | omega) _))⟩
end Go.Proofs.YthdldmkeoglflaaDoor

/- braidref44.Number. -/
namespace Go.Proofs.YthdldmkeoglflaaDoor
set_option linter.unusedSimpArgs false
set_option linter.unusedVariables false
set_option linter.unnecessarySimpa false
open Go.RowKit

def NumOut (e : Ending) (r : Option Nat) : Prop := ∃ (v : Nat) (ok : Bool), e = .returned (.tuple #[.int .u64 v, .bool ok]) ∧ r = if ok then some v else none
theorem NumOut.no {e : Ending} {r : Option Nat} (h : e = .returned (.tuple #[.int .u64 0, .bool false])) (hr : r = none) : NumOut e r := ⟨0, false, h, hr⟩
set_option maxRecDepth 100000 in
set_option maxHeartbeats 4000000 in
theorem rNumber_any (b : ByteArray) (m : Nat) (w : World) :
    Calls Tryd.prog 63 #[.string b, .int .u64 m] w fun e w' =>
      NumOut e (numR b.data.toList m) ∧ Below w.heap.size w w' := by
  obtain ⟨l, hl⟩ : ∃ l, b.data.toList = l := ⟨_, rfl⟩
  have hlen : l.length = b.size := by rw [← hl]; exact Array.length_toList
  obtain ⟨R, hR⟩ : ∃ R, numR l m = R := ⟨_, rfl⟩
  rw [hl, hR]
  by_cases h1 : b.size < 1
  · have h1' : (b.size : Int) < 1 := by omega
    have hn : R = none := by rw [← hR]; unfold numR; rw [if_pos (by omega)]
    have H_hl := Box.mk hl
    have H_hlen := Box.mk hlen
    have H_hR := Box.mk hR
    have H_hn := Box.mk hn
    clear hl hlen hR hn
    go_enter Tryd.func63, Tryd.ntmps63
    have hb0 := Below.refl w.heap.size w
    go_wp2_with fail
    go_ret2
    exact ⟨.no rfl H_hn.out, (by repeat' (first | with_reducible exact hb0 | with_reducible refine Below.drew ?_ | with_reducible refine below_drewN ?_ _ | with_reducible refine Below.alloc ?_ (by have := hb0.size; first | (simp; done) | (simp; omega) | omega) _ | with_reducible refine Below.setCell ?_ (by first | (simp; done) | (simp; omega) | omega) _))⟩
  have h1' : ¬ (b.size : Int) < 1 := by omega
  by_cases h2 : 19 < b.size
  · have h2' : (19 : Int) < (b.size : Int) := by omega
    have hn : R = none := by rw [← hR]; unfold numR; rw [if_pos (by omega)]
    have H_hl := Box.mk hl
    have H_hlen := Box.mk hlen
    have H_hR := Box.mk hR
    have H_hn := Box.mk hn
    clear hl hlen hR hn
    go_enter Tryd.func63, Tryd.ntmps63
    have hb0 := Below.refl w.heap.size w
    go_wp2_with fail
    go_ret2
    exact ⟨.no rfl H_hn.out, (by repeat' (first | with_reducible exact hb0 | with_reducible refine Below.drew ?_ | with_reducible refine below_drewN ?_ _ | with_reducible refine Below.alloc ?_ (by have := hb0.size; first | (simp; done) | (simp; omega) | omega) _ | with_reducible refine Below.setCell ?_ (by first | (simp; done) | (simp; omega) | omega) _))⟩
  have h2' : ¬ (19 : Int) < (b.size : Int) := by omega
  have h0 : 0 < b.size := by omega
  have h0' : (0 : Int) < (b.size : Int) := by omega
  have hat : ∀ k (h : k < b.size) (h2 : k < l.length), b[k]'h = l[k] := fun k h h2 => by
    subst hl
    exact at_list b k h h2
  have hhd : l.head? = some (b[0]'h0) := by
    rw [hat 0 h0 (by omega), List.head?_eq_getElem?, List.getElem?_eq_getElem (by omega)]
  by_cases h3 : 1 < b.size ∧ (b[0]'h0).toNat = 48
  · obtain ⟨h3, h4⟩ := h3
    have h3' : (1 : Int) < (b.size : Int) := by omega
    have h4' : (((b[0]'h0).toNat : Int) == 48) = true := by rw [h4]; rfl
    have hn : R = none := by
      rw [← hR]; unfold numR
      rw [if_pos (.inr (.inr ⟨by omega, by rw [hhd, show b[0]'h0 = 48 from UInt8.toNat_inj.1 h4]⟩))]
    clear hat
    have H_hl := Box.mk hl
    have H_hlen := Box.mk hlen
    have H_hR := Box.mk hR
    have H_hn := Box.mk hn
    have H_hhd := Box.mk hhd
    have H_h4 := Box.mk h4
    clear hl hlen hR hn hhd h4
    go_enter Tryd.func63, Tryd.ntmps63
    have hb0 := Below.refl w.heap.size w
    go_wp2_with fail
    go_ret2
    exact ⟨.no rfl H_hn.out, (by repeat' (first | with_reducible exact hb0 | with_reducible refine Below.drew ?_ | with_reducible refine below_drewN ?_ _ | with_reducible refine Below.alloc ?_ (by have := hb0.size; first | (simp; done) | (simp; omega) | omega) _ | with_reducible refine Below.setCell ?_ (by first | (simp; done) | (simp; omega) | omega) _))⟩
  have hR2 : R = (valD 0 l).bind fun n => if n ≤ m then some n else none := by
    rw [← hR]; unfold numR
    rw [if_neg]
    rintro (h | h | ⟨h, h'⟩)
    · omega
    · omega
    · refine h3 ⟨by omega, ?_⟩
      rw [hhd, Option.some.injEq] at h'
      rw [h']; rfl
  have hcond : (decide ((1 : Int) < (b.size : Int)) = true ∧ (((b[0]'h0).toNat : Int) == 48) = false) ∨ ¬ (1 : Int) < (b.size : Int) := by
    by_cases h : 1 < b.size
    · exact .inl ⟨decide_eq_true (by omega), beq_eq_false_iff_ne.2 (fun e => h3 ⟨h, by omega⟩)⟩
    · exact .inr (by omega)
  have H_hhd := Box.mk hhd
  have H_h3 := Box.mk h3
  clear hhd h3
  have key : ∀ Q : Prop, (((1 : Int) < (b.size : Int) → (((b[0]'h0).toNat : Int) == 48) = false → Q)) → (¬ (1 : Int) < (b.size : Int) → Q) → Q := fun Q q1 q2 => by
    rcases hcond with ⟨c1, c2⟩ | c
    · exact q1 (of_decide_eq_true c1) c2
    · exact q2 c
  clear hcond
  refine key _ ?_ ?_ <;> clear key
  · intro c1 c2
    have H_hl := Box.mk hl
    have H_hR := Box.mk hR
    have H_hlen := Box.mk hlen
    have H_hR2 := Box.mk hR2
    clear hl hR hlen hR2
    go_enter Tryd.func63, Tryd.ntmps63
    have hb0 := Below.refl w.heap.size w
    go_wp2_with fail
    go_loopw [6, 7] (fun v6 v7 wr => ∃ (acc k : Nat), v6 = .int .u64 acc ∧ v7 = .int .i64 k ∧ k ≤ b.size ∧ Hid (acc < 10 ^ k ∧ valD 0 l = valD acc (l.drop k)) ∧ Below w.heap.size w wr) (fun _ v7 _ => b.size - (intOf v7).toNat)
    case atStart => exact ⟨0, 0, rfl, rfl, Nat.zero_le _, hid ⟨by omega, by rw [List.drop_zero]⟩, (by repeat' (first | with_reducible exact hb0 | with_reducible refine Below.drew ?_ | with_reducible refine below_drewN ?_ _ | with_reducible refine Below.alloc ?_ (by have := hb0.size; first | (simp; done) | (simp; omega) | omega) _ | with_reducible refine Below.setCell ?_ (by first | (simp; done) | (simp; omega) | omega) _))⟩
    case round =>
      obtain ⟨acc, k, rfl, rfl, hk, hv, hbw⟩ := hrel
      by_cases hlt : k < b.size
      · have hlt' : (k : Int) < (b.size : Int) := by omega
        have hkl : k < l.length := by rw [H_hlen.out]; exact hlt
        have hc := hat k hlt hkl
        have hpow : (10 : Nat) ^ k ≤ 10 ^ 18 := Nat.pow_le_pow_right (by omega) (by omega)
        have hacc : acc < 1000000000000000000 := Nat.lt_of_lt_of_le hv.out.1 hpow
        have hval := hv.out.2
        rw [List.drop_eq_getElem_cons hkl, valD, ← hc] at hval
        have hp1 : acc < 10 ^ k := hv.out.1
        clear hpow hc
        by_cases d1 : (b[k]'hlt).toNat < 48
        · have d1' : ((b[k]'hlt).toNat : Int) < 48 := by omega
          have hn : R = none := by rw [H_hR2.out, hval, if_pos (.inl d1)]; rfl
          clear hval hp1 hat hkl
          have H_hn := Box.mk hn
          clear hn
          go_wp2_with fail
          go_ret2
          exact ⟨.no rfl H_hn.out, (by repeat' (first | with_reducible exact hbw | with_reducible refine Below.drew ?_ | with_reducible refine below_drewN ?_ _ | with_reducible refine Below.alloc ?_ (by have := hbw.size; first | (simp; done) | (simp; omega) | omega) _ | with_reducible refine Below.setCell ?_ (by first | (simp; done) | (simp; omega) | omega) _))⟩
        · have d1' : ¬ ((b[k]'hlt).toNat : Int) < 48 := by omega
          by_cases d2 : 57 < (b[k]'hlt).toNat
          · have d2' : (57 : Int) < ((b[k]'hlt).toNat : Int) := by omega
            have hn : R = none := by rw [H_hR2.out, hval, if_pos (.inr d2)]; rfl
            clear hval hp1 hat hkl
            have H_hn := Box.mk hn
            clear hn
            go_wp2_with fail
            go_ret2
            exact ⟨.no rfl H_hn.out, (by repeat' (first | with_reducible exact hbw | with_reducible refine Below.drew ?_ | with_reducible refine below_drewN ?_ _ | with_reducible refine Below.alloc ?_ (by have := hbw.size; first | (simp; done) | (simp; omega) | omega) _ | with_reducible refine Below.setCell ?_ (by first | (simp; done) | (simp; omega) | omega) _))⟩
          · have d2' : ¬ (57 : Int) < ((b[k]'hlt).toNat : Int) := by omega
            rw [if_neg (by omega)] at hval
            have hp2 : 10 * acc + ((b[k]'hlt).toNat - 48) < 10 ^ (k + 1) := by rw [Nat.pow_succ]; omega
            have hnew : 10 * (acc : Int) + (((b[k]'hlt).toNat : Int) - 48) = ((10 * acc + ((b[k]'hlt).toNat - 48) : Nat) : Int) := by omega
            obtain ⟨A, hA⟩ : ∃ A, 10 * acc + ((b[k]'hlt).toNat - 48) = A := ⟨_, rfl⟩
            rw [hA] at hval hp2 hnew
            clear hp1 hat hkl
            have H_hval := Box.mk hval
            have H_hp2 := Box.mk hp2
            have H_hA := Box.mk hA
            have H_hnew := Box.mk hnew
            clear hval hp2 hA hnew
            go_wp2_with fail
            go_roundw
            case rel => exact ⟨A, k + 1, by rw [← H_hnew.out], by go_num, by omega, hid ⟨H_hp2.out, H_hval.out⟩, (by repeat' (first | with_reducible exact hbw | with_reducible refine Below.drew ?_ | with_reducible refine below_drewN ?_ _ | with_reducible refine Below.alloc ?_ (by have := hbw.size; first | (simp; done) | (simp; omega) | omega) _ | with_reducible refine Below.setCell ?_ (by first | (simp; done) | (simp; omega) | omega) _))⟩
            case measure => simp [intOf]; omega
      · obtain rfl : k = b.size := by omega
        have hR3 : R = if acc ≤ m then some acc else none := by
          have := hv.out.2
          rw [List.drop_eq_nil_of_le (by rw [H_hlen.out]; exact Nat.le_refl _), valD] at this
          rw [H_hR2.out, this]; rfl
        clear hat hv
        have H_hR3 := Box.mk hR3
        clear hR3
        go_wp2_with fail
        go_ret2
        refine ⟨⟨acc, decide (acc ≤ m), rfl, ?_⟩, (by repeat' (first | with_reducible exact hbw | with_reducible refine Below.drew ?_ | with_reducible refine below_drewN ?_ _ | with_reducible refine Below.alloc ?_ (by have := hbw.size; first | (simp; done) | (simp; omega) | omega) _ | with_reducible refine Below.setCell ?_ (by first | (simp; done) | (simp; omega) | omega) _))⟩
        rw [H_hR3.out]
        by_cases h : acc ≤ m
        · rw [if_pos h, decide_eq_true h]; rfl
        · rw [if_neg h, decide_eq_false h]; rfl
  · intro c1
    have H_hl := Box.mk hl
    have H_hR := Box.mk hR
    have H_hlen := Box.mk hlen
    have H_hR2 := Box.mk hR2
    clear hl hR hlen hR2
    go_enter Tryd.func63, Tryd.ntmps63
    have hb0 := Below.refl w.heap.size w
    go_wp2_with fail
    go_loopw [6, 7] (fun v6 v7 wr => ∃ (acc k : Nat), v6 = .int .u64 acc ∧ v7 = .int .i64 k ∧ k ≤ b.size ∧ Hid (acc < 10 ^ k ∧ valD 0 l = valD acc (l.drop k)) ∧ Below w.heap.size w wr) (fun _ v7 _ => b.size - (intOf v7).toNat)
    case atStart => exact ⟨0, 0, rfl, rfl, Nat.zero_le _, hid ⟨by omega, by rw [List.drop_zero]⟩, (by repeat' (first | with_reducible exact hb0 | with_reducible refine Below.drew ?_ | with_reducible refine below_drewN ?_ _ | with_reducible refine Below.alloc ?_ (by have := hb0.size; first | (simp; done) | (simp; omega) | omega) _ | with_reducible refine Below.setCell ?_ (by first | (simp; done) | (simp; omega) | omega) _))⟩
    case round =>
      obtain ⟨acc, k, rfl, rfl, hk, hv, hbw⟩ := hrel
      by_cases hlt : k < b.size
      · have hlt' : (k : Int) < (b.size : Int) := by omega
        have hkl : k < l.length := by rw [H_hlen.out]; exact hlt
        have hc := hat k hlt hkl
        have hpow : (10 : Nat) ^ k ≤ 10 ^ 18 := Nat.pow_le_pow_right (by omega) (by omega)
        have hacc : acc < 1000000000000000000 := Nat.lt_of_lt_of_le hv.out.1 hpow
        have hval := hv.out.2
        rw [List.drop_eq_getElem_cons hkl, valD, ← hc] at hval
        have hp1 : acc < 10 ^ k := hv.out.1
        clear hpow hc
        by_cases d1 : (b[k]'hlt).toNat < 48
        · have d1' : ((b[k]'hlt).toNat : Int) < 48 := by omega
          have hn : R = none := by rw [H_hR2.out, hval, if_pos (.inl d1)]; rfl
          clear hval hp1 hat hkl
          have H_hn := Box.mk hn
          clear hn
          go_wp2_with fail
          go_ret2
          exact ⟨.no rfl H_hn.out, (by repeat' (first | with_reducible exact hbw | with_reducible refine Below.drew ?_ | with_reducible refine below_drewN ?_ _ | with_reducible refine Below.alloc ?_ (by have := hbw.size; first | (simp; done) | (simp; omega) | omega) _ | with_reducible refine Below.setCell ?_ (by first | (simp; done) | (simp; omega) | omega) _))⟩
        · have d1' : ¬ ((b[k]'hlt).toNat : Int) < 48 := by omega
          by_cases d2 : 57 < (b[k]'hlt).toNat
          · have d2' : (57 : Int) < ((b[k]'hlt).toNat : Int) := by omega
            have hn : R = none := by rw [H_hR2.out, hval, if_pos (.inr d2)]; rfl
            clear hval hp1 hat hkl
            have H_hn := Box.mk hn
            clear hn
            go_wp2_with fail
            go_ret2
            exact ⟨.no rfl H_hn.out, (by repeat' (first | with_reducible exact hbw | with_reducible refine Below.drew ?_ | with_reducible refine below_drewN ?_ _ | with_reducible refine Below.alloc ?_ (by have := hbw.size; first | (simp; done) | (simp; omega) | omega) _ | with_reducible refine Below.setCell ?_ (by first | (simp; done) | (simp; omega) | omega) _))⟩
          · have d2' : ¬ (57 : Int) < ((b[k]'hlt).toNat : Int) := by omega
            rw [if_neg (by omega)] at hval
            have hp2 : 10 * acc + ((b[k]'hlt).toNat - 48) < 10 ^ (k + 1) := by rw [Nat.pow_succ]; omega
            have hnew : 10 * (acc : Int) + (((b[k]'hlt).toNat : Int) - 48) = ((10 * acc + ((b[k]'hlt).toNat - 48) : Nat) : Int) := by omega
            obtain ⟨A, hA⟩ : ∃ A, 10 * acc + ((b[k]'hlt).toNat - 48) = A := ⟨_, rfl⟩
            rw [hA] at hval hp2 hnew
            clear hp1 hat hkl
            have H_hval := Box.mk hval
            have H_hp2 := Box.mk hp2
            have H_hA := Box.mk hA
            have H_hnew := Box.mk hnew
            clear hval hp2 hA hnew
            go_wp2_with fail
            go_roundw
            case rel => exact ⟨A, k + 1, by rw [← H_hnew.out], by go_num, by omega, hid ⟨H_hp2.out, H_hval.out⟩, (by repeat' (first | with_reducible exact hbw | with_reducible refine Below.drew ?_ | with_reducible refine below_drewN ?_ _ | with_reducible refine Below.alloc ?_ (by have := hbw.size; first | (simp; done) | (simp; omega) | omega) _ | with_reducible refine Below.setCell ?_ (by first | (simp; done) | (simp; omega) | omega) _))⟩
            case measure => simp [intOf]; omega
      · obtain rfl : k = b.size := by omega
        have hR3 : R = if acc ≤ m then some acc else none := by
          have := hv.out.2
          rw [List.drop_eq_nil_of_le (by rw [H_hlen.out]; exact Nat.le_refl _), valD] at this
          rw [H_hR2.out, this]; rfl
        clear hat hv
        have H_hR3 := Box.mk hR3
        clear hR3
        go_wp2_with fail
        go_ret2
        refine ⟨⟨acc, decide (acc ≤ m), rfl, ?_⟩, (by repeat' (first | with_reducible exact hbw | with_reducible refine Below.drew ?_ | with_reducible refine below_drewN ?_ _ | with_reducible refine Below.alloc ?_ (by have := hbw.size; first | (simp; done) | (simp; omega) | omega) _ | with_reducible refine Below.setCell ?_ (by first | (simp; done) | (simp; omega) | omega) _))⟩
        rw [H_hR3.out]
        by_cases h : acc ≤ m
        · rw [if_pos h, decide_eq_true h]; rfl
        · rw [if_neg h, decide_eq_false h]; rfl
end Go.Proofs.YthdldmkeoglflaaDoor

/- braidref44.text, Text and Public. -/
namespace Go.Proofs.YthdldmkeoglflaaDoor
set_option linter.unusedSimpArgs false
set_option linter.unusedVariables false
set_option linter.unnecessarySimpa false
open Go.RowKit

set_option maxHeartbeats 1000000 in
theorem rwords_any (w : World) :
    Calls Tryd.prog 82 #[] w fun e w' =>
      e = .returned (.agg #[.string ⟨#[119, 111, 114, 107, 101, 114, 115]⟩, .string ⟨#[115, 104, 97, 114, 100, 115]⟩, .string ⟨#[115, 116, 111, 114, 101]⟩, .string ⟨#[112, 101, 110, 100, 105, 110, 103]⟩, .string ⟨#[105, 110, 98, 111, 120]⟩, .string ⟨#[113, 117, 101, 117, 101]⟩, .string ⟨#[115, 117, 98, 115]⟩, .string ⟨#[115, 101, 115, 115, 105, 111, 110, 115]⟩, .string ⟨#[99, 97, 108, 108, 115]⟩]) ∧ Below w.heap.size w w' := by
  go_enter Tryd.func82, Tryd.ntmps82
  have hb0 := Below.refl w.heap.size w
  go_wp2_with fail
  refine bodyPost_ret (v := .agg #[.string ⟨#[119, 111, 114, 107, 101, 114, 115]⟩, .string ⟨#[115, 104, 97, 114, 100, 115]⟩, .string ⟨#[115, 116, 111, 114, 101]⟩, .string ⟨#[112, 101, 110, 100, 105, 110, 103]⟩, .string ⟨#[105, 110, 98, 111, 120]⟩, .string ⟨#[113, 117, 101, 117, 101]⟩, .string ⟨#[115, 117, 98, 115]⟩, .string ⟨#[115, 101, 115, 115, 105, 111, 110, 115]⟩, .string ⟨#[99, 97, 108, 108, 115]⟩]) (by simp [results, Tryd.results82, go_sem, *]) rfl ⟨rfl, (by repeat' (first | with_reducible exact hb0 | with_reducible refine Below.drew ?_ | with_reducible refine below_drewN ?_ _ | with_reducible refine Below.alloc ?_ (by have := hb0.size; first | (simp; done) | (simp; omega) | omega) _ | with_reducible refine Below.setCell ?_ (by first | (simp; done) | (simp; omega) | omega) _))⟩
theorem cellW {w : World} {B k : Nat} (h : CellsAt w (some ⟨B, 0, none⟩) (wordsB.map Value.string)) (hk : k < 9) : w.cell? ⟨B, k, none⟩ = some (.string (wordsB[k]?.getD ⟨#[]⟩)) := by
  rcases h with h | ⟨b, o, e, h⟩
  · simp [wordsB] at h
  · cases e
    have hl : k < wordsB.length := hk
    have := h k (.string (wordsB[k]?.getD ⟨#[]⟩)) (by rw [List.getElem?_map, List.getElem?_eq_getElem hl]; rfl)
    rwa [Nat.zero_add] at this
theorem words_l : wordsB.map Value.string = [.string ⟨#[119, 111, 114, 107, 101, 114, 115]⟩, .string ⟨#[115, 104, 97, 114, 100, 115]⟩, .string ⟨#[115, 116, 111, 114, 101]⟩, .string ⟨#[112, 101, 110, 100, 105, 110, 103]⟩, .string ⟨#[105, 110, 98, 111, 120]⟩, .string ⟨#[113, 117, 101, 117, 101]⟩, .string ⟨#[115, 117, 98, 115]⟩, .string ⟨#[115, 101, 115, 115, 105, 111, 110, 115]⟩, .string ⟨#[99, 97, 108, 108, 115]⟩] := rfl
theorem bs_append (a b : List UInt8) : bsB a ++ bsB b = bsB (a ++ b) := by
  rw [← bsB_of (bsB a ++ bsB b)]
  congr 1
set_option maxRecDepth 100000 in
set_option maxHeartbeats 8000000 in
theorem rtext_any (l0 l1 l2 l3 l4 l5 l6 l7 l8 : Int) (s : Int) (ps : Peers) (a : Option Addr) (c : Nat) (w : World) (hS : SIn w s ps a) (hcv : CV (⟨l0, l1, l2, l3, l4, l5, l6, l7, l8⟩ : Lim) s ps) :
    Calls Tryd.prog 62 #[.agg #[.int .i64 l0, .int .i64 l1, .int .i64 l2, .int .i64 l3, .int .i64 l4, .int .i64 l5, .int .i64 l6, .int .i64 l7, .int .i64 l8, .int .u32 s, .slice a ps.length c]] w fun e w' =>
      e = .returned (.string (bsB (textL (⟨l0, l1, l2, l3, l4, l5, l6, l7, l8⟩ : Lim) s ps))) ∧ Below w.heap.size w w' := by
  obtain ⟨L, hL⟩ : ∃ L, L = (⟨l0, l1, l2, l3, l4, l5, l6, l7, l8⟩ : Lim) := ⟨_, rfl⟩
  have hll : L.l.map (Value.int .i64) = [.int .i64 l0, .int .i64 l1, .int .i64 l2, .int .i64 l3, .int .i64 l4, .int .i64 l5, .int .i64 l6, .int .i64 l7, .int .i64 l8] := by rw [hL]; rfl
  rw [← hL] at hcv ⊢
  have hfit := hcv.fit
  have hpl8 := hcv.len
  have hs0 := hS.s0
  have hs4 := hS.s4
  have hw64 : IntKind.u64.wrap s = s := by rw [IntKind.wrap_u64]; omega
  have Hc0 := hid hS.cells
  have hkeys := hS.keys
  have hnm : ∀ k, k < ps.length → (nm ps k).size ≤ 12 := fun k hk => okN_le (hcv.okAt _ (ps_mem hk)).1
  have hdec : ∀ (N : Nat), N < 4294967296 → ∀ W, Calls Tryd.prog 83 #[.int .u64 N] W fun e w' => e = .returned (.string (bsB (Lib.decDigits N))) ∧ Below W.heap.size W w' := fun N hN W => rDecimal_any N hN W
  have H_hL := Box.mk hL
  have H_hll := Box.mk hll
  have H_hcv := Box.mk hcv
  have H_hfit := Box.mk hfit
  have H_hkeys := Box.mk hkeys
  have H_hnm := Box.mk hnm
  have H_hdec := Box.mk hdec
  clear hL hll hcv hfit hkeys hnm hdec
  go_enter Tryd.func62, Tryd.ntmps62
  have hb0 := Below.refl w.heap.size w
  go_wp2_with fail
  with_reducible refine (rlimits_any l0 l1 l2 l3 l4 l5 l6 l7 l8 _).mono ?_
  rintro e w1 ⟨rfl, hc1⟩
  have hb1 : Below w.heap.size w w1 := bchain (by repeat' (first | with_reducible exact hb0 | with_reducible refine Below.drew ?_ | with_reducible refine below_drewN ?_ _ | with_reducible refine Below.alloc ?_ (by have := hb0.size; first | (simp; done) | (simp; omega) | omega) _ | with_reducible refine Below.setCell ?_ (by first | (simp; done) | (simp; omega) | omega) _)) hc1
  have X_0 : w1.cell? ⟨w.heap.size, 0, none⟩ = some (.int .i64 l0) := (hc1.cell (p := ⟨w.heap.size, 0, none⟩) (by first | (simp; done) | (simp; omega))).trans (by first | (simp; done) | go_simp)
  have X_1 : w1.cell? ⟨w.heap.size, 1, none⟩ = some (.int .i64 l1) := (hc1.cell (p := ⟨w.heap.size, 1, none⟩) (by first | (simp; done) | (simp; omega))).trans (by first | (simp; done) | go_simp)
  have X_2 : w1.cell? ⟨w.heap.size, 2, none⟩ = some (.int .i64 l2) := (hc1.cell (p := ⟨w.heap.size, 2, none⟩) (by first | (simp; done) | (simp; omega))).trans (by first | (simp; done) | go_simp)
  have X_3 : w1.cell? ⟨w.heap.size, 3, none⟩ = some (.int .i64 l3) := (hc1.cell (p := ⟨w.heap.size, 3, none⟩) (by first | (simp; done) | (simp; omega))).trans (by first | (simp; done) | go_simp)
  have X_4 : w1.cell? ⟨w.heap.size, 4, none⟩ = some (.int .i64 l4) := (hc1.cell (p := ⟨w.heap.size, 4, none⟩) (by first | (simp; done) | (simp; omega))).trans (by first | (simp; done) | go_simp)
  have X_5 : w1.cell? ⟨w.heap.size, 5, none⟩ = some (.int .i64 l5) := (hc1.cell (p := ⟨w.heap.size, 5, none⟩) (by first | (simp; done) | (simp; omega))).trans (by first | (simp; done) | go_simp)
  have X_6 : w1.cell? ⟨w.heap.size, 6, none⟩ = some (.int .i64 l6) := (hc1.cell (p := ⟨w.heap.size, 6, none⟩) (by first | (simp; done) | (simp; omega))).trans (by first | (simp; done) | go_simp)
  have X_7 : w1.cell? ⟨w.heap.size, 7, none⟩ = some (.int .i64 l7) := (hc1.cell (p := ⟨w.heap.size, 7, none⟩) (by first | (simp; done) | (simp; omega))).trans (by first | (simp; done) | go_simp)
  have X_8 : w1.cell? ⟨w.heap.size, 8, none⟩ = some (.int .i64 l8) := (hc1.cell (p := ⟨w.heap.size, 8, none⟩) (by first | (simp; done) | (simp; omega))).trans (by first | (simp; done) | go_simp)
  have X_9 : w1.cell? ⟨w.heap.size, 9, none⟩ = some (.int .u32 s) := (hc1.cell (p := ⟨w.heap.size, 9, none⟩) (by first | (simp; done) | (simp; omega))).trans (by first | (simp; done) | go_simp)
  have X_10 : w1.cell? ⟨w.heap.size, 10, none⟩ = some (.slice a ps.length c) := (hc1.cell (p := ⟨w.heap.size, 10, none⟩) (by first | (simp; done) | (simp; omega))).trans (by first | (simp; done) | go_simp)
  have X_l : w.heap.size < w1.heap.size := Nat.lt_of_lt_of_le (by first | (simp; done) | (simp; omega)) hc1.size
  clear hc1 hb0
  go_wp2_with fail
  with_reducible refine (rwords_any _).mono ?_
  rintro e w2 ⟨rfl, hc2⟩
  have hb2 : Below w.heap.size w w2 := bchain (by repeat' (first | with_reducible exact hb1 | with_reducible refine Below.drew ?_ | with_reducible refine below_drewN ?_ _ | with_reducible refine Below.alloc ?_ (by have := hb1.size; first | (simp; done) | (simp; omega) | omega) _ | with_reducible refine Below.setCell ?_ (by first | (simp; done) | (simp; omega) | omega) _)) hc2
  have hst2 : Below w1.heap.size w1 w2 := bchain (by repeat' (first | with_reducible exact Below.refl _ _ | with_reducible refine Below.drew ?_ | with_reducible refine below_drewN ?_ _ | with_reducible refine Below.alloc ?_ (by first | (simp; done) | (simp; omega) | omega) _ | with_reducible refine Below.setCell ?_ (by first | (simp; done) | (simp; omega) | omega) _)) hc2
  replace X_0 := cell_later hst2 X_0
  replace X_1 := cell_later hst2 X_1
  replace X_2 := cell_later hst2 X_2
  replace X_3 := cell_later hst2 X_3
  replace X_4 := cell_later hst2 X_4
  replace X_5 := cell_later hst2 X_5
  replace X_6 := cell_later hst2 X_6
  replace X_7 := cell_later hst2 X_7
  replace X_8 := cell_later hst2 X_8
  replace X_9 := cell_later hst2 X_9
  replace X_10 := cell_later hst2 X_10
  replace X_l := Nat.lt_of_lt_of_le X_l hst2.size
  clear hst2
  clear hc2 hb1
  have hXl := X_l
  go_wp2_with fail
  go_loopw [3, 6] (fun v3 v6 wr => ∃ k : Nat, k ≤ 9 ∧ v6 = .int .i64 k ∧ v3 = .string (bsB (linesL L k)) ∧ (linesL L k).length ≤ 100 * k ∧ Below w.heap.size w wr ∧ CellsAt wr (some ⟨w2.heap.size, 0, none⟩) (L.l.map (Value.int .i64)) ∧ CellsAt wr (some ⟨w2.heap.size + 1, 0, none⟩) (wordsB.map Value.string) ∧ wr.cell? ⟨w.heap.size, 9, none⟩ = some (.int .u32 s) ∧ wr.cell? ⟨w.heap.size, 10, none⟩ = some (.slice a ps.length c)) (fun _ v6 _ => 9 - (intOf v6).toNat)
  case atStart => exact ⟨0, Nat.zero_le _, rfl, rfl, by simp [linesL], (by repeat' (first | with_reducible exact hb2 | with_reducible refine Below.drew ?_ | with_reducible refine below_drewN ?_ _ | with_reducible refine Below.alloc ?_ (by have := hb2.size; first | (simp; done) | (simp; omega) | omega) _ | with_reducible refine Below.setCell ?_ (by first | (simp; done) | (simp; omega) | omega) _)), by rw [H_hll.out]; exact cells9 (by go_simp) (by go_simp) (by go_simp) (by go_simp) (by go_simp) (by go_simp) (by go_simp) (by go_simp) (by go_simp), by rw [words_l]; exact cells9 (by go_simp) (by go_simp) (by go_simp) (by go_simp) (by go_simp) (by go_simp) (by go_simp) (by go_simp) (by go_simp), by go_simp, by go_simp⟩
  case round =>
    obtain ⟨k, hk9, rfl, rfl, hll2, hbw, hCL, hCW, Y_0, Y_1⟩ := hrel
    have Y_l : w.heap.size < wr.heap.size := World.block_lt_of_cell? _ _ Y_1
    by_cases hlt : k < 9
    · have hlt' : (k : Int) < 9 := by omega
      obtain ⟨n1, n40⟩ := fit_rng H_hfit.out hlt
      obtain ⟨N, hN⟩ : ∃ N : Nat, L.l[k]?.getD 0 = (N : Int) := ⟨(L.l[k]?.getD 0).toNat, by omega⟩
      have c0 := cellL hCL hlt
      have d0 := cellW hCW hlt
      have hwl := words_len k
      rw [hN] at c0 n40
      have hwN : IntKind.u64.wrap (N : Int) = N := by rw [IntKind.wrap_u64]; omega
      have hline : lineW L k = (wordsB[k]?.getD ⟨#[]⟩).data.toList ++ [32] ++ Lib.decDigits N ++ [10] := by unfold lineW; rw [hN]; rfl
      obtain ⟨wd, hwd⟩ : ∃ wd, wordsB[k]?.getD ⟨#[]⟩ = wd := ⟨_, rfl⟩
      rw [hwd] at hwl d0 hline
      have hcall := H_hdec.out N (by omega)
      obtain ⟨D, hD⟩ : ∃ D : ByteArray, bsB (Lib.decDigits N) = D := ⟨_, rfl⟩
      rw [hD] at hcall
      have hDl : D.size ≤ 20 := by
        rw [← hD, bsB_size]
        have := dec_len N (by omega)
        omega
      obtain ⟨T, hT⟩ : ∃ T : ByteArray, bsB (linesL L k) = T := ⟨_, rfl⟩
      have hTl : T.size ≤ 100 * k := by rw [← hT, bsB_size]; exact hll2
      have hlen : (linesL L (k + 1)).length ≤ 100 * (k + 1) := by
        rw [linesL_succ, hline]
        have := dec_len N (by omega)
        have h2 : wd.data.toList.length = wd.size := Array.length_toList
        simp only [List.length_append, List.length_cons, List.length_nil]
        omega
      have hnext : T ++ (wd ++ (⟨#[32]⟩ : ByteArray) ++ D ++ (⟨#[10]⟩ : ByteArray)) = bsB (linesL L (k + 1)) := by
        rw [linesL_succ, hline, ← hT, ← hD, ← bsB_of wd, show (⟨#[32]⟩ : ByteArray) = bsB [32] from rfl, show (⟨#[10]⟩ : ByteArray) = bsB [10] from rfl, bs_append, bs_append, bs_append, bs_append, bsB_list]
      simp only [hT]
      have H_hN := Box.mk hN
      have H_hline := Box.mk hline
      have H_hwd := Box.mk hwd
      have H_hD := Box.mk hD
      have H_hcall := Box.mk hcall
      have H_hT := Box.mk hT
      have H_hlen := Box.mk hlen
      have H_hnext := Box.mk hnext
      have H_n1 := Box.mk n1
      clear hN hline hwd hD hcall hT hlen hnext n1
      clear hll2
      go_wp2_with fail
      refine wp_gen fun w11 hc11 => ?_
      have hb11 : Below w.heap.size w w11 := bchain (by repeat' (first | with_reducible exact hbw | with_reducible refine Below.drew ?_ | with_reducible refine below_drewN ?_ _ | with_reducible refine Below.alloc ?_ (by have := hbw.size; first | (simp; done) | (simp; omega) | omega) _ | with_reducible refine Below.setCell ?_ (by first | (simp; done) | (simp; omega) | omega) _)) hc11
      have hst11 : Below wr.heap.size wr w11 := bchain (by repeat' (first | with_reducible exact Below.refl _ _ | with_reducible refine Below.drew ?_ | with_reducible refine below_drewN ?_ _ | with_reducible refine Below.alloc ?_ (by first | (simp; done) | (simp; omega) | omega) _ | with_reducible refine Below.setCell ?_ (by first | (simp; done) | (simp; omega) | omega) _)) hc11
      replace Y_0 := cell_later hst11 Y_0
      replace Y_1 := cell_later hst11 Y_1
      replace Y_l := Nat.lt_of_lt_of_le Y_l hst11.size
      replace hCL := hCL.later hst11
      replace hCW := hCW.later hst11
      clear hst11
      have c1 := cellL hCL hlt
      have d1 := cellW hCW hlt
      rw [H_hN.out] at c1
      rw [H_hwd.out] at d1
      have KL := cell_on c1
      have KD := cell_on d1
      clear c1 d1
      refine wp_region_on (by kernel_rfl) (by kernel_rfl) ?_
      repeat (go_big_quiet_step ((first | (go_at_call 83; with_reducible exact calls_on (H_hcall.out _)))))
      refine wpQuiet_nil ?_
      intro w12 hc12
      have hb12 : Below w.heap.size w w12 := bchain (by repeat' (first | with_reducible exact hb11 | with_reducible refine Below.drew ?_ | with_reducible refine below_drewN ?_ _ | with_reducible refine Below.alloc ?_ (by have := hb11.size; first | (simp; done) | (simp; omega) | omega) _ | with_reducible refine Below.setCell ?_ (by first | (simp; done) | (simp; omega) | omega) _)) hc12
      have hst12 : Below w11.heap.size w11 w12 := bchain (by repeat' (first | with_reducible exact Below.refl _ _ | with_reducible refine Below.drew ?_ | with_reducible refine below_drewN ?_ _ | with_reducible refine Below.alloc ?_ (by first | (simp; done) | (simp; omega) | omega) _ | with_reducible refine Below.setCell ?_ (by first | (simp; done) | (simp; omega) | omega) _)) hc12
      replace Y_0 := cell_later hst12 Y_0
      replace Y_1 := cell_later hst12 Y_1
      replace Y_l := Nat.lt_of_lt_of_le Y_l hst12.size
      replace hCL := hCL.later hst12
      replace hCW := hCW.later hst12
      clear hst12
      go_wp2_with fail
      go_roundw
      case rel => exact ⟨k + 1, hlt, by go_num, by rw [← H_hnext.out], H_hlen.out, (by repeat' (first | with_reducible exact hb12 | with_reducible refine Below.drew ?_ | with_reducible refine below_drewN ?_ _ | with_reducible refine Below.alloc ?_ (by have := hb12.size; first | (simp; done) | (simp; omega) | omega) _ | with_reducible refine Below.setCell ?_ (by first | (simp; done) | (simp; omega) | omega) _)), hCL, hCW, Y_0, Y_1⟩
      case measure => simp [intOf]; omega
    · obtain rfl : k = 9 := by omega
      clear hCL hCW hlt hk9
      obtain ⟨N, hN⟩ : ∃ N : Nat, s = (N : Int) := ⟨s.toNat, by omega⟩
      subst hN
      have hcall := H_hdec.out N (by omega)
      obtain ⟨D, hD⟩ : ∃ D : ByteArray, bsB (Lib.decDigits N) = D := ⟨_, rfl⟩
      rw [hD] at hcall
      have hDl : D.size ≤ 20 := by
        rw [← hD, bsB_size]
        have := dec_len N (by omega)
        omega
      obtain ⟨T, hT⟩ : ∃ T : ByteArray, bsB (linesL L 9) = T := ⟨_, rfl⟩
      have hTl : T.size ≤ 900 := by rw [← hT, bsB_size]; omega
      have hnext : T ++ ((⟨#[115, 101, 99, 114, 101, 116, 32]⟩ : ByteArray) ++ D ++ (⟨#[10]⟩ : ByteArray)) = bsB (linesL L 9 ++ secL N) := by
        unfold secL
        rw [← hT, ← hD, show (⟨#[115, 101, 99, 114, 101, 116, 32]⟩ : ByteArray) = bsB [115, 101, 99, 114, 101, 116, 32] from rfl, show (⟨#[10]⟩ : ByteArray) = bsB [10] from rfl, bs_append, bs_append, bs_append]
        rfl
      have hbl : (linesL L 9 ++ secL N).length ≤ 2000 := by
        have := dec_len N (by omega)
        rw [List.length_append]
        unfold secL
        simp only [List.length_append, List.length_cons, List.length_nil, Int.toNat_natCast]
        omega
      obtain ⟨base, hbase⟩ : ∃ base, linesL L 9 ++ secL N = base := ⟨_, rfl⟩
      rw [hbase] at hnext hbl
      simp only [hT]
      clear hll2
      have H_hcall := Box.mk hcall
      have H_hD := Box.mk hD
      have H_hT := Box.mk hT
      have H_hnext := Box.mk hnext
      have H_hbase := Box.mk hbase
      clear hcall hD hT hnext hbase
      go_wp2_with fail
      with_reducible refine (H_hcall.out _).mono ?_
      rintro e w21 ⟨rfl, hc21⟩
      have hb21 : Below w.heap.size w w21 := bchain (by repeat' (first | with_reducible exact hbw | with_reducible refine Below.drew ?_ | with_reducible refine below_drewN ?_ _ | with_reducible refine Below.alloc ?_ (by have := hbw.size; first | (simp; done) | (simp; omega) | omega) _ | with_reducible refine Below.setCell ?_ (by first | (simp; done) | (simp; omega) | omega) _)) hc21
      have hst21 : Below wr.heap.size wr w21 := bchain (by repeat' (first | with_reducible exact Below.refl _ _ | with_reducible refine Below.drew ?_ | with_reducible refine below_drewN ?_ _ | with_reducible refine Below.alloc ?_ (by first | (simp; done) | (simp; omega) | omega) _ | with_reducible refine Below.setCell ?_ (by first | (simp; done) | (simp; omega) | omega) _)) hc21
      replace Y_0 := cell_later hst21 Y_0
      replace Y_1 := cell_later hst21 Y_1
      replace Y_l := Nat.lt_of_lt_of_le Y_l hst21.size
      clear hst21
      clear hc21 hbw
      go_wp2_with fail
      simp only [H_hnext.out]
      go_loopw [3, 7] (fun v3 v7 wr => ∃ k : Nat, k ≤ ps.length ∧ v7 = .int .i64 k ∧ v3 = .string (bsB (base ++ (ps.take k).flatMap peerL)) ∧ (base ++ (ps.take k).flatMap peerL).length ≤ 2000 + 100 * k ∧ Below w.heap.size w wr ∧ wr.cell? ⟨w.heap.size, 10, none⟩ = some (.slice a ps.length c)) (fun _ v7 _ => ps.length - (intOf v7).toNat)
      case atStart => exact ⟨0, Nat.zero_le _, rfl, by simp, by simpa using hbl, (by repeat' (first | with_reducible exact hb21 | with_reducible refine Below.drew ?_ | with_reducible refine below_drewN ?_ _ | with_reducible refine Below.alloc ?_ (by have := hb21.size; first | (simp; done) | (simp; omega) | omega) _ | with_reducible refine Below.setCell ?_ (by first | (simp; done) | (simp; omega) | omega) _)), Y_1⟩
      case round =>
        clear Y_0 Y_1 Y_l
        obtain ⟨k, hkl, rfl, rfl, hll2, hbw, Y_0⟩ := hrel
        have Y_l : w.heap.size < wr.heap.size := World.block_lt_of_cell? _ _ Y_0
        by_cases hlt : k < ps.length
        · have hlt' : (k : Int) < (ps.length : Int) := by omega
          have hc := Hc0.out.later hbw
          obtain ⟨b1, o1, rfl, g1, g2, hcell⟩ := hc.peers (by omega)
          obtain ⟨c0, c1⟩ := hcell k hlt
          have hkk := H_hkeys.out k hlt
          have hpl := peers_take hlt
          have hnl := H_hnm.out k hlt
          have hcr := hc
          clear hcell hc
          obtain ⟨n, hn⟩ : ∃ n, nm ps k = n := ⟨_, rfl⟩
          obtain ⟨q, hq⟩ : ∃ q : Nat, pu ps k = (q : Int) := ⟨(pu ps k).toNat, by omega⟩
          rw [hn] at c0 hnl hpl
          rw [hq] at c1 hkk hpl
          have hw64q : IntKind.u64.wrap (q : Int) = q := by rw [IntKind.wrap_u64]; omega
          have hcall2 := H_hdec.out q (by omega)
          obtain ⟨D2, hD2⟩ : ∃ D : ByteArray, bsB (Lib.decDigits q) = D := ⟨_, rfl⟩
          rw [hD2] at hcall2
          have hDl2 : D2.size ≤ 20 := by
            rw [← hD2, bsB_size]
            have := dec_len q (by omega)
            omega
          have hlen : (base ++ (ps.take (k + 1)).flatMap peerL).length ≤ 2000 + 100 * (k + 1) := by
            have := dec_len q (by omega)
            have hll3 := hll2
            rw [List.length_append] at hll3
            rw [hpl, List.length_append, List.length_append, peerL_len, Int.toNat_natCast]
            omega
          obtain ⟨T2, hT2⟩ : ∃ T : ByteArray, bsB (base ++ (ps.take k).flatMap peerL) = T := ⟨_, rfl⟩
          have hT2l : T2.size ≤ 3000 := by rw [← hT2, bsB_size]; omega
          have hnext2 : T2 ++ ((⟨#[112, 101, 101, 114, 32]⟩ : ByteArray) ++ n ++ (⟨#[32]⟩ : ByteArray) ++ D2 ++ (⟨#[10]⟩ : ByteArray)) = bsB (base ++ (ps.take (k + 1)).flatMap peerL) := by
            rw [hpl, ← hT2, ← hD2, ← bsB_of n, show (⟨#[112, 101, 101, 114, 32]⟩ : ByteArray) = bsB [112, 101, 101, 114, 32] from rfl, show (⟨#[32]⟩ : ByteArray) = bsB [32] from rfl, show (⟨#[10]⟩ : ByteArray) = bsB [10] from rfl, bs_append, bs_append, bs_append, bs_append, bs_append, List.append_assoc]
            unfold peerL
            rw [bsB_list]; rfl
          simp only [hT2]
          clear hll2
          have H_hpl := Box.mk hpl
          have H_hD2 := Box.mk hD2
          have H_hn := Box.mk hn
          have H_hq := Box.mk hq
          have H_hcall2 := Box.mk hcall2
          have H_hlen := Box.mk hlen
          have H_hT2 := Box.mk hT2
          have H_hnext2 := Box.mk hnext2
          clear hpl hD2 hn hq hcall2 hlen hT2 hnext2
          go_wp2_with fail
          refine wp_gen fun w31 hc31 => ?_
          have hb31 : Below w.heap.size w w31 := bchain (by repeat' (first | with_reducible exact hbw | with_reducible refine Below.drew ?_ | with_reducible refine below_drewN ?_ _ | with_reducible refine Below.alloc ?_ (by have := hbw.size; first | (simp; done) | (simp; omega) | omega) _ | with_reducible refine Below.setCell ?_ (by first | (simp; done) | (simp; omega) | omega) _)) hc31
          have hst31 : Below wr.heap.size wr w31 := bchain (by repeat' (first | with_reducible exact Below.refl _ _ | with_reducible refine Below.drew ?_ | with_reducible refine below_drewN ?_ _ | with_reducible refine Below.alloc ?_ (by first | (simp; done) | (simp; omega) | omega) _ | with_reducible refine Below.setCell ?_ (by first | (simp; done) | (simp; omega) | omega) _)) hc31
          replace Y_0 := cell_later hst31 Y_0
          replace Y_l := Nat.lt_of_lt_of_le Y_l hst31.size
          replace hcr := hcr.later hst31
          clear hst31
          have KY_0 := cell_on Y_0
          obtain ⟨_, _, e, _, _, hcell⟩ := hcr.peers (by omega)
          cases e
          obtain ⟨d0, d1⟩ := hcell k hlt
          rw [H_hn.out] at d0
          rw [H_hq.out] at d1
          have KQ0 := cell_on d0
          have KQ1 := cell_on d1
          clear d0 d1 hcell
          refine wp_region_on (by kernel_rfl) (by kernel_rfl) ?_
          repeat (go_big_quiet_step ((first | (go_at_call 83; with_reducible exact calls_on (H_hcall2.out _)))))
          refine wpQuiet_nil ?_
          intro w32 hc32
          clear KY_0
          have hb32 : Below w.heap.size w w32 := bchain (by repeat' (first | with_reducible exact hb31 | with_reducible refine Below.drew ?_ | with_reducible refine below_drewN ?_ _ | with_reducible refine Below.alloc ?_ (by have := hb31.size; first | (simp; done) | (simp; omega) | omega) _ | with_reducible refine Below.setCell ?_ (by first | (simp; done) | (simp; omega) | omega) _)) hc32
          have hst32 : Below w31.heap.size w31 w32 := bchain (by repeat' (first | with_reducible exact Below.refl _ _ | with_reducible refine Below.drew ?_ | with_reducible refine below_drewN ?_ _ | with_reducible refine Below.alloc ?_ (by first | (simp; done) | (simp; omega) | omega) _ | with_reducible refine Below.setCell ?_ (by first | (simp; done) | (simp; omega) | omega) _)) hc32
          replace Y_0 := cell_later hst32 Y_0
          replace Y_l := Nat.lt_of_lt_of_le Y_l hst32.size
          replace hcr := hcr.later hst32
          clear hst32
          go_wp2_with fail
          go_roundw
          case rel => exact ⟨k + 1, hlt, by go_num, by rw [← H_hnext2.out], H_hlen.out, (by repeat' (first | with_reducible exact hb32 | with_reducible refine Below.drew ?_ | with_reducible refine below_drewN ?_ _ | with_reducible refine Below.alloc ?_ (by have := hb32.size; first | (simp; done) | (simp; omega) | omega) _ | with_reducible refine Below.setCell ?_ (by first | (simp; done) | (simp; omega) | omega) _)), Y_0⟩
          case measure => simp [intOf]; omega
        · obtain rfl : k = ps.length := by omega
          have hend : bsB (base ++ (ps.take ps.length).flatMap peerL) = bsB (textL L N ps) := by
            rw [List.take_length, ← H_hbase.out]; unfold textL; rfl
          rw [hend]
          obtain ⟨T3, hT3⟩ : ∃ T : ByteArray, bsB (textL L N ps) = T := ⟨_, rfl⟩
          rw [hT3]
          clear hll2 hend
          have H_hT3 := Box.mk hT3
          clear hT3
          go_wp2_with fail
          go_ret
          exact ⟨by rw [H_hT3.out]; rfl, (by repeat' (first | with_reducible exact hbw | with_reducible refine Below.drew ?_ | with_reducible refine below_drewN ?_ _ | with_reducible refine Below.alloc ?_ (by have := hbw.size; first | (simp; done) | (simp; omega) | omega) _ | with_reducible refine Below.setCell ?_ (by first | (simp; done) | (simp; omega) | omega) _))⟩
set_option maxRecDepth 100000 in
set_option maxHeartbeats 4000000 in
theorem rText_any (l0 l1 l2 l3 l4 l5 l6 l7 l8 : Int) (s : Int) (ps : Peers) (a : Option Addr) (c : Nat) (w : World) (hS : SIn w s ps a) (E : Int) (hE : chkS (⟨l0, l1, l2, l3, l4, l5, l6, l7, l8⟩ : Lim) s ps = E) :
    Calls Tryd.prog 27 #[.agg #[.int .i64 l0, .int .i64 l1, .int .i64 l2, .int .i64 l3, .int .i64 l4, .int .i64 l5, .int .i64 l6, .int .i64 l7, .int .i64 l8, .int .u32 s, .slice a ps.length c]] w fun e w' =>
      RetSI e (textR E (⟨l0, l1, l2, l3, l4, l5, l6, l7, l8⟩ : Lim) s ps) ∧ Below w.heap.size w w' := by
  have hchk := fun W (h : SIn W s ps a) => hE ▸ rCheck_any l0 l1 l2 l3 l4 l5 l6 l7 l8 s ps a c W h.cells h.s0 h.s4 h.keys h.ml
  by_cases h0 : E = 0
  · subst h0
    have htx := fun W (h : SIn W s ps a) => rtext_any l0 l1 l2 l3 l4 l5 l6 l7 l8 s ps a c W h (CV.of hE)
    have hr : (bsB (textL (⟨l0, l1, l2, l3, l4, l5, l6, l7, l8⟩ : Lim) s ps), 0) = textR 0 (⟨l0, l1, l2, l3, l4, l5, l6, l7, l8⟩ : Lim) s ps := by unfold textR; rw [if_pos rfl]; rfl
    obtain ⟨T, hT⟩ : ∃ T, bsB (textL (⟨l0, l1, l2, l3, l4, l5, l6, l7, l8⟩ : Lim) s ps) = T := ⟨_, rfl⟩
    simp only [hT] at htx
    rw [hT] at hr
    have H_hE := Box.mk hE
    have H_hr := Box.mk hr
    have H_hT := Box.mk hT
    have H_htx := Box.mk htx
    clear hE hr hT htx
    go_enter Tryd.func27, Tryd.ntmps27
    have hb0 := Below.refl w.heap.size w
    go_wp2_with fail
    with_reducible refine (hchk _ (hS.alloc _)).mono ?_
    rintro e w1 ⟨rfl, hc1⟩
    have hb1 : Below w.heap.size w w1 := bchain (by repeat' (first | with_reducible exact hb0 | with_reducible refine Below.drew ?_ | with_reducible refine below_drewN ?_ _ | with_reducible refine Below.alloc ?_ (by have := hb0.size; first | (simp; done) | (simp; omega) | omega) _ | with_reducible refine Below.setCell ?_ (by first | (simp; done) | (simp; omega) | omega) _)) hc1
    have hst1 : Below w.heap.size w w1 := bchain (by repeat' (first | with_reducible exact Below.refl _ _ | with_reducible refine Below.drew ?_ | with_reducible refine below_drewN ?_ _ | with_reducible refine Below.alloc ?_ (by first | (simp; done) | (simp; omega) | omega) _ | with_reducible refine Below.setCell ?_ (by first | (simp; done) | (simp; omega) | omega) _)) hc1
    have X_0 : w1.cell? ⟨w.heap.size, 0, none⟩ = some (.int .i64 l0) := (hc1.cell (p := ⟨w.heap.size, 0, none⟩) (by first | (simp; done) | (simp; omega))).trans (by first | (simp; done) | go_simp)
    have X_1 : w1.cell? ⟨w.heap.size, 1, none⟩ = some (.int .i64 l1) := (hc1.cell (p := ⟨w.heap.size, 1, none⟩) (by first | (simp; done) | (simp; omega))).trans (by first | (simp; done) | go_simp)
    have X_2 : w1.cell? ⟨w.heap.size, 2, none⟩ = some (.int .i64 l2) := (hc1.cell (p := ⟨w.heap.size, 2, none⟩) (by first | (simp; done) | (simp; omega))).trans (by first | (simp; done) | go_simp)
    have X_3 : w1.cell? ⟨w.heap.size, 3, none⟩ = some (.int .i64 l3) := (hc1.cell (p := ⟨w.heap.size, 3, none⟩) (by first | (simp; done) | (simp; omega))).trans (by first | (simp; done) | go_simp)
    have X_4 : w1.cell? ⟨w.heap.size, 4, none⟩ = some (.int .i64 l4) := (hc1.cell (p := ⟨w.heap.size, 4, none⟩) (by first | (simp; done) | (simp; omega))).trans (by first | (simp; done) | go_simp)
    have X_5 : w1.cell? ⟨w.heap.size, 5, none⟩ = some (.int .i64 l5) := (hc1.cell (p := ⟨w.heap.size, 5, none⟩) (by first | (simp; done) | (simp; omega))).trans (by first | (simp; done) | go_simp)
    have X_6 : w1.cell? ⟨w.heap.size, 6, none⟩ = some (.int .i64 l6) := (hc1.cell (p := ⟨w.heap.size, 6, none⟩) (by first | (simp; done) | (simp; omega))).trans (by first | (simp; done) | go_simp)
    have X_7 : w1.cell? ⟨w.heap.size, 7, none⟩ = some (.int .i64 l7) := (hc1.cell (p := ⟨w.heap.size, 7, none⟩) (by first | (simp; done) | (simp; omega))).trans (by first | (simp; done) | go_simp)
    have X_8 : w1.cell? ⟨w.heap.size, 8, none⟩ = some (.int .i64 l8) := (hc1.cell (p := ⟨w.heap.size, 8, none⟩) (by first | (simp; done) | (simp; omega))).trans (by first | (simp; done) | go_simp)
    have X_9 : w1.cell? ⟨w.heap.size, 9, none⟩ = some (.int .u32 s) := (hc1.cell (p := ⟨w.heap.size, 9, none⟩) (by first | (simp; done) | (simp; omega))).trans (by first | (simp; done) | go_simp)
    have X_10 : w1.cell? ⟨w.heap.size, 10, none⟩ = some (.slice a ps.length c) := (hc1.cell (p := ⟨w.heap.size, 10, none⟩) (by first | (simp; done) | (simp; omega))).trans (by first | (simp; done) | go_simp)
    have X_l : w.heap.size < w1.heap.size := Nat.lt_of_lt_of_le (by first | (simp; done) | (simp; omega)) hc1.size
    replace hS := hS.later hst1
    clear hst1
    clear hc1 hb0
    go_wp2_with fail
    with_reducible refine (H_htx.out _ hS).mono ?_
    rintro e w2 ⟨rfl, hc2⟩
    have hb2 : Below w.heap.size w w2 := bchain (by repeat' (first | with_reducible exact hb1 | with_reducible refine Below.drew ?_ | with_reducible refine below_drewN ?_ _ | with_reducible refine Below.alloc ?_ (by have := hb1.size; first | (simp; done) | (simp; omega) | omega) _ | with_reducible refine Below.setCell ?_ (by first | (simp; done) | (simp; omega) | omega) _)) hc2
    have hst2 : Below w1.heap.size w1 w2 := bchain (by repeat' (first | with_reducible exact Below.refl _ _ | with_reducible refine Below.drew ?_ | with_reducible refine below_drewN ?_ _ | with_reducible refine Below.alloc ?_ (by first | (simp; done) | (simp; omega) | omega) _ | with_reducible refine Below.setCell ?_ (by first | (simp; done) | (simp; omega) | omega) _)) hc2
    replace X_0 := cell_later hst2 X_0
    replace X_1 := cell_later hst2 X_1
    replace X_2 := cell_later hst2 X_2
    replace X_3 := cell_later hst2 X_3
    replace X_4 := cell_later hst2 X_4
    replace X_5 := cell_later hst2 X_5
    replace X_6 := cell_later hst2 X_6
    replace X_7 := cell_later hst2 X_7
    replace X_8 := cell_later hst2 X_8
    replace X_9 := cell_later hst2 X_9
    replace X_10 := cell_later hst2 X_10
    replace X_l := Nat.lt_of_lt_of_le X_l hst2.size
    replace hS := hS.later hst2
    clear hst2
    clear hc2 hb1
    go_wp2_with fail
    go_ret2
    exact ⟨by rw [← H_hr.out]; exact rfl, (by repeat' (first | with_reducible exact hb2 | with_reducible refine Below.drew ?_ | with_reducible refine below_drewN ?_ _ | with_reducible refine Below.alloc ?_ (by have := hb2.size; first | (simp; done) | (simp; omega) | omega) _ | with_reducible refine Below.setCell ?_ (by first | (simp; done) | (simp; omega) | omega) _))⟩
  · have hr : (⟨#[]⟩, E) = textR E (⟨l0, l1, l2, l3, l4, l5, l6, l7, l8⟩ : Lim) s ps := by unfold textR; rw [if_neg h0]
    have b1 : (E != 0) = true := bne_iff_ne.2 h0
    have H_hE := Box.mk hE
    have H_hr := Box.mk hr
    clear hE hr
    go_enter Tryd.func27, Tryd.ntmps27
    have hb0 := Below.refl w.heap.size w
    go_wp2_with fail
    with_reducible refine (hchk _ (hS.alloc _)).mono ?_
    rintro e w1 ⟨rfl, hc1⟩
    have hb1 : Below w.heap.size w w1 := bchain (by repeat' (first | with_reducible exact hb0 | with_reducible refine Below.drew ?_ | with_reducible refine below_drewN ?_ _ | with_reducible refine Below.alloc ?_ (by have := hb0.size; first | (simp; done) | (simp; omega) | omega) _ | with_reducible refine Below.setCell ?_ (by first | (simp; done) | (simp; omega) | omega) _)) hc1
    have X_0 : w1.cell? ⟨w.heap.size, 0, none⟩ = some (.int .i64 l0) := (hc1.cell (p := ⟨w.heap.size, 0, none⟩) (by first | (simp; done) | (simp; omega))).trans (by first | (simp; done) | go_simp)
    have X_1 : w1.cell? ⟨w.heap.size, 1, none⟩ = some (.int .i64 l1) := (hc1.cell (p := ⟨w.heap.size, 1, none⟩) (by first | (simp; done) | (simp; omega))).trans (by first | (simp; done) | go_simp)
    have X_2 : w1.cell? ⟨w.heap.size, 2, none⟩ = some (.int .i64 l2) := (hc1.cell (p := ⟨w.heap.size, 2, none⟩) (by first | (simp; done) | (simp; omega))).trans (by first | (simp; done) | go_simp)
    have X_3 : w1.cell? ⟨w.heap.size, 3, none⟩ = some (.int .i64 l3) := (hc1.cell (p := ⟨w.heap.size, 3, none⟩) (by first | (simp; done) | (simp; omega))).trans (by first | (simp; done) | go_simp)
    have X_4 : w1.cell? ⟨w.heap.size, 4, none⟩ = some (.int .i64 l4) := (hc1.cell (p := ⟨w.heap.size, 4, none⟩) (by first | (simp; done) | (simp; omega))).trans (by first | (simp; done) | go_simp)
    have X_5 : w1.cell? ⟨w.heap.size, 5, none⟩ = some (.int .i64 l5) := (hc1.cell (p := ⟨w.heap.size, 5, none⟩) (by first | (simp; done) | (simp; omega))).trans (by first | (simp; done) | go_simp)
    have X_6 : w1.cell? ⟨w.heap.size, 6, none⟩ = some (.int .i64 l6) := (hc1.cell (p := ⟨w.heap.size, 6, none⟩) (by first | (simp; done) | (simp; omega))).trans (by first | (simp; done) | go_simp)
    have X_7 : w1.cell? ⟨w.heap.size, 7, none⟩ = some (.int .i64 l7) := (hc1.cell (p := ⟨w.heap.size, 7, none⟩) (by first | (simp; done) | (simp; omega))).trans (by first | (simp; done) | go_simp)
    have X_8 : w1.cell? ⟨w.heap.size, 8, none⟩ = some (.int .i64 l8) := (hc1.cell (p := ⟨w.heap.size, 8, none⟩) (by first | (simp; done) | (simp; omega))).trans (by first | (simp; done) | go_simp)
    have X_9 : w1.cell? ⟨w.heap.size, 9, none⟩ = some (.int .u32 s) := (hc1.cell (p := ⟨w.heap.size, 9, none⟩) (by first | (simp; done) | (simp; omega))).trans (by first | (simp; done) | go_simp)
    have X_10 : w1.cell? ⟨w.heap.size, 10, none⟩ = some (.slice a ps.length c) := (hc1.cell (p := ⟨w.heap.size, 10, none⟩) (by first | (simp; done) | (simp; omega))).trans (by first | (simp; done) | go_simp)
    have X_l : w.heap.size < w1.heap.size := Nat.lt_of_lt_of_le (by first | (simp; done) | (simp; omega)) hc1.size
    clear hc1 hb0
    go_wp2_with fail
    go_ret2
    exact ⟨by rw [← H_hr.out]; exact rfl, (by repeat' (first | with_reducible exact hb1 | with_reducible refine Below.drew ?_ | with_reducible refine below_drewN ?_ _ | with_reducible refine Below.alloc ?_ (by have := hb1.size; first | (simp; done) | (simp; omega) | omega) _ | with_reducible refine Below.setCell ?_ (by first | (simp; done) | (simp; omega) | omega) _))⟩
def rpubR (E s : Int) : Int × Int := if E = 0 then (pubK s, 0) else (0, E)
set_option maxRecDepth 100000 in
set_option maxHeartbeats 4000000 in
theorem rPublic_any (l0 l1 l2 l3 l4 l5 l6 l7 l8 : Int) (s : Int) (ps : Peers) (a : Option Addr) (c : Nat) (w : World) (hS : SIn w s ps a) (E : Int) (hE : chkS (⟨l0, l1, l2, l3, l4, l5, l6, l7, l8⟩ : Lim) s ps = E) :
    Calls Tryd.prog 29 #[.agg #[.int .i64 l0, .int .i64 l1, .int .i64 l2, .int .i64 l3, .int .i64 l4, .int .i64 l5, .int .i64 l6, .int .i64 l7, .int .i64 l8, .int .u32 s, .slice a ps.length c]] w fun e w' =>
      RetUI e (rpubR E s) ∧ Below w.heap.size w w' := by
  have hchk := fun W (h : SIn W s ps a) => hE ▸ rCheck_any l0 l1 l2 l3 l4 l5 l6 l7 l8 s ps a c W h.cells h.s0 h.s4 h.keys h.ml
  have hs0 := hS.s0
  have hs4 := hS.s4
  by_cases h0 : E = 0
  · subst h0
    have hr : (pubK s, 0) = rpubR 0 s := rfl
    obtain ⟨K, hK⟩ : ∃ K, pubK s = K := ⟨_, rfl⟩
    have hkey : ∀ W, Calls Tryd.prog 64 #[.int .u32 s] W fun e w' => e = .returned (.int .u32 K) ∧ W = w' := fun W => hK ▸ rkey_any s W hs0 hs4
    rw [hK] at hr
    have H_hE := Box.mk hE
    have H_hr := Box.mk hr
    have H_hK := Box.mk hK
    clear hE hr hK
    go_enter Tryd.func29, Tryd.ntmps29
    have hb0 := Below.refl w.heap.size w
    go_wp2_with fail
    with_reducible refine (hchk _ (hS.alloc _)).mono ?_
    rintro e w1 ⟨rfl, hc1⟩
    have hb1 : Below w.heap.size w w1 := bchain (by repeat' (first | with_reducible exact hb0 | with_reducible refine Below.drew ?_ | with_reducible refine below_drewN ?_ _ | with_reducible refine Below.alloc ?_ (by have := hb0.size; first | (simp; done) | (simp; omega) | omega) _ | with_reducible refine Below.setCell ?_ (by first | (simp; done) | (simp; omega) | omega) _)) hc1
    have X_0 : w1.cell? ⟨w.heap.size, 0, none⟩ = some (.int .i64 l0) := (hc1.cell (p := ⟨w.heap.size, 0, none⟩) (by first | (simp; done) | (simp; omega))).trans (by first | (simp; done) | go_simp)
    have X_1 : w1.cell? ⟨w.heap.size, 1, none⟩ = some (.int .i64 l1) := (hc1.cell (p := ⟨w.heap.size, 1, none⟩) (by first | (simp; done) | (simp; omega))).trans (by first | (simp; done) | go_simp)
    have X_2 : w1.cell? ⟨w.heap.size, 2, none⟩ = some (.int .i64 l2) := (hc1.cell (p := ⟨w.heap.size, 2, none⟩) (by first | (simp; done) | (simp; omega))).trans (by first | (simp; done) | go_simp)
    have X_3 : w1.cell? ⟨w.heap.size, 3, none⟩ = some (.int .i64 l3) := (hc1.cell (p := ⟨w.heap.size, 3, none⟩) (by first | (simp; done) | (simp; omega))).trans (by first | (simp; done) | go_simp)
    have X_4 : w1.cell? ⟨w.heap.size, 4, none⟩ = some (.int .i64 l4) := (hc1.cell (p := ⟨w.heap.size, 4, none⟩) (by first | (simp; done) | (simp; omega))).trans (by first | (simp; done) | go_simp)
    have X_5 : w1.cell? ⟨w.heap.size, 5, none⟩ = some (.int .i64 l5) := (hc1.cell (p := ⟨w.heap.size, 5, none⟩) (by first | (simp; done) | (simp; omega))).trans (by first | (simp; done) | go_simp)
    have X_6 : w1.cell? ⟨w.heap.size, 6, none⟩ = some (.int .i64 l6) := (hc1.cell (p := ⟨w.heap.size, 6, none⟩) (by first | (simp; done) | (simp; omega))).trans (by first | (simp; done) | go_simp)
    have X_7 : w1.cell? ⟨w.heap.size, 7, none⟩ = some (.int .i64 l7) := (hc1.cell (p := ⟨w.heap.size, 7, none⟩) (by first | (simp; done) | (simp; omega))).trans (by first | (simp; done) | go_simp)
    have X_8 : w1.cell? ⟨w.heap.size, 8, none⟩ = some (.int .i64 l8) := (hc1.cell (p := ⟨w.heap.size, 8, none⟩) (by first | (simp; done) | (simp; omega))).trans (by first | (simp; done) | go_simp)
    have X_9 : w1.cell? ⟨w.heap.size, 9, none⟩ = some (.int .u32 s) := (hc1.cell (p := ⟨w.heap.size, 9, none⟩) (by first | (simp; done) | (simp; omega))).trans (by first | (simp; done) | go_simp)
    have X_10 : w1.cell? ⟨w.heap.size, 10, none⟩ = some (.slice a ps.length c) := (hc1.cell (p := ⟨w.heap.size, 10, none⟩) (by first | (simp; done) | (simp; omega))).trans (by first | (simp; done) | go_simp)
    have X_l : w.heap.size < w1.heap.size := Nat.lt_of_lt_of_le (by first | (simp; done) | (simp; omega)) hc1.size
    clear hc1 hb0
    go_wp2_with fail
    refine (hkey _).mono ?_
    rintro e w' ⟨rfl, rfl⟩
    go_wp2_with fail
    go_ret2
    exact ⟨by rw [← H_hr.out]; exact rfl, (by repeat' (first | with_reducible exact hb1 | with_reducible refine Below.drew ?_ | with_reducible refine below_drewN ?_ _ | with_reducible refine Below.alloc ?_ (by have := hb1.size; first | (simp; done) | (simp; omega) | omega) _ | with_reducible refine Below.setCell ?_ (by first | (simp; done) | (simp; omega) | omega) _))⟩
  · have hr : (0, E) = rpubR E s := by unfold rpubR; rw [if_neg h0]
    have b1 : (E != 0) = true := bne_iff_ne.2 h0
    have H_hE := Box.mk hE
    have H_hr := Box.mk hr
    clear hE hr
    go_enter Tryd.func29, Tryd.ntmps29
    have hb0 := Below.refl w.heap.size w
    go_wp2_with fail
    with_reducible refine (hchk _ (hS.alloc _)).mono ?_
    rintro e w1 ⟨rfl, hc1⟩
    have hb1 : Below w.heap.size w w1 := bchain (by repeat' (first | with_reducible exact hb0 | with_reducible refine Below.drew ?_ | with_reducible refine below_drewN ?_ _ | with_reducible refine Below.alloc ?_ (by have := hb0.size; first | (simp; done) | (simp; omega) | omega) _ | with_reducible refine Below.setCell ?_ (by first | (simp; done) | (simp; omega) | omega) _)) hc1
    have X_0 : w1.cell? ⟨w.heap.size, 0, none⟩ = some (.int .i64 l0) := (hc1.cell (p := ⟨w.heap.size, 0, none⟩) (by first | (simp; done) | (simp; omega))).trans (by first | (simp; done) | go_simp)
    have X_1 : w1.cell? ⟨w.heap.size, 1, none⟩ = some (.int .i64 l1) := (hc1.cell (p := ⟨w.heap.size, 1, none⟩) (by first | (simp; done) | (simp; omega))).trans (by first | (simp; done) | go_simp)
    have X_2 : w1.cell? ⟨w.heap.size, 2, none⟩ = some (.int .i64 l2) := (hc1.cell (p := ⟨w.heap.size, 2, none⟩) (by first | (simp; done) | (simp; omega))).trans (by first | (simp; done) | go_simp)
    have X_3 : w1.cell? ⟨w.heap.size, 3, none⟩ = some (.int .i64 l3) := (hc1.cell (p := ⟨w.heap.size, 3, none⟩) (by first | (simp; done) | (simp; omega))).trans (by first | (simp; done) | go_simp)
    have X_4 : w1.cell? ⟨w.heap.size, 4, none⟩ = some (.int .i64 l4) := (hc1.cell (p := ⟨w.heap.size, 4, none⟩) (by first | (simp; done) | (simp; omega))).trans (by first | (simp; done) | go_simp)
    have X_5 : w1.cell? ⟨w.heap.size, 5, none⟩ = some (.int .i64 l5) := (hc1.cell (p := ⟨w.heap.size, 5, none⟩) (by first | (simp; done) | (simp; omega))).trans (by first | (simp; done) | go_simp)
    have X_6 : w1.cell? ⟨w.heap.size, 6, none⟩ = some (.int .i64 l6) := (hc1.cell (p := ⟨w.heap.size, 6, none⟩) (by first | (simp; done) | (simp; omega))).trans (by first | (simp; done) | go_simp)
    have X_7 : w1.cell? ⟨w.heap.size, 7, none⟩ = some (.int .i64 l7) := (hc1.cell (p := ⟨w.heap.size, 7, none⟩) (by first | (simp; done) | (simp; omega))).trans (by first | (simp; done) | go_simp)
    have X_8 : w1.cell? ⟨w.heap.size, 8, none⟩ = some (.int .i64 l8) := (hc1.cell (p := ⟨w.heap.size, 8, none⟩) (by first | (simp; done) | (simp; omega))).trans (by first | (simp; done) | go_simp)
    have X_9 : w1.cell? ⟨w.heap.size, 9, none⟩ = some (.int .u32 s) := (hc1.cell (p := ⟨w.heap.size, 9, none⟩) (by first | (simp; done) | (simp; omega))).trans (by first | (simp; done) | go_simp)
    have X_10 : w1.cell? ⟨w.heap.size, 10, none⟩ = some (.slice a ps.length c) := (hc1.cell (p := ⟨w.heap.size, 10, none⟩) (by first | (simp; done) | (simp; omega))).trans (by first | (simp; done) | go_simp)
    have X_l : w.heap.size < w1.heap.size := Nat.lt_of_lt_of_le (by first | (simp; done) | (simp; omega)) hc1.size
    clear hc1 hb0
    go_wp2_with fail
    go_ret2
    exact ⟨by rw [← H_hr.out]; exact rfl, (by repeat' (first | with_reducible exact hb1 | with_reducible refine Below.drew ?_ | with_reducible refine below_drewN ?_ _ | with_reducible refine Below.alloc ?_ (by have := hb1.size; first | (simp; done) | (simp; omega) | omega) _ | with_reducible refine Below.setCell ?_ (by first | (simp; done) | (simp; omega) | omega) _))⟩
end Go.Proofs.YthdldmkeoglflaaDoor
