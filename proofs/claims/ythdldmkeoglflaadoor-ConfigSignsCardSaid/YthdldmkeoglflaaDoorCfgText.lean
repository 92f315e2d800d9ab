/- config.Text. -/
import Derived.Test.YthdldmkeoglflaaDoorCfgFmt
import Derived.Test.YthdldmkeoglflaaDoorCfgFind
import Derived.Test.YthdldmkeoglflaaDoorQTail
import Derived.Test.YthdldmkeoglflaaDoorRegMore
namespace Go.Proofs.YthdldmkeoglflaaDoor
set_option linter.unusedSimpArgs false
set_option linter.unusedVariables false
set_option linter.unnecessarySimpa false
open Go.RowKit

def wordsB : List ByteArray := [⟨#[119, 111, 114, 107, 101, 114, 115]⟩, ⟨#[115, 104, 97, 114, 100, 115]⟩, ⟨#[115, 116, 111, 114, 101]⟩, ⟨#[112, 101, 110, 100, 105, 110, 103]⟩, ⟨#[105, 110, 98, 111, 120]⟩, ⟨#[113, 117, 101, 117, 101]⟩, ⟨#[115, 117, 98, 115]⟩, ⟨#[115, 101, 115, 115, 105, 111, 110, 115]⟩, ⟨#[99, 97, 108, 108, 115]⟩]
/-- The line of a limit; those of the first k limits; the text. -/
def lineW (L : Lim) (k : Nat) : List UInt8 := (wordsB[k]?.getD ⟨#[]⟩).data.toList ++ [32] ++ Lib.decDigits (L.l[k]?.getD 0).toNat ++ [10]
def linesL (L : Lim) (k : Nat) : List UInt8 := (List.range k).flatMap (lineW L)
def secL (s : Int) : List UInt8 := [115, 101, 99, 114, 101, 116, 32] ++ Lib.decDigits s.toNat ++ [10]
def peerL (p : ByteArray × Int) : List UInt8 := [112, 101, 101, 114, 32] ++ p.1.data.toList ++ [32] ++ Lib.decDigits p.2.toNat ++ [10]
def textL (L : Lim) (s : Int) (ps : Peers) : List UInt8 := linesL L 9 ++ secL s ++ ps.flatMap peerL
theorem linesL_succ (L : Lim) (k : Nat) : linesL L (k + 1) = linesL L k ++ lineW L k := by
  unfold linesL; rw [List.range_succ, List.flatMap_append]; simp
theorem sec_size (b : ByteArray) : ((⟨#[115, 101, 99, 114, 101, 116, 32]⟩ : ByteArray) ++ b ++ (⟨#[10]⟩ : ByteArray)).size = 7 + b.size + 1 := by
  simp [ByteArray.size_append]; rfl
theorem sec_list (b : ByteArray) : ((⟨#[115, 101, 99, 114, 101, 116, 32]⟩ : ByteArray) ++ b ++ (⟨#[10]⟩ : ByteArray)).data.toList = [115, 101, 99, 114, 101, 116, 32] ++ b.data.toList ++ [10] := by
  simp
theorem peer_size (a b : ByteArray) : ((⟨#[112, 101, 101, 114, 32]⟩ : ByteArray) ++ a ++ (⟨#[32]⟩ : ByteArray) ++ b ++ (⟨#[10]⟩ : ByteArray)).size = 5 + a.size + 1 + b.size + 1 := by
  simp [ByteArray.size_append]; rfl
theorem peer_list (a b : ByteArray) : ((⟨#[112, 101, 101, 114, 32]⟩ : ByteArray) ++ a ++ (⟨#[32]⟩ : ByteArray) ++ b ++ (⟨#[10]⟩ : ByteArray)).data.toList = [112, 101, 101, 114, 32] ++ a.data.toList ++ [32] ++ b.data.toList ++ [10] := by
  simp
theorem okN_le {n : ByteArray} (h : okN n = true) : n.size ≤ 12 := by
  unfold okN at h
  simp only [Bool.and_eq_true, decide_eq_true_eq] at h
  exact h.2.1
theorem peerL_len (n : ByteArray) (q : Int) : (peerL (n, q)).length = 5 + n.size + 1 + (Lib.decDigits q.toNat).length + 1 := by
  have h2 : n.data.toList.length = n.size := Array.length_toList
  unfold peerL
  simp only [List.length_append, List.length_cons, List.length_nil]
  omega
theorem peers_take {ps : Peers} {k : Nat} (hk : k < ps.length) : (ps.take (k + 1)).flatMap peerL = (ps.take k).flatMap peerL ++ peerL (nm ps k, pu ps k) := by
  rw [List.take_succ_eq_append_getElem hk, List.flatMap_append, ps_at hk]; simp
theorem cat_size (a b : ByteArray) : (a ++ (⟨#[32]⟩ : ByteArray) ++ b ++ (⟨#[10]⟩ : ByteArray)).size = a.size + 1 + b.size + 1 := by
  simp [ByteArray.size_append]; rfl
theorem cat_list (a b : ByteArray) : (a ++ (⟨#[32]⟩ : ByteArray) ++ b ++ (⟨#[10]⟩ : ByteArray)).data.toList = a.data.toList ++ [32] ++ b.data.toList ++ [10] := by
  simp
/-- What came behind a world, from a block on. -/
structure FromB (w : World) (b : Nat) (w0 : World) : Prop where
  h : Below b w0 w
  le : b ≤ w.heap.size
theorem FromB.later {w w' w0 : World} {b : Nat} (h : FromB w b w0) (hb : Below w.heap.size w w') : FromB w' b w0 := ⟨h.h.trans (hb.mono h.le), Nat.le_trans h.le hb.size⟩
theorem FromB.on {w w' w0 : World} {b : Nat} (h : FromB w b w0) (hb : Below b w w') : FromB w' b w0 := ⟨h.h.trans hb, Nat.le_trans h.le hb.size⟩
theorem dec_len (u : Nat) (h : u < 18446744073709551616) : (Lib.decDigits u).length ≤ 20 := by
  rw [Lib.decDigits_length]
  by_cases h0 : 1 ≤ u
  · have := Lib.numDigits_eq u h0 h; split at this <;> omega
  · obtain rfl : u = 0 := by omega
    have : Lib.nDigits 0 = (Lib.decDigits 0).length := (Lib.decDigits_length 0).symm
    rw [this]; decide +kernel
theorem words_len : ∀ k : Nat, (wordsB[k]?.getD ⟨#[]⟩).size ≤ 8
  | 0 => by decide
  | 1 => by decide
  | 2 => by decide
  | 3 => by decide
  | 4 => by decide
  | 5 => by decide
  | 6 => by decide
  | 7 => by decide
  | 8 => by decide
  | k + 9 => by simp [wordsB, ByteArray.size]
theorem fit_rng {L : Lim} (h : fitB L = true) {k : Nat} (hk : k < 9) : 1 ≤ L.l[k]?.getD 0 ∧ L.l[k]?.getD 0 ≤ 40 := by
  have h1 := List.all_eq_true.1 h k (List.mem_range.2 hk)
  unfold limOk at h1
  rw [Bool.and_eq_true, decide_eq_true_eq, decide_eq_true_eq] at h1
  have h2 : ∀ k, k < 9 → mostL.l[k]?.getD 0 ≤ 40 := by decide
  exact ⟨h1.1, Int.le_trans h1.2 (h2 k hk)⟩
/-- A builder of the call's own: its bytes. -/
structure BufIn (w : World) (b : Nat) (l : List UInt8) : Prop where
  h : Lib.IsBuilderF 70 5 b b (Lib.byteCells l) w
theorem BufIn.later {w w' : World} {b : Nat} {l : List UInt8} (h : BufIn w b l) (hb : Below w.heap.size w w') : BufIn w' b l := by
  refine ⟨?_⟩
  have key : ∀ p, Lib.BuilderAtF 70 5 b b p (Lib.byteCells l) w → Lib.BuilderAtF 70 5 b b p (Lib.byteCells l) w' := fun p h => by
    obtain ⟨hB, v, hbk, hown, hne⟩ := h
    refine ⟨hB, v, (hb.block b (lt_of_block hbk)).trans hbk, ⟨hown.1, ?_⟩, hne⟩
    rcases hown.2 with h2 | ⟨g, cap, cur, fz, hv, hg, hbk2, r⟩
    · exact .inl h2
    · exact .inr ⟨g, cap, cur, fz, hv, hg, (hb.block g (Array.getElem?_eq_some_iff.1 hbk2).1).trans hbk2, r⟩
  rcases h.h with h | h
  · exact .inl (key _ h)
  · exact .inr (key _ h)
theorem BufIn.fresh (w : World) : BufIn (w.alloc (.cells #[.pointer none, .slice none 0 0] 70)) w.heap.size [] := ⟨Lib.IsBuilderF.of (Lib.fresh_isBuilder _ _ w)⟩
/-- WriteString, to a builder of the call's own. -/
theorem write_any (b : Nat) (l : List UInt8) (s : ByteArray) (w : World) (h : BufIn w b l) (hlen : l.length + s.size ≤ 140737488355328) :
    Calls Tryd.prog 32 #[.pointer (some ⟨b, 0, none⟩), .string s] w fun e w' =>
      e = .returned (.tuple #[.int .i64 s.size, .nilIface]) ∧ BufIn w' b (l ++ s.data.toList) ∧ Below b w w' ∧ Lib.OthersKept 5 (some b) w w' := by
  have hb : b ≤ w.heap.size := by
    rcases h.h with ⟨_, v, hbk, _⟩ | ⟨_, v, hbk, _⟩ <;> exact Nat.le_of_lt (lt_of_block hbk)
  refine (write_k b b (Lib.byteCells l) s w h.h (by rw [Lib.byteCells_length]; exact hlen) hb).mono ?_
  rintro e w' ⟨rfl, h1, h2, h3⟩
  refine ⟨rfl, ⟨.inr ?_⟩, h2, h3⟩
  rw [Lib.strCells_eq, ← Lib.byteCells_append] at h1
  exact h1
theorem bufString_any (b : Nat) (l : List UInt8) (w : World) (h : BufIn w b l) :
    Calls Tryd.prog 35 #[.pointer (some ⟨b, 0, none⟩)] w fun e w' =>
      e = .returned (.string ⟨l.toArray⟩) ∧ Below b w w' := by
  have hb : b ≤ w.heap.size := by
    rcases h.h with ⟨_, v, hbk, _⟩ | ⟨_, v, hbk, _⟩ <;> exact Nat.le_of_lt (lt_of_block hbk)
  exact (sh_Builder_String_any_k b b l w h.h hb).mono fun e w' h => ⟨h.1, h.2.2.1⟩
set_option maxHeartbeats 1000000 in
theorem words_any (w : World) :
    Calls Tryd.prog 30 #[] w fun e w' =>
      e = .returned (.agg #[.string ⟨#[119, 111, 114, 107, 101, 114, 115]⟩, .string ⟨#[115, 104, 97, 114, 100, 115]⟩, .string ⟨#[115, 116, 111, 114, 101]⟩, .string ⟨#[112, 101, 110, 100, 105, 110, 103]⟩, .string ⟨#[105, 110, 98, 111, 120]⟩, .string ⟨#[113, 117, 101, 117, 101]⟩, .string ⟨#[115, 117, 98, 115]⟩, .string ⟨#[115, 101, 115, 115, 105, 111, 110, 115]⟩, .string ⟨#[99, 97, 108, 108, 115]⟩]) ∧ Below w.heap.size w w' := by
  go_enter Tryd.func30, Tryd.ntmps30
  have hb0 := Below.refl w.heap.size w
  go_wp2_with fail
  refine bodyPost_ret (v := .agg #[.string ⟨#[119, 111, 114, 107, 101, 114, 115]⟩, .string ⟨#[115, 104, 97, 114, 100, 115]⟩, .string ⟨#[115, 116, 111, 114, 101]⟩, .string ⟨#[112, 101, 110, 100, 105, 110, 103]⟩, .string ⟨#[105, 110, 98, 111, 120]⟩, .string ⟨#[113, 117, 101, 117, 101]⟩, .string ⟨#[115, 117, 98, 115]⟩, .string ⟨#[115, 101, 115, 115, 105, 111, 110, 115]⟩, .string ⟨#[99, 97, 108, 108, 115]⟩]) (by simp [results, Tryd.results30, go_sem, *]) rfl ⟨rfl, (by repeat' (first | with_reducible exact hb0 | with_reducible refine Below.drew ?_ | with_reducible refine below_drewN ?_ _ | with_reducible refine Below.alloc ?_ (by have := hb0.size; first | (simp; done) | (simp; omega) | omega) _ | with_reducible refine Below.setCell ?_ (by first | (simp; done) | (simp; omega) | omega) _))⟩

def textR (E : Int) (L : Lim) (s : Int) (ps : Peers) : ByteArray × Int := if E = 0 then (⟨(textL L s ps).toArray⟩, 0) else (⟨#[]⟩, E)
set_option maxRecDepth 100000 in
set_option maxHeartbeats 8000000 in
theorem Text_any (l0 l1 l2 l3 l4 l5 l6 l7 l8 : Int) (s : Int) (ps : Peers) (a : Option Addr) (c : Nat) (w : World) (hS : SIn w s ps a) (E : Int) (hE : chkS (⟨l0, l1, l2, l3, l4, l5, l6, l7, l8⟩ : Lim) s ps = E) (htab : ∀ W, Below w.heap.size w W → Lib.TabIs Tryd.prog W "internal/strconv.uint64pow10" .u64 Lib.pow10Tab) :
    Calls Tryd.prog 10 #[.agg #[.int .i64 l0, .int .i64 l1, .int .i64 l2, .int .i64 l3, .int .i64 l4, .int .i64 l5, .int .i64 l6, .int .i64 l7, .int .i64 l8, .int .u32 s, .slice a ps.length c]] w fun e w' =>
      RetSI e (textR E (⟨l0, l1, l2, l3, l4, l5, l6, l7, l8⟩ : Lim) s ps) ∧ Below w.heap.size w w' := by
  have hchk := fun W (h : SIn W s ps a) => hE ▸ Check_any l0 l1 l2 l3 l4 l5 l6 l7 l8 s ps a c W h.cells h.s0 h.s4 h.keys h.ml
  by_cases h0 : E = 0
  · subst h0
    have hcv := CV.of hE
    have hwds := fun W => (words_any W).mono fun e w' h => (show e = .returned (.agg #[.string ⟨#[119, 111, 114, 107, 101, 114, 115]⟩, .string ⟨#[115, 104, 97, 114, 100, 115]⟩, .string ⟨#[115, 116, 111, 114, 101]⟩, .string ⟨#[112, 101, 110, 100, 105, 110, 103]⟩, .string ⟨#[105, 110, 98, 111, 120]⟩, .string ⟨#[113, 117, 101, 117, 101]⟩, .string ⟨#[115, 117, 98, 115]⟩, .string ⟨#[115, 101, 115, 115, 105, 111, 110, 115]⟩, .string ⟨#[99, 97, 108, 108, 115]⟩]) ∧ Below W.heap.size W w' ∧ Below W.heap.size W w' from ⟨h.1, h.2, h.2⟩)
    have hrow := fun W => (row_any l0 l1 l2 l3 l4 l5 l6 l7 l8 W).mono fun e w' h => (show e = .returned (.agg #[.int .i64 l0, .int .i64 l1, .int .i64 l2, .int .i64 l3, .int .i64 l4, .int .i64 l5, .int .i64 l6, .int .i64 l7, .int .i64 l8]) ∧ Below W.heap.size W w' ∧ Below W.heap.size W w' from ⟨h.1, h.2, h.2⟩)
    have hs0 := hS.s0
    have hs4 := hS.s4
    have hw64 : IntKind.u64.wrap s = s := by rw [IntKind.wrap_u64]; omega
    have hfu : ∀ W, Below w.heap.size w W → Calls Tryd.prog 34 #[.int .u64 s, .int .i64 10] W fun e w' => e = .returned (.string ⟨(Lib.decDigits s.toNat).toArray⟩) ∧ Below W.heap.size W w' := fun W hb => by
      have := fmtUint_any s.toNat (by omega) W (htab W hb)
      rwa [Int.toNat_of_nonneg hs0] at this
    obtain ⟨L, hL⟩ : ∃ L, L = (⟨l0, l1, l2, l3, l4, l5, l6, l7, l8⟩ : Lim) := ⟨_, rfl⟩
    have hidx : ∀ (k : Nat) W, k < 9 → (Instr.index 73 (.agg #[.int .i64 l0, .int .i64 l1, .int .i64 l2, .int .i64 l3, .int .i64 l4, .int .i64 l5, .int .i64 l6, .int .i64 l7, .int .i64 l8]) (.int .i64 k)).run Tryd.prog W = .ok (.int .i64 (L.l[k]?.getD 0)) W := fun k W h => hL ▸ limIdx l0 l1 l2 l3 l4 l5 l6 l7 l8 W k h
    have hfit : fitB L = true := hL ▸ hcv.fit
    rw [← hL]
    have Hc0 := hid hS.cells
    have hkeys := hS.keys
    have hnm : ∀ k, k < ps.length → (nm ps k).size ≤ 12 := fun k hk => by
      have h1 : vP (nm ps k, pu ps k) = true := by
        cases h2 : vP (nm ps k, pu ps k)
        · have := any_at hk h2
          rw [hcv.ok] at this; cases this
        · rfl
      unfold vP at h1
      rw [Bool.and_eq_true] at h1
      exact okN_le h1.1
    have hfuq : ∀ (q : Int), 0 ≤ q → q < 4294967296 → ∀ W, Below w.heap.size w W → Calls Tryd.prog 34 #[.int .u64 q, .int .i64 10] W fun e w' => e = .returned (.string ⟨(Lib.decDigits q.toNat).toArray⟩) ∧ Below W.heap.size W w' := fun q h0 h4 W hb => by
      have := fmtUint_any q.toNat (by omega) W (htab W hb)
      rwa [Int.toNat_of_nonneg h0] at this
    have hpl8 := hcv.len
    have H_hE := Box.mk hE
    have H_hcv := Box.mk hcv
    have H_hidx := Box.mk hidx
    have H_hfit := Box.mk hfit
    have H_hL := Box.mk hL
    have H_hfu := Box.mk hfu
    have H_hkeys := Box.mk hkeys
    have H_hnm := Box.mk hnm
    have H_hfuq := Box.mk hfuq
    clear hE hcv hidx hfit hL hfu hkeys hnm hfuq
    go_enter Tryd.func10, Tryd.ntmps10
    have hb0 := Below.refl w.heap.size w
    go_wp2_with fail
    with_reducible refine (hchk _ (hS.alloc _)).mono ?_
    rintro e w1 ⟨rfl, hc1⟩
    have hb1 : Below w.heap.size w w1 := bchain (by repeat' (first | with_reducible exact hb0 | with_reducible refine Below.drew ?_ | with_reducible refine below_drewN ?_ _ | with_reducible refine Below.alloc ?_ (by have := hb0.size; first | (simp; done) | (simp; omega) | omega) _ | with_reducible refine Below.setCell ?_ (by first | (simp; done) | (simp; omega) | omega) _)) hc1
    have hst1 : Below w.heap.size w w1 := bchain (by repeat' (first | with_reducible exact Below.refl _ _ | with_reducible refine Below.drew ?_ | with_reducible refine below_drewN ?_ _ | with_reducible refine Below.alloc ?_ (by first | (simp; done) | (simp; omega) | omega) _ | with_reducible refine Below.setCell ?_ (by first | (simp; done) | (simp; omega) | omega) _)) hc1
    have X_0 : w1.cell? ⟨w.heap.size, 0, none⟩ = some (.int .i64 l0) := (hc1.cell (p := ⟨w.heap.size, 0, none⟩) (by first | (simp; done) | (simp; omega))).trans (by first | (simp; done) | go_simp)
    have X_1 : w1.cell? ⟨w.heap.size, 1, none⟩ = some (.int .i64 l1) := (hc1.cell (p := ⟨w.heap.size, 1, none⟩) (by first | (simp; done) | (simp; omega))).trans (by first | (simp; done) | go_simp)
    have X_2 : w1.cell? ⟨w.heap.size, 2, none⟩ = some (.int .i64 l2) := (hc1.cell (p := ⟨w.heap.size, 2, none⟩) (by first | (simp; done) | (simp; omega))).trans (by first | (simp; done) | go_simp)
    have X_3 : w1.cell? ⟨w.heap.size, 3, none⟩ = some (.int .i64 l3) := (hc1.cell (p := ⟨w.heap.size, 3, none⟩) (by first | (simp; done) | (simp; omega))).trans (by first | (simp; done) | go_simp)
    have X_4 : w1.cell? ⟨w.heap.size, 4, none⟩ = some (.int .i64 l4) := (hc1.cell (p := ⟨w.heap.size, 4, none⟩) (by first | (simp; done) | (simp; omega))).trans (by first | (simp; done) | go_simp)
    have X_5 : w1.cell? ⟨w.heap.size, 5, none⟩ = some (.int .i64 l5) := (hc1.cell (p := ⟨w.heap.size, 5, none⟩) (by first | (simp; done) | (simp; omega))).trans (by first | (simp; done) | go_simp)
    have X_6 : w1.cell? ⟨w.heap.size, 6, none⟩ = some (.int .i64 l6) := (hc1.cell (p := ⟨w.heap.size, 6, none⟩) (by first | (simp; done) | (simp; omega))).trans (by first | (simp; done) | go_simp)
    have X_7 : w1.cell? ⟨w.heap.size, 7, none⟩ = some (.int .i64 l7) := (hc1.cell (p := ⟨w.heap.size, 7, none⟩) (by first | (simp; done) | (simp; omega))).trans (by first | (simp; done) | go_simp)
    have X_8 : w1.cell? ⟨w.heap.size, 8, none⟩ = some (.int .i64 l8) := (hc1.cell (p := ⟨w.heap.size, 8, none⟩) (by first | (simp; done) | (simp; omega))).trans (by first | (simp; done) | go_simp)
    have X_9 : w1.cell? ⟨w.heap.size, 9, none⟩ = some (.int .u32 s) := (hc1.cell (p := ⟨w.heap.size, 9, none⟩) (by first | (simp; done) | (simp; omega))).trans (by first | (simp; done) | go_simp)
    have X_10 : w1.cell? ⟨w.heap.size, 10, none⟩ = some (.slice a ps.length c) := (hc1.cell (p := ⟨w.heap.size, 10, none⟩) (by first | (simp; done) | (simp; omega))).trans (by first | (simp; done) | go_simp)
    have X_l : w.heap.size < w1.heap.size := Nat.lt_of_lt_of_le (by first | (simp; done) | (simp; omega)) hc1.size
    replace hS := hS.later hst1
    clear hst1
    clear hc1 hb0
    have hb0' := BufIn.fresh w1
    have H_zX := Box.mk X_l
    go_wp2_with fail
    with_reducible refine (hwds _).mono ?_
    rintro e w2 ⟨rfl, hk2, hc2⟩
    have hb2 : Below w.heap.size w w2 := bchain (by repeat' (first | with_reducible exact hb1 | with_reducible refine Below.drew ?_ | with_reducible refine below_drewN ?_ _ | with_reducible refine Below.alloc ?_ (by have := hb1.size; first | (simp; done) | (simp; omega) | omega) _ | with_reducible refine Below.setCell ?_ (by first | (simp; done) | (simp; omega) | omega) _)) hc2
    have hst2 : Below w1.heap.size w1 w2 := bchain (by repeat' (first | with_reducible exact Below.refl _ _ | with_reducible refine Below.drew ?_ | with_reducible refine below_drewN ?_ _ | with_reducible refine Below.alloc ?_ (by first | (simp; done) | (simp; omega) | omega) _ | with_reducible refine Below.setCell ?_ (by first | (simp; done) | (simp; omega) | omega) _)) hc2
    replace X_0 := cell_later hst2 X_0
    replace X_1 := cell_later hst2 X_1
    replace X_2 := cell_later hst2 X_2
    replace X_3 := cell_later hst2 X_3
    replace X_4 := cell_later hst2 X_4
    replace X_5 := cell_later hst2 X_5
    replace X_6 := cell_later hst2 X_6
    replace X_7 := cell_later hst2 X_7
    replace X_8 := cell_later hst2 X_8
    replace X_9 := cell_later hst2 X_9
    replace X_10 := cell_later hst2 X_10
    replace X_l := Nat.lt_of_lt_of_le X_l hst2.size
    replace hS := hS.later hst2
    clear hst2
    clear hc2 hb1
    have hbuf := hb0'.later hk2
    have H_z2 := Box.mk hk2.size
    clear hb0' hk2
    go_wp2_with fail
    with_reducible refine (hrow _).mono ?_
    rintro e w3 ⟨rfl, hk3, hc3⟩
    have hb3 : Below w.heap.size w w3 := bchain (by repeat' (first | with_reducible exact hb2 | with_reducible refine Below.drew ?_ | with_reducible refine below_drewN ?_ _ | with_reducible refine Below.alloc ?_ (by have := hb2.size; first | (simp; done) | (simp; omega) | omega) _ | with_reducible refine Below.setCell ?_ (by first | (simp; done) | (simp; omega) | omega) _)) hc3
    have hst3 : Below w2.heap.size w2 w3 := bchain (by repeat' (first | with_reducible exact Below.refl _ _ | with_reducible refine Below.drew ?_ | with_reducible refine below_drewN ?_ _ | with_reducible refine Below.alloc ?_ (by first | (simp; done) | (simp; omega) | omega) _ | with_reducible refine Below.setCell ?_ (by first | (simp; done) | (simp; omega) | omega) _)) hc3
    replace X_0 := cell_later hst3 X_0
    replace X_1 := cell_later hst3 X_1
    replace X_2 := cell_later hst3 X_2
    replace X_3 := cell_later hst3 X_3
    replace X_4 := cell_later hst3 X_4
    replace X_5 := cell_later hst3 X_5
    replace X_6 := cell_later hst3 X_6
    replace X_7 := cell_later hst3 X_7
    replace X_8 := cell_later hst3 X_8
    replace X_9 := cell_later hst3 X_9
    replace X_10 := cell_later hst3 X_10
    replace X_l := Nat.lt_of_lt_of_le X_l hst3.size
    have Wd_0 : w3.cell? ⟨w2.heap.size, 0, none⟩ = some (.string ⟨#[119, 111, 114, 107, 101, 114, 115]⟩) := (hc3.cell (p := ⟨w2.heap.size, 0, none⟩) (by first | (simp; done) | (simp; omega))).trans (by first | (simp; done) | go_simp)
    have Wd_1 : w3.cell? ⟨w2.heap.size, 1, none⟩ = some (.string ⟨#[115, 104, 97, 114, 100, 115]⟩) := (hc3.cell (p := ⟨w2.heap.size, 1, none⟩) (by first | (simp; done) | (simp; omega))).trans (by first | (simp; done) | go_simp)
    have Wd_2 : w3.cell? ⟨w2.heap.size, 2, none⟩ = some (.string ⟨#[115, 116, 111, 114, 101]⟩) := (hc3.cell (p := ⟨w2.heap.size, 2, none⟩) (by first | (simp; done) | (simp; omega))).trans (by first | (simp; done) | go_simp)
    have Wd_3 : w3.cell? ⟨w2.heap.size, 3, none⟩ = some (.string ⟨#[112, 101, 110, 100, 105, 110, 103]⟩) := (hc3.cell (p := ⟨w2.heap.size, 3, none⟩) (by first | (simp; done) | (simp; omega))).trans (by first | (simp; done) | go_simp)
    have Wd_4 : w3.cell? ⟨w2.heap.size, 4, none⟩ = some (.string ⟨#[105, 110, 98, 111, 120]⟩) := (hc3.cell (p := ⟨w2.heap.size, 4, none⟩) (by first | (simp; done) | (simp; omega))).trans (by first | (simp; done) | go_simp)
    have Wd_5 : w3.cell? ⟨w2.heap.size, 5, none⟩ = some (.string ⟨#[113, 117, 101, 117, 101]⟩) := (hc3.cell (p := ⟨w2.heap.size, 5, none⟩) (by first | (simp; done) | (simp; omega))).trans (by first | (simp; done) | go_simp)
    have Wd_6 : w3.cell? ⟨w2.heap.size, 6, none⟩ = some (.string ⟨#[115, 117, 98, 115]⟩) := (hc3.cell (p := ⟨w2.heap.size, 6, none⟩) (by first | (simp; done) | (simp; omega))).trans (by first | (simp; done) | go_simp)
    have Wd_7 : w3.cell? ⟨w2.heap.size, 7, none⟩ = some (.string ⟨#[115, 101, 115, 115, 105, 111, 110, 115]⟩) := (hc3.cell (p := ⟨w2.heap.size, 7, none⟩) (by first | (simp; done) | (simp; omega))).trans (by first | (simp; done) | go_simp)
    have Wd_8 : w3.cell? ⟨w2.heap.size, 8, none⟩ = some (.string ⟨#[99, 97, 108, 108, 115]⟩) := (hc3.cell (p := ⟨w2.heap.size, 8, none⟩) (by first | (simp; done) | (simp; omega))).trans (by first | (simp; done) | go_simp)
    have Wd_l : w2.heap.size < w3.heap.size := Nat.lt_of_lt_of_le (by first | (simp; done) | (simp; omega)) hc3.size
    replace hS := hS.later hst3
    clear hst3
    clear hc3 hb2
    replace hbuf := hbuf.later (bchain (by repeat' (first | with_reducible exact Below.refl _ _ | with_reducible refine Below.alloc ?_ (Nat.le_refl _) _)) hk3)
    have hWB : Blk w3 w2.heap.size 71 (wordsB.map Value.string) := (Blk.newA w2 w2.heap.size _ 71 (wordsB.map Value.string) rfl rfl).later hk3
    have H_z3 := Box.mk hk3.size
    clear hk3
    obtain ⟨b, hb⟩ : ∃ b, w1.heap.size = b := ⟨_, rfl⟩
    obtain ⟨d, hd⟩ : ∃ d, w2.heap.size = d := ⟨_, rfl⟩
    have hbd : w.heap.size < b := by rw [← hb]; exact H_zX.out
    have hblt : b < d := by have := H_z2.out; simp at this; omega
    have hne : d ≠ b := by omega
    go_wp2_with fail
    simp only [hb, hd] at *
    go_loopw [20] (fun i wr => ∃ k : Nat, k ≤ 9 ∧ i = .int .i64 k ∧ BufIn wr b (linesL L k) ∧ (linesL L k).length ≤ 100 * k ∧ Blk wr d 71 (wordsB.map Value.string) ∧ FromB wr b w3) (fun i _ => 9 - (intOf i).toNat)
    case atStart => exact ⟨0, Nat.zero_le _, rfl, hbuf, by simp [linesL], hWB, ⟨Below.refl _ _, by have h9 := hWB.lt; omega⟩⟩
    case round =>
      clear hbuf hWB
      obtain ⟨k, hk9, rfl, hbuf, hll, hWB, hbw⟩ := hrel
      by_cases hlt : k < 9
      · have hlt' : (k : Int) < 9 := by omega
        have hix := fun W => H_hidx.out k W hlt
        obtain ⟨n1, n40⟩ := fit_rng H_hfit.out hlt
        obtain ⟨N, hN⟩ : ∃ N : Nat, L.l[k]?.getD 0 = (N : Int) := ⟨(L.l[k]?.getD 0).toNat, by omega⟩
        have hwl := words_len k
        have cw : wr.cell? ⟨d, k, none⟩ = some (.string (wordsB[k]?.getD ⟨#[]⟩)) := hWB.cell (by
          rw [List.getElem?_map]
          have : k < wordsB.length := hlt
          rw [List.getElem?_eq_getElem this]; rfl)
        have hline : lineW L k = (wordsB[k]?.getD ⟨#[]⟩).data.toList ++ [32] ++ Lib.decDigits N ++ [10] := by unfold lineW; rw [hN]; rfl
        obtain ⟨wd, hwd⟩ : ∃ wd, wordsB[k]?.getD ⟨#[]⟩ = wd := ⟨_, rfl⟩
        rw [hwd] at hwl cw hline
        obtain ⟨D, hD⟩ : ∃ D : ByteArray, (⟨(Lib.decDigits N).toArray⟩ : ByteArray) = D := ⟨_, rfl⟩
        have hDl : D.size ≤ 20 := by
          rw [← hD]
          have := dec_len N (by omega)
          simpa [ByteArray.size] using this
        have hcall : ∀ W, Calls Tryd.prog 33 #[.int .i64 N] W fun e w' => e = .returned (.string D) ∧ Below W.heap.size W w' := fun W => hD ▸ itoa_any N (by omega) W
        simp only [hN] at hix
        have hcw : (wordsB.map Value.string)[k]? = some (.string wd) := by
          rw [List.getElem?_map]
          have : k < wordsB.length := hlt
          rw [List.getElem?_eq_getElem this, ← hwd, List.getElem?_eq_getElem this]; rfl
        have hbw2 : Below w.heap.size w wr := hb3.trans (hbw.h.mono (by omega))
        have hlen : (linesL L k ++ lineW L k).length ≤ 100 * (k + 1) := by
          rw [hline]
          have := dec_len N (by omega)
          have h2 : wd.data.toList.length = wd.size := Array.length_toList
          simp only [List.length_append, List.length_cons, List.length_nil]
          omega
        have H_hline := Box.mk hline
        have H_hwd := Box.mk hwd
        have H_hD := Box.mk hD
        have H_hN := Box.mk hN
        have H_hcall := Box.mk hcall
        have H_hcw := Box.mk hcw
        have H_hlen := Box.mk hlen
        clear hline hwd hD hN hcall hcw hlen
        clear cw
        go_wp2_with fail
        refine wp_gen fun w11 hc11 => ?_
        have hb11 : Below w.heap.size w w11 := bchain (by repeat' (first | with_reducible exact hbw2 | with_reducible refine Below.drew ?_ | with_reducible refine below_drewN ?_ _ | with_reducible refine Below.alloc ?_ (by have := hbw2.size; first | (simp; done) | (simp; omega) | omega) _ | with_reducible refine Below.setCell ?_ (by first | (simp; done) | (simp; omega) | omega) _)) hc11
        have hst11 : Below wr.heap.size wr w11 := bchain (by repeat' (first | with_reducible exact Below.refl _ _ | with_reducible refine Below.drew ?_ | with_reducible refine below_drewN ?_ _ | with_reducible refine Below.alloc ?_ (by first | (simp; done) | (simp; omega) | omega) _ | with_reducible refine Below.setCell ?_ (by first | (simp; done) | (simp; omega) | omega) _)) hc11
        replace hbuf := hbuf.later hst11
        replace hWB := hWB.later hst11
        replace hbw := hbw.later hst11
        clear hst11
        have KW := cell_on (hWB.cell H_hcw.out)
        refine wp_region_on_tail 8 (by kernel_rfl) (by kernel_rfl) ?_
        simp only [List.take_succ_cons, List.take_zero, List.drop_succ_cons, List.drop_zero]
        repeat (go_big_quiet_step ((first | (go_at_call 33; with_reducible exact calls_on (H_hcall.out _)))))
        refine wpQuiet_nil ?_
        intro w12 hc12
        have hb12 : Below w.heap.size w w12 := bchain (by repeat' (first | with_reducible exact hb11 | with_reducible refine Below.drew ?_ | with_reducible refine below_drewN ?_ _ | with_reducible refine Below.alloc ?_ (by have := hb11.size; first | (simp; done) | (simp; omega) | omega) _ | with_reducible refine Below.setCell ?_ (by first | (simp; done) | (simp; omega) | omega) _)) hc12
        have hst12 : Below w11.heap.size w11 w12 := bchain (by repeat' (first | with_reducible exact Below.refl _ _ | with_reducible refine Below.drew ?_ | with_reducible refine below_drewN ?_ _ | with_reducible refine Below.alloc ?_ (by first | (simp; done) | (simp; omega) | omega) _ | with_reducible refine Below.setCell ?_ (by first | (simp; done) | (simp; omega) | omega) _)) hc12
        replace hbuf := hbuf.later hst12
        replace hWB := hWB.later hst12
        replace hbw := hbw.later hst12
        clear hst12
        go_wp2_with fail
        refine (write_any b (linesL L k) _ _ hbuf ?_).mono ?_
        · rw [cat_size]; omega
        rintro e w13 ⟨rfl, hbuf2, hbB, hok⟩
        have hWB2 : Blk w13 d 71 (wordsB.map Value.string) := hok d _ hWB (by simpa using hne) (fun c fz h => by simp at h)
        have hbw3 := hbw.on hbB
        rw [cat_list, ← H_hD.out] at hbuf2
        have hl3 : linesL L k ++ (wd.data.toList ++ [32] ++ (⟨(Lib.decDigits N).toArray⟩ : ByteArray).data.toList ++ [10]) = linesL L (k + 1) := by rw [linesL_succ, H_hline.out]
        rw [hl3] at hbuf2
        have hl4 : (linesL L (k + 1)).length ≤ 100 * (k + 1) := by rw [linesL_succ]; exact H_hlen.out
        have hb13 : Below w.heap.size w w13 := hb3.trans (hbw3.h.mono (Nat.le_of_lt hbd))
        clear hl3 hbuf hWB hbw hok
        go_wp2_with fail
        go_roundw
        case rel => exact ⟨k + 1, hlt, by go_num, hbuf2, hl4, hWB2, hbw3⟩
        case measure => simp [intOf]; omega
      · obtain rfl : k = 9 := by omega
        clear hlt hk9 hWB
        have hbk : Below w.heap.size w wr := hb3.trans (hbw.h.mono (Nat.le_of_lt hbd))
        replace X_9 := (hbw.h.cell (p := ⟨w.heap.size, 9, none⟩) hbd).trans X_9
        replace X_10 := (hbw.h.cell (p := ⟨w.heap.size, 10, none⟩) hbd).trans X_10
        obtain ⟨D, hD⟩ : ∃ D : ByteArray, (⟨(Lib.decDigits s.toNat).toArray⟩ : ByteArray) = D := ⟨_, rfl⟩
        have hDl : D.size ≤ 20 := by
          rw [← hD]
          have := dec_len s.toNat (by have := hS.s4; omega)
          simpa [ByteArray.size] using this
        have hfu := H_hfu.out
        rw [hD] at hfu
        have H_hD := Box.mk hD
        clear hD
        go_wp2_with fail
        refine (hfu _ hbk).mono ?_
        rintro e w21 ⟨rfl, hc21⟩
        have hb21 : Below w.heap.size w w21 := bchain hbk hc21
        replace hbuf := hbuf.later hc21
        replace hbw := hbw.later hc21
        replace X_10 := cell_later hc21 X_10
        clear hc21
        go_wp2_with fail
        refine (write_any b (linesL L 9) _ _ hbuf ?_).mono ?_
        · rw [sec_size]; omega
        rintro e w22 ⟨rfl, hbuf2, hbB, -⟩
        replace hbw := hbw.on hbB
        rw [sec_list, ← H_hD.out] at hbuf2
        replace hbuf2 : BufIn w22 b (linesL L 9 ++ secL s) := hbuf2
        obtain ⟨base, hbase⟩ : ∃ base, linesL L 9 ++ secL s = base := ⟨_, rfl⟩
        have hbl : base.length ≤ 2000 := by
          have := dec_len s.toNat (by omega)
          rw [← hbase, List.length_append]
          unfold secL
          simp only [List.length_append, List.length_cons, List.length_nil]
          omega
        rw [hbase] at hbuf2
        replace X_10 := (hbB.cell (p := ⟨w.heap.size, 10, none⟩) hbd).trans X_10
        have hb22 : Below w.heap.size w w22 := hb3.trans (hbw.h.mono (Nat.le_of_lt hbd))
        clear hbuf hbB X_9
        have H_hbase := Box.mk hbase
        clear hbase
        go_wp2_with fail
        go_loopw [44] (fun i wr => ∃ k : Nat, k ≤ ps.length ∧ i = .int .i64 k ∧ BufIn wr b (base ++ (ps.take k).flatMap peerL) ∧ (base ++ (ps.take k).flatMap peerL).length ≤ 2000 + 100 * k ∧ FromB wr b w3) (fun i _ => ps.length - (intOf i).toNat)
        case atStart => exact ⟨0, Nat.zero_le _, rfl, by simpa using hbuf2, by simpa using hbl, hbw⟩
        case round =>
          clear hbuf2 hbw hb22
          obtain ⟨k, hkl, rfl, hbuf, hll, hbw⟩ := hrel
          have hbk : Below w.heap.size w wr := hb3.trans (hbw.h.mono (Nat.le_of_lt hbd))
          have hc := Hc0.out.later hbk
          by_cases hlt : k < ps.length
          · have hlt' : (k : Int) < (ps.length : Int) := by omega
            obtain ⟨b1, o1, rfl, g1, g2, hcell⟩ := hc.peers (by omega)
            obtain ⟨c0, c1⟩ := hcell k hlt
            have hkk := H_hkeys.out k hlt
            have hpl := peers_take hlt
            have hnl := H_hnm.out k hlt
            clear hcell hc
            obtain ⟨n, hn⟩ : ∃ n, nm ps k = n := ⟨_, rfl⟩
            obtain ⟨q, hq⟩ : ∃ q, pu ps k = q := ⟨_, rfl⟩
            rw [hn] at c0 hnl hpl
            rw [hq] at c1 hkk hpl
            obtain ⟨q0, q4⟩ := hkk
            have hw64q : IntKind.u64.wrap q = q := by rw [IntKind.wrap_u64]; omega
            have hfq := H_hfuq.out q q0 q4
            obtain ⟨D2, hD2⟩ : ∃ D : ByteArray, (⟨(Lib.decDigits q.toNat).toArray⟩ : ByteArray) = D := ⟨_, rfl⟩
            rw [hD2] at hfq
            have hDl2 : D2.size ≤ 20 := by
              rw [← hD2]
              have := dec_len q.toNat (by omega)
              simpa [ByteArray.size] using this
            have hlen : (base ++ (ps.take (k + 1)).flatMap peerL).length ≤ 2000 + 100 * (k + 1) := by
              have := dec_len q.toNat (by omega)
              have hll2 := hll
              rw [List.length_append] at hll2
              rw [hpl, List.length_append, List.length_append, peerL_len]
              omega
            have H_hpl := Box.mk hpl
            have H_hD2 := Box.mk hD2
            have H_hn := Box.mk hn
            have H_hq := Box.mk hq
            have H_hfq := Box.mk hfq
            have H_hlen := Box.mk hlen
            clear hpl hD2 hn hq hfq hlen
            go_wp2_with fail
            refine wp_gen fun w31 hc31 => ?_
            have hb31 : Below w.heap.size w w31 := bchain (by repeat' (first | with_reducible exact hbk | with_reducible refine Below.drew ?_ | with_reducible refine below_drewN ?_ _ | with_reducible refine Below.alloc ?_ (by have := hbk.size; first | (simp; done) | (simp; omega) | omega) _ | with_reducible refine Below.setCell ?_ (by first | (simp; done) | (simp; omega) | omega) _)) hc31
            have hst31 : Below wr.heap.size wr w31 := bchain (by repeat' (first | with_reducible exact Below.refl _ _ | with_reducible refine Below.drew ?_ | with_reducible refine below_drewN ?_ _ | with_reducible refine Below.alloc ?_ (by first | (simp; done) | (simp; omega) | omega) _ | with_reducible refine Below.setCell ?_ (by first | (simp; done) | (simp; omega) | omega) _)) hc31
            have Q_0 : w31.cell? ⟨wr.heap.size, 0, none⟩ = some (.string n) := (hc31.cell (p := ⟨wr.heap.size, 0, none⟩) (by first | (simp; done) | (simp; omega))).trans (by first | (simp; done) | go_simp)
            have Q_1 : w31.cell? ⟨wr.heap.size, 1, none⟩ = some (.int .u32 q) := (hc31.cell (p := ⟨wr.heap.size, 1, none⟩) (by first | (simp; done) | (simp; omega))).trans (by first | (simp; done) | go_simp)
            have Q_l : wr.heap.size < w31.heap.size := Nat.lt_of_lt_of_le (by first | (simp; done) | (simp; omega)) hc31.size
            replace hbuf := hbuf.later hst31
            replace hbw := hbw.later hst31
            clear hst31
            have KQ_0 := cell_on Q_0
            have KQ_1 := cell_on Q_1
            refine wp_region_on_tail 10 (by kernel_rfl) (by kernel_rfl) ?_
            simp only [List.take_succ_cons, List.take_zero, List.drop_succ_cons, List.drop_zero]
            repeat (go_big_quiet_step ((first | (go_at_call 34; with_reducible exact calls_on (H_hfq.out _ (bchain hb31 (below_later _ _)))))))
            refine wpQuiet_nil ?_
            intro w32 hc32
            clear KQ_0 KQ_1
            have hb32 : Below w.heap.size w w32 := bchain (by repeat' (first | with_reducible exact hb31 | with_reducible refine Below.drew ?_ | with_reducible refine below_drewN ?_ _ | with_reducible refine Below.alloc ?_ (by have := hb31.size; first | (simp; done) | (simp; omega) | omega) _ | with_reducible refine Below.setCell ?_ (by first | (simp; done) | (simp; omega) | omega) _)) hc32
            have hst32 : Below w31.heap.size w31 w32 := bchain (by repeat' (first | with_reducible exact Below.refl _ _ | with_reducible refine Below.drew ?_ | with_reducible refine below_drewN ?_ _ | with_reducible refine Below.alloc ?_ (by first | (simp; done) | (simp; omega) | omega) _ | with_reducible refine Below.setCell ?_ (by first | (simp; done) | (simp; omega) | omega) _)) hc32
            replace Q_0 := cell_later hst32 Q_0
            replace Q_1 := cell_later hst32 Q_1
            replace Q_l := Nat.lt_of_lt_of_le Q_l hst32.size
            replace hbuf := hbuf.later hst32
            replace hbw := hbw.later hst32
            clear hst32
            go_wp2_with fail
            refine (write_any b (base ++ (ps.take k).flatMap peerL) _ _ hbuf ?_).mono ?_
            · rw [peer_size]; omega
            rintro e w33 ⟨rfl, hbuf2, hbB, -⟩
            replace hbw := hbw.on hbB
            rw [peer_list, ← H_hD2.out, List.append_assoc] at hbuf2
            have hl3 : (ps.take k).flatMap peerL ++ ([112, 101, 101, 114, 32] ++ n.data.toList ++ [32] ++ (⟨(Lib.decDigits q.toNat).toArray⟩ : ByteArray).data.toList ++ [10]) = (ps.take (k + 1)).flatMap peerL := H_hpl.out.symm
            rw [hl3] at hbuf2
            have hb33 : Below w.heap.size w w33 := hb3.trans (hbw.h.mono (Nat.le_of_lt hbd))
            clear hl3 hbuf hbB
            go_wp2_with fail
            go_roundw
            case rel => exact ⟨k + 1, hlt, by go_num, hbuf2, H_hlen.out, hbw⟩
            case measure => simp [intOf]; omega
          · obtain rfl : k = ps.length := by omega
            rw [List.take_length, ← H_hbase.out] at hbuf
            have hr : (⟨(linesL L 9 ++ (secL s ++ ps.flatMap peerL)).toArray⟩, 0) = textR 0 L s ps := by unfold textR textL; rw [if_pos rfl, List.append_assoc]
            have H_hr := Box.mk hr
            clear hr
            go_wp2_with fail
            refine (bufString_any b _ _ hbuf).mono ?_
            rintro e w41 ⟨rfl, hbB⟩
            have hb41 : Below w.heap.size w w41 := hbk.trans (hbB.mono (Nat.le_of_lt hbd))
            go_wp2_with fail
            go_ret2
            exact ⟨by rw [← H_hr.out]; exact rfl, (by repeat' (first | with_reducible exact hb41 | with_reducible refine Below.drew ?_ | with_reducible refine below_drewN ?_ _ | with_reducible refine Below.alloc ?_ (by have := hb41.size; first | (simp; done) | (simp; omega) | omega) _ | with_reducible refine Below.setCell ?_ (by first | (simp; done) | (simp; omega) | omega) _))⟩
  · have hr : (⟨#[]⟩, E) = textR E (⟨l0, l1, l2, l3, l4, l5, l6, l7, l8⟩ : Lim) s ps := by unfold textR; rw [if_neg h0]
    have b1 : (E != 0) = true := bne_iff_ne.2 h0
    have H_hE := Box.mk hE
    have H_hr := Box.mk hr
    clear hE hr
    go_enter Tryd.func10, Tryd.ntmps10
    have hb0 := Below.refl w.heap.size w
    go_wp2_with fail
    with_reducible refine (hchk _ (hS.alloc _)).mono ?_
    rintro e w1 ⟨rfl, hc1⟩
    have hb1 : Below w.heap.size w w1 := bchain (by repeat' (first | with_reducible exact hb0 | with_reducible refine Below.drew ?_ | with_reducible refine below_drewN ?_ _ | with_reducible refine Below.alloc ?_ (by have := hb0.size; first | (simp; done) | (simp; omega) | omega) _ | with_reducible refine Below.setCell ?_ (by first | (simp; done) | (simp; omega) | omega) _)) hc1
    have X_0 : w1.cell? ⟨w.heap.size, 0, none⟩ = some (.int .i64 l0) := (hc1.cell (p := ⟨w.heap.size, 0, none⟩) (by first | (simp; done) | (simp; omega))).trans (by first | (simp; done) | go_simp)
    have X_1 : w1.cell? ⟨w.heap.size, 1, none⟩ = some (.int .i64 l1) := (hc1.cell (p := ⟨w.heap.size, 1, none⟩) (by first | (simp; done) | (simp; omega))).trans (by first | (simp; done) | go_simp)
    have X_2 : w1.cell? ⟨w.heap.size, 2, none⟩ = some (.int .i64 l2) := (hc1.cell (p := ⟨w.heap.size, 2, none⟩) (by first | (simp; done) | (simp; omega))).trans (by first | (simp; done) | go_simp)
    have X_3 : w1.cell? ⟨w.heap.size, 3, none⟩ = some (.int .i64 l3) := (hc1.cell (p := ⟨w.heap.size, 3, none⟩) (by first | (simp; done) | (simp; omega))).trans (by first | (simp; done) | go_simp)
    have X_4 : w1.cell? ⟨w.heap.size, 4, none⟩ = some (.int .i64 l4) := (hc1.cell (p := ⟨w.heap.size, 4, none⟩) (by first | (simp; done) | (simp; omega))).trans (by first | (simp; done) | go_simp)
    have X_5 : w1.cell? ⟨w.heap.size, 5, none⟩ = some (.int .i64 l5) := (hc1.cell (p := ⟨w.heap.size, 5, none⟩) (by first | (simp; done) | (simp; omega))).trans (by first | (simp; done) | go_simp)
    have X_6 : w1.cell? ⟨w.heap.size, 6, none⟩ = some (.int .i64 l6) := (hc1.cell (p := ⟨w.heap.size, 6, none⟩) (by first | (simp; done) | (simp; omega))).trans (by first | (simp; done) | go_simp)
    have X_7 : w1.cell? ⟨w.heap.size, 7, none⟩ = some (.int .i64 l7) := (hc1.cell (p := ⟨w.heap.size, 7, none⟩) (by first | (simp; done) | (simp; omega))).trans (by first | (simp; done) | go_simp)
    have X_8 : w1.cell? ⟨w.heap.size, 8, none⟩ = some (.int .i64 l8) := (hc1.cell (p := ⟨w.heap.size, 8, none⟩) (by first | (simp; done) | (simp; omega))).trans (by first | (simp; done) | go_simp)
    have X_9 : w1.cell? ⟨w.heap.size, 9, none⟩ = some (.int .u32 s) := (hc1.cell (p := ⟨w.heap.size, 9, none⟩) (by first | (simp; done) | (simp; omega))).trans (by first | (simp; done) | go_simp)
    have X_10 : w1.cell? ⟨w.heap.size, 10, none⟩ = some (.slice a ps.length c) := (hc1.cell (p := ⟨w.heap.size, 10, none⟩) (by first | (simp; done) | (simp; omega))).trans (by first | (simp; done) | go_simp)
    have X_l : w.heap.size < w1.heap.size := Nat.lt_of_lt_of_le (by first | (simp; done) | (simp; omega)) hc1.size
    clear hc1 hb0
    go_wp2_with fail
    go_ret2
    exact ⟨by rw [← H_hr.out]; exact rfl, (by repeat' (first | with_reducible exact hb1 | with_reducible refine Below.drew ?_ | with_reducible refine below_drewN ?_ _ | with_reducible refine Below.alloc ?_ (by have := hb1.size; first | (simp; done) | (simp; omega) | omega) _ | with_reducible refine Below.setCell ?_ (by first | (simp; done) | (simp; omega) | omega) _))⟩
end Go.Proofs.YthdldmkeoglflaaDoor
