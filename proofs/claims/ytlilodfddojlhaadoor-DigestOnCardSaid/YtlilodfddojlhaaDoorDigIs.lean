/- The law's helper: the digest of a string begins and ends with given bytes. -/
import Derived.Test.YtlilodfddojlhaaDoorDigOf
import Derived.Laws.IdiomStrings
namespace Go.Proofs.YtlilodfddojlhaaDoor
set_option linter.unusedSimpArgs false
set_option linter.unusedVariables false
set_option linter.unnecessarySimpa false
open Go.RowKit

/-- The bytes of a string, as numbers. -/
def numsOf (s : ByteArray) : List Int := s.data.toList.map fun b => (b.toNat : Int)
theorem numsOf_len (s : ByteArray) : (numsOf s).length = s.size := by simp [numsOf]
theorem numsOf_bytes (s : ByteArray) : Bytes8 (numsOf s) := fun x hx => by
  obtain ⟨b, _, rfl⟩ := List.mem_map.1 hx
  have := b.toNat_lt
  omega
theorem bytesRow_cells (w : World) (s : ByteArray) (cap : Nat) (e : TypeId) (fr : Nat × Nat) : CellsAt (w.alloc (.cells (bytesRow s cap) e fr)) (some ⟨w.heap.size, 0, none⟩) ((numsOf s).map (Value.int .u8)) := by
  refine .inr ⟨_, _, rfl, fun j u hj => ?_⟩
  have hjl : j < s.size := by have := (List.getElem?_eq_some_iff.1 hj).1; simpa [numsOf] using this
  have hh : (w.alloc (.cells (bytesRow s cap) e fr)).heap[w.heap.size]? = some (.cells (bytesRow s cap) e fr) := heap_alloc_new w _
  rw [cell_of_row _ _ _ _ _ _ hh, Nat.zero_add]
  have hd : j < s.data.toList.length := by simpa using hjl
  simp [numsOf, List.getElem?_map] at hj
  obtain ⟨b, hb, rfl⟩ := hj
  unfold bytesRow
  rw [Array.getElem?_append_left (by simpa using hjl)]
  simp [hb]

theorem row_cells (w : World) (cs : List Value) (e : TypeId) (fr : Nat × Nat) (H : Nat) (hH : w.heap.size = H) (a : Array Value) (ha : a = cs.toArray) : CellsAt (w.alloc (.cells a e fr)) (some ⟨H, 0, none⟩) cs := by
  subst hH; subst ha
  refine .inr ⟨_, _, rfl, fun j u hj => ?_⟩
  have hh : (w.alloc (.cells cs.toArray e fr)).heap[w.heap.size]? = some (.cells cs.toArray e fr) := heap_alloc_new w _
  rw [cell_of_row _ _ _ _ _ _ hh, Nat.zero_add]
  simpa using hj
/-- '[]byte' of a new '[]byte': the row is marked. -/
theorem run_same_bytes {P : Program} (w : World) (t e : TypeId) (C : Array Value) (m c H : Nat) (hH : w.heap.size = H) (ht : P.underlying t = some (.slice e)) (he : P.underlying e = some (.int .u8)) :
    (convert t t (.slice (some ⟨H, 0, none⟩) m c)).run P (w.alloc (.cells C e)) = .ok (.slice (some ⟨H, 0, none⟩) m c) (w.alloc (.cells C e (C.size, C.size + 1))) := by
  subst hH
  have hsh : (w.alloc (.cells C e)).shape? w.heap.size = some (e, C.size) := by
    have : (w.alloc (.cells C e)).heap[w.heap.size]? = some (.cells C e) := heap_alloc_new w _
    unfold World.shape?
    rw [this]
  have hfr : ∀ (n : Nat), (w.alloc (.cells C e)).freeze ⟨w.heap.size, n, none⟩ 1 = w.alloc (.cells C e (n, n + 1)) := fun n => by
    have hm : ∀ (a : Array Obj) (x : Obj) (f : Obj → Obj), (a.push x).modify a.size f = a.push (f x) := by
      intro a x f
      apply Array.ext
      · simp
      · intro i h1 h2
        simp only [Array.getElem_modify, Array.getElem_push]
        by_cases h : a.size = i
        · subst h
          simp
        · have hi : i < a.size := by simp at h1; omega
          simp [h, hi]
    unfold World.freeze
    rw [if_neg (by decide)]
    show ({ w.alloc (.cells C e) with heap := (w.heap.push (.cells C e)).modify w.heap.size _ } : World) = _
    rw [hm]
    rfl
  simp [convert, run_underlying ht, run_underlying he, markStringish, hsh]
  exact hfr _
theorem sum_r {bs dl : List Int} {dv : List Value} {de : Int} (hD : sumP [bs] = (dl, de)) (hdv : dv = dl.map (Value.int .u8)) (a : Option Addr) (n c : Nat) (w : World) (hn : n = bs.length) (hb : CellsAt w a (bs.map (Value.int .u8))) (h8 : Bytes8 bs) (hl : bs.length ≤ maxLen) (hK : CellsAt w (some ⟨0, 0, none⟩) (kcs.map (Value.int .u32))) (hw0 : 0 < w.heap.size) :
    Calls Tryd.prog 19 #[.slice a n c] w fun e w' =>
      e = .returned (.tuple #[.agg dv.toArray, .int .i64 de]) ∧ Below w.heap.size w w' := by
  have := sum_any bs a n c w hn hb h8 hl hK hw0
  rw [hD, idE_mk, ← hdv] at this; exact this
set_option maxRecDepth 100000 in
set_option maxHeartbeats 4000000 in
theorem is_any (s : ByteArray) (D : List Int) (x0 x1 x2 x3 x31 : Int) (w : World) (hs : s.size ≤ maxLen) (hD : sumP [numsOf s] = (D, 0)) (h0 : D[0]? = some x0) (h1 : D[1]? = some x1) (h2 : D[2]? = some x2) (h3 : D[3]? = some x3) (h31 : D[31]? = some x31)
    (hK : CellsAt w (some ⟨0, 0, none⟩) (kcs.map (Value.int .u32))) (hw0 : 0 < w.heap.size) :
    Calls Tryd.prog 26 #[.string s, .agg #[.int .u8 x0, .int .u8 x1, .int .u8 x2, .int .u8 x3], .int .u8 x31] w fun e w' =>
      e = .returned (.bool true) ∧ Below w.heap.size w w' := by
  have hdl : D.length = 32 := by have := sumP_len [numsOf s]; rw [hD] at this; exact this
  obtain ⟨dv, hdv⟩ : ∃ dv, dv = D.map (Value.int .u8) := ⟨_, rfl⟩
  have hvl : dv.length = 32 := by rw [hdv, List.length_map, hdl]
  have ho : ∀ x ∈ dv, x.oneCell' = true := by rw [hdv]; exact oneCell_ints _ _
  have hi2 : (Tryd.prog.info? 33).map (·.size) = some dv.length := by rw [hvl]; exact info32
  have hlr : dv.length = (List.replicate 32 (Value.int .u8 0)).length := by rw [hvl]; rfl
  have d0 : dv[0]? = some (.int .u8 x0) := by rw [hdv, List.getElem?_map, h0]; rfl
  have d1 : dv[1]? = some (.int .u8 x1) := by rw [hdv, List.getElem?_map, h1]; rfl
  have d2 : dv[2]? = some (.int .u8 x2) := by rw [hdv, List.getElem?_map, h2]; rfl
  have d3 : dv[3]? = some (.int .u8 x3) := by rw [hdv, List.getElem?_map, h3]; rfl
  have d31 : dv[31]? = some (.int .u8 x31) := by rw [hdv, List.getElem?_map, h31]; rfl
  have hsl := hid (numsOf_len s)
  have hnl := hid (show (numsOf s).length ≤ maxLen by rw [numsOf_len]; exact hs)
  have hcv := run_bytes_of_string (P := Tryd.prog) (w.alloc (.cells #[.int .u8 x0, .int .u8 x1, .int .u8 x2, .int .u8 x3] 55)) 9 24 5 s Tryd.underlying9 Tryd.underlying24 Tryd.underlying5
  obtain ⟨cap, hcap⟩ : ∃ cap, cap = grownCap (w.alloc (.cells #[.int .u8 x0, .int .u8 x1, .int .u8 x2, .int .u8 x3] 55)) s.size 0 5 := ⟨_, rfl⟩
  rw [← hcap] at hcv
  obtain ⟨row, hrow⟩ : ∃ row, row = bytesRow s cap := ⟨_, rfl⟩
  rw [← hrow] at hcv
  obtain ⟨ob, hob⟩ : ∃ ob : Obj, ob = .cells row 5 (row.size, row.size + 1) := ⟨_, rfl⟩
  rw [← hob] at hcv
  simp only [World.size_alloc] at hcv
  have H_hD := hid hD
  have H_h0 := hid h0
  have H_h1 := hid h1
  have H_h2 := hid h2
  have H_h3 := hid h3
  have H_h31 := hid h31
  have H_hdl := hid hdl
  have H_hdv := hid hdv
  have H_hvl := hid hvl
  have H_ho := hid ho
  have H_hi2 := hid hi2
  have H_hlr := hid hlr
  have H_d0 := hid d0
  have H_d1 := hid d1
  have H_d2 := hid d2
  have H_d3 := hid d3
  have H_d31 := hid d31
  have H_hcap := hid hcap
  have H_hrow := hid hrow
  have H_hob := hid hob
  clear hD h0 h1 h2 h3 h31 hdl hdv hvl ho hi2 hlr d0 d1 d2 d3 d31 hcap hrow hob
  go_enter Tryd.func26, Tryd.ntmps26
  have hb0 := Below.refl w.heap.size w
  go_wp2_with fail
  have kS : CellsAt ((w.alloc (.cells #[.int .u8 x0, .int .u8 x1, .int .u8 x2, .int .u8 x3] 55)).alloc ob).drew (some ⟨w.heap.size + 1, 0, none⟩) ((numsOf s).map (Value.int .u8)) := by
    rw [H_hob.out, H_hrow.out]
    have := (bytesRow_cells (w.alloc (.cells #[.int .u8 x0, .int .u8 x1, .int .u8 x2, .int .u8 x3] 55)) s cap 5 ((bytesRow s cap).size, (bytesRow s cap).size + 1)).drew
    simpa using this
  with_reducible refine (sum_r H_hD.out H_hdv.out (some ⟨w.heap.size + 1, 0, none⟩) s.size cap _ hsl.out.symm kS (numsOf_bytes s) hnl.out ((by repeat' (first | with_reducible exact hK | with_reducible refine CellsAt.setFar ?_ ?_ _ | with_reducible refine CellsAt.alloc ?_ _ | with_reducible refine CellsAt.drew ?_ | with_reducible refine CellsAt.drewN ?_ _ | assumption | (simp; omega) | omega))) (by simp)).mono ?_
  rintro e w1 ⟨rfl, hc1⟩
  have hb1 : Below w.heap.size w w1 := bchain (by repeat' (first | with_reducible exact hb0 | with_reducible refine Below.drew ?_ | with_reducible refine below_drewN ?_ _ | with_reducible refine Below.alloc ?_ (by have := hb0.size; first | (simp; done) | (simp; omega) | omega) _ | with_reducible refine Below.setCell ?_ (by first | (simp; done) | (simp; omega) | omega) _)) hc1
  have T_0 : w1.cell? ⟨w.heap.size, 0, none⟩ = some (.int .u8 x0) := (hc1.cell (p := ⟨w.heap.size, 0, none⟩) (by first | (simp; done) | (simp; omega))).trans (by first | (simp; done) | go_simp)
  have T_1 : w1.cell? ⟨w.heap.size, 1, none⟩ = some (.int .u8 x1) := (hc1.cell (p := ⟨w.heap.size, 1, none⟩) (by first | (simp; done) | (simp; omega))).trans (by first | (simp; done) | go_simp)
  have T_2 : w1.cell? ⟨w.heap.size, 2, none⟩ = some (.int .u8 x2) := (hc1.cell (p := ⟨w.heap.size, 2, none⟩) (by first | (simp; done) | (simp; omega))).trans (by first | (simp; done) | go_simp)
  have T_3 : w1.cell? ⟨w.heap.size, 3, none⟩ = some (.int .u8 x3) := (hc1.cell (p := ⟨w.heap.size, 3, none⟩) (by first | (simp; done) | (simp; omega))).trans (by first | (simp; done) | go_simp)
  have T_l : w.heap.size < w1.heap.size := Nat.lt_of_lt_of_le (by first | (simp; done) | (simp; omega)) hc1.size
  clear hc1 kS hcv
  have hN1 := Blk.new w1 w1.heap.size (List.replicate 32 (Value.int .u8 0)) 33 rfl
  go_upto_region 2 with (refine wpList_store_blk rfl 33 _ _ rfl w1.heap.size (by rfl) 33 _ dv (by rfl) hN1 H_hlr.out H_hi2.out H_ho.out ?_; intro w2 hD2 he2; have H2 := hid he2; clear he2)
  have hc2 : Below w1.heap.size w1 w2 := H2.out ▸ below_setCells (Nat.le_refl _) _ _ _ ((Below.refl _ _).alloc (Nat.le_refl _) _)
  clear hN1
  have hb2 : Below w.heap.size w w2 := bchain (by repeat' (first | with_reducible exact hb1 | with_reducible refine Below.drew ?_ | with_reducible refine below_drewN ?_ _ | with_reducible refine Below.alloc ?_ (by have := hb1.size; first | (simp; done) | (simp; omega) | omega) _ | with_reducible refine Below.setCell ?_ (by first | (simp; done) | (simp; omega) | omega) _)) hc2
  have hst2 : Below w1.heap.size w1 w2 := bchain (by repeat' (first | with_reducible exact Below.refl _ _ | with_reducible refine Below.drew ?_ | with_reducible refine below_drewN ?_ _ | with_reducible refine Below.alloc ?_ (by first | (simp; done) | (simp; omega) | omega) _ | with_reducible refine Below.setCell ?_ (by first | (simp; done) | (simp; omega) | omega) _)) hc2
  replace T_0 := cell_later hst2 T_0
  replace T_1 := cell_later hst2 T_1
  replace T_2 := cell_later hst2 T_2
  replace T_3 := cell_later hst2 T_3
  replace T_l := Nat.lt_of_lt_of_le T_l hst2.size
  clear hst2
  clear hc2
  have e0 := hD2.cell H_d0.out
  have e1 := hD2.cell H_d1.out
  have e2 := hD2.cell H_d2.out
  have e3 := hD2.cell H_d3.out
  have e31 := hD2.cell H_d31.out
  go_wp2_with fail
  go_ret
  exact ⟨rfl, hb2⟩

end Go.Proofs.YtlilodfddojlhaaDoor
