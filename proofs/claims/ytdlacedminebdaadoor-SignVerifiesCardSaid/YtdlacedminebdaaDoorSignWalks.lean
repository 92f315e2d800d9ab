/- The package sign: what its functions compute. -/
import Derived.Test.YtdlacedminebdaaDoorSignHash
namespace Go.Proofs.YtdlacedminebdaaDoor
set_option linter.unusedSimpArgs false
set_option linter.unusedVariables false
set_option linter.unnecessarySimpa false
open Go.RowKit

def pubK (s : Int) : Int := gpw 4 s.toNat 1000000007
def nonX (s : Int) (bs : List Int) : List Int := 110 :: fours [s] ++ bs
def nonP (s : Int) (bs : List Int) : Int := numL (nonX s bs) % 500000002 + 1
def chaX (r y : Int) (bs : List Int) : List Int := 99 :: fours [r, y] ++ bs
def chaP (r y : Int) (bs : List Int) : Int := numL (chaX r y bs) % 500000003
def sgE (s : Int) (bs : List Int) : Int := chaP (pubK (nonP s bs)) (pubK s) bs
def sgS (s : Int) (bs : List Int) : Int := (nonP s bs + sgE s bs * s % 500000003) % 500000003
theorem pubK_rng (s : Int) : 0 ≤ pubK s ∧ pubK s < 1000000007 := ⟨pw_nonneg _ _ _ (by omega), pw_lt _ _ _ (by omega)⟩
theorem pubK_in (s : Int) : isB (pubK s) = true := isB_pow is_4 _
theorem nonP_rng (s : Int) (bs : List Int) : 1 ≤ nonP s bs ∧ nonP s bs < 500000003 := by unfold nonP; omega
theorem chaP_rng (r y : Int) (bs : List Int) : 0 ≤ chaP r y bs ∧ chaP r y bs < 500000003 := by unfold chaP; omega
theorem sgS_rng (s : Int) (bs : List Int) : 0 ≤ sgS s bs ∧ sgS s bs < 500000003 := by unfold sgS; omega
theorem sgE_rng (s : Int) (bs : List Int) : 0 ≤ sgE s bs ∧ sgE s bs < 500000003 := chaP_rng _ _ _

/-- A message: its cells. -/
structure MsgIn (w : World) (a : Option Addr) (n : Nat) (bs : List Int) : Prop where
  len : n = bs.length
  cells : CellsAt w a (bs.map (Value.int .u8))
  bytes : Bytes8 bs
theorem MsgIn.later {w w' : World} {a : Option Addr} {n : Nat} {bs : List Int} (h : MsgIn w a n bs) (hb : Below w.heap.size w w') : MsgIn w' a n bs := ⟨h.len, h.cells.later hb, h.bytes⟩
/-- The table of constants. -/
structure TabK (w : World) : Prop where
  cells : CellsAt w (some ⟨0, 0, none⟩) (kcs.map (Value.int .u32))
  pos : 0 < w.heap.size
theorem TabK.later {w w' : World} (h : TabK w) (hb : Below w.heap.size w w') : TabK w' := ⟨h.cells.later hb, Nat.lt_of_lt_of_le h.pos hb.size⟩
theorem below_alloc (w : World) (o : Obj) : Below w.heap.size w (w.alloc o) := (Below.refl _ _).alloc (Nat.le_refl _) _

theorem check_ok (s : Int) (w : World) (h1 : 1 ≤ s) (h2 : s < 500000003) :
    Calls Tryd.prog 20 #[.int .u32 s] w fun e w' =>
      e = .returned (.int .i64 0) ∧ w = w' := by
  have e1 : IntKind.u32.wrap (s - 1) = s - 1 := by rw [IntKind.wrap_u32]; omega
  have e2 : s - 1 < 500000002 := by omega
  go_enter Tryd.func20, Tryd.ntmps20
  have hb0 := Below.refl w.heap.size w
  go_wp2_with fail
  go_ret
  exact ⟨rfl, rfl⟩
theorem check_no (s : Int) (w : World) (h0 : 0 ≤ s) (h4 : s < 4294967296) (h : s = 0 ∨ 500000003 ≤ s) :
    Calls Tryd.prog 20 #[.int .u32 s] w fun e w' =>
      e = .returned (.int .i64 2) ∧ w = w' := by
  obtain ⟨z, hz, hz2⟩ : ∃ z, IntKind.u32.wrap (s - 1) = z ∧ 500000002 ≤ z := ⟨_, rfl, by rw [IntKind.wrap_u32]; omega⟩
  clear h
  go_enter Tryd.func20, Tryd.ntmps20
  have hb0 := Below.refl w.heap.size w
  go_wp2_with fail
  go_ret
  exact ⟨rfl, rfl⟩

theorem public_ok (s : Int) (w : World) (h1 : 1 ≤ s) (h2 : s < 500000003) :
    Calls Tryd.prog 12 #[.int .u32 s] w fun e w' =>
      e = .returned (.tuple #[.int .u32 (pubK s), .int .i64 0]) ∧ Below w.heap.size w w' := by
  go_enter Tryd.func12, Tryd.ntmps12
  have hb0 := Below.refl w.heap.size w
  go_wp2_with fail
  refine (check_ok s _ h1 h2).mono ?_
  rintro e w' ⟨rfl, rfl⟩
  go_wp2_with fail
  with_reducible refine (base_I s _ (by omega) (by omega)).mono ?_
  rintro e w1 ⟨rfl, hc1⟩
  have hb1 : Below w.heap.size w w1 := bchain (by repeat' (first | with_reducible exact hb0 | with_reducible refine Below.drew ?_ | with_reducible refine below_drewN ?_ _ | with_reducible refine Below.alloc ?_ (by have := hb0.size; first | (simp; done) | (simp; omega) | omega) _ | with_reducible refine Below.setCell ?_ (by first | (simp; done) | (simp; omega) | omega) _)) hc1
  clear hc1 hb0
  go_wp2_with fail
  go_ret2
  exact ⟨rfl, by repeat' (first | with_reducible exact hb1 | with_reducible refine Below.drew ?_ | with_reducible refine below_drewN ?_ _ | with_reducible refine Below.alloc ?_ (by have := hb1.size; first | (simp; done) | (simp; omega) | omega) _ | with_reducible refine Below.setCell ?_ (by first | (simp; done) | (simp; omega) | omega) _)⟩
theorem public_no (s : Int) (w : World) (h0 : 0 ≤ s) (h4 : s < 4294967296) (h : s = 0 ∨ 500000003 ≤ s) :
    Calls Tryd.prog 12 #[.int .u32 s] w fun e w' =>
      e = .returned (.tuple #[.int .u32 0, .int .i64 2]) ∧ Below w.heap.size w w' := by
  have H := hid h
  clear h
  go_enter Tryd.func12, Tryd.ntmps12
  have hb0 := Below.refl w.heap.size w
  go_wp2_with fail
  refine (check_no s _ h0 h4 H.out).mono ?_
  rintro e w' ⟨rfl, rfl⟩
  go_wp2_with fail
  go_ret2
  exact ⟨rfl, by repeat' (first | with_reducible exact hb0 | with_reducible refine Below.drew ?_ | with_reducible refine below_drewN ?_ _ | with_reducible refine Below.alloc ?_ (by have := hb0.size; first | (simp; done) | (simp; omega) | omega) _ | with_reducible refine Below.setCell ?_ (by first | (simp; done) | (simp; omega) | omega) _)⟩

theorem nonce_ok (s : Int) (bs : List Int) (a : Option Addr) (n c : Nat) (w : World) (h1 : 1 ≤ s) (h2 : s < 500000003) (hm : MsgIn w a n bs) (hn : n ≤ 9991) (hT : TabK w) :
    Calls Tryd.prog 14 #[.int .u32 s, .slice a n c] w fun e w' =>
      e = .returned (.tuple #[.int .u32 (nonP s bs), .int .i64 0]) ∧ Below w.heap.size w w' := by
  obtain ⟨xs, hxs⟩ : ∃ xs, xs = nonX s bs := ⟨_, rfl⟩
  have hxl := hid (show xs = 110 :: fours [s] ++ bs from hxs)
  obtain ⟨hz1, hz2⟩ := numL_rng xs
  have hR := hid (show nonP s bs = numL xs % 500000002 + 1 by rw [hxs]; rfl)
  obtain ⟨z, hz⟩ : ∃ z, numL xs = z := ⟨_, rfl⟩
  rw [hz] at hz1 hz2 hR
  obtain ⟨q, hq⟩ : ∃ q, q = z % 500000002 := ⟨_, rfl⟩
  have hq1 : 0 ≤ q := by omega
  have hq2 : q < 500000002 := by omega
  rw [← hq] at hR
  have e1 : IntKind.u32.wrap q = q := by rw [IntKind.wrap_u32]; omega
  have e2 : IntKind.u32.wrap (q + 1) = q + 1 := by rw [IntKind.wrap_u32]; omega
  have e3 : z % 500000002 = q := hq.symm
  have H_hxs := hid hxs
  have H_hz := hid hz
  clear hxs hz
  clear hq
  go_enter Tryd.func14, Tryd.ntmps14
  have hb0 := Below.refl w.heap.size w
  go_wp2_with fail
  refine (check_ok s _ h1 h2).mono ?_
  rintro e w' ⟨rfl, rfl⟩
  go_wp2_with fail
  with_reducible refine (hash_any 110 [s] bs xs a n c _ 1 _ (by omega) (by omega) rfl (by omega) (by intro x hx; rw [List.mem_singleton.1 hx]; omega) (cellsAt_newL (a := #[.int .u32 s]) _ _ _ rfl) hm.len (hm.cells.alloc _) hm.bytes hn hxl.out (hT.cells.alloc _) (hT.later (below_alloc _ _)).pos).mono ?_
  rintro e w1 ⟨rfl, hc1⟩
  have hb1 : Below w.heap.size w w1 := bchain (by repeat' (first | with_reducible exact hb0 | with_reducible refine Below.drew ?_ | with_reducible refine below_drewN ?_ _ | with_reducible refine Below.alloc ?_ (by have := hb0.size; first | (simp; done) | (simp; omega) | omega) _ | with_reducible refine Below.setCell ?_ (by first | (simp; done) | (simp; omega) | omega) _)) hc1
  clear hc1 hb0
  rw [H_hz.out]
  go_wp2_with fail
  go_ret2
  exact ⟨by rw [hR.out]; rfl, (by repeat' (first | with_reducible exact hb1 | with_reducible refine Below.drew ?_ | with_reducible refine below_drewN ?_ _ | with_reducible refine Below.alloc ?_ (by have := hb1.size; first | (simp; done) | (simp; omega) | omega) _ | with_reducible refine Below.setCell ?_ (by first | (simp; done) | (simp; omega) | omega) _))⟩
theorem nonce_many (s : Int) (a : Option Addr) (n c : Nat) (w : World) (h1 : 1 ≤ s) (h2 : s < 500000003) (hn : 9991 < n) (hn2 : n ≤ 140737488355328) :
    Calls Tryd.prog 14 #[.int .u32 s, .slice a n c] w fun e w' =>
      e = .returned (.tuple #[.int .u32 0, .int .i64 4]) ∧ Below w.heap.size w w' := by
  go_enter Tryd.func14, Tryd.ntmps14
  have hb0 := Below.refl w.heap.size w
  go_wp2_with fail
  refine (check_ok s _ h1 h2).mono ?_
  rintro e w' ⟨rfl, rfl⟩
  go_wp2_with fail
  with_reducible refine (hash_many 110 a _ n c 1 1 _ hn hn2).mono ?_
  rintro e w1 ⟨rfl, hc1⟩
  have hb1 : Below w.heap.size w w1 := bchain (by repeat' (first | with_reducible exact hb0 | with_reducible refine Below.drew ?_ | with_reducible refine below_drewN ?_ _ | with_reducible refine Below.alloc ?_ (by have := hb0.size; first | (simp; done) | (simp; omega) | omega) _ | with_reducible refine Below.setCell ?_ (by first | (simp; done) | (simp; omega) | omega) _)) hc1
  clear hc1 hb0
  go_wp2_with fail
  go_ret2
  exact ⟨rfl, by repeat' (first | with_reducible exact hb1 | with_reducible refine Below.drew ?_ | with_reducible refine below_drewN ?_ _ | with_reducible refine Below.alloc ?_ (by have := hb1.size; first | (simp; done) | (simp; omega) | omega) _ | with_reducible refine Below.setCell ?_ (by first | (simp; done) | (simp; omega) | omega) _)⟩
theorem nonce_no (s : Int) (a : Option Addr) (n c : Nat) (w : World) (h0 : 0 ≤ s) (h4 : s < 4294967296) (h : s = 0 ∨ 500000003 ≤ s) :
    Calls Tryd.prog 14 #[.int .u32 s, .slice a n c] w fun e w' =>
      e = .returned (.tuple #[.int .u32 0, .int .i64 2]) ∧ Below w.heap.size w w' := by
  have H := hid h
  clear h
  go_enter Tryd.func14, Tryd.ntmps14
  have hb0 := Below.refl w.heap.size w
  go_wp2_with fail
  refine (check_no s _ h0 h4 H.out).mono ?_
  rintro e w' ⟨rfl, rfl⟩
  go_wp2_with fail
  go_ret2
  exact ⟨rfl, by repeat' (first | with_reducible exact hb0 | with_reducible refine Below.drew ?_ | with_reducible refine below_drewN ?_ _ | with_reducible refine Below.alloc ?_ (by have := hb0.size; first | (simp; done) | (simp; omega) | omega) _ | with_reducible refine Below.setCell ?_ (by first | (simp; done) | (simp; omega) | omega) _)⟩

theorem challenge_ok (r y : Int) (bs : List Int) (a : Option Addr) (n c : Nat) (w : World) (r0 : 0 ≤ r) (r4 : r < 4294967296) (y0 : 0 ≤ y) (y4 : y < 4294967296) (hm : MsgIn w a n bs) (hn : n ≤ 9991) (hT : TabK w) :
    Calls Tryd.prog 16 #[.int .u32 r, .int .u32 y, .slice a n c] w fun e w' =>
      e = .returned (.tuple #[.int .u32 (chaP r y bs), .int .i64 0]) ∧ Below w.heap.size w w' := by
  obtain ⟨xs, hxs⟩ : ∃ xs, xs = chaX r y bs := ⟨_, rfl⟩
  have hxl := hid (show xs = 99 :: fours [r, y] ++ bs from hxs)
  obtain ⟨hz1, hz2⟩ := numL_rng xs
  have hR := hid (show chaP r y bs = numL xs % 500000003 by rw [hxs]; rfl)
  obtain ⟨z, hz⟩ : ∃ z, numL xs = z := ⟨_, rfl⟩
  rw [hz] at hz1 hz2 hR
  obtain ⟨q, hq⟩ : ∃ q, q = z % 500000003 := ⟨_, rfl⟩
  have hq1 : 0 ≤ q := by omega
  have hq2 : q < 500000003 := by omega
  rw [← hq] at hR
  have e1 : IntKind.u32.wrap q = q := by rw [IntKind.wrap_u32]; omega
  have e3 : z % 500000003 = q := hq.symm
  have H_hxs := hid hxs
  have H_hz := hid hz
  clear hxs hz
  clear hq
  go_enter Tryd.func16, Tryd.ntmps16
  have hb0 := Below.refl w.heap.size w
  go_wp2_with fail
  with_reducible refine (hash_any 99 [r, y] bs xs a n c _ 2 _ (by omega) (by omega) rfl (by omega) (by intro x hx; simp only [List.mem_cons, List.not_mem_nil, or_false] at hx; omega) (cellsAt_newL (a := #[.int .u32 r, .int .u32 y]) _ _ _ rfl) hm.len (hm.cells.alloc _) hm.bytes hn hxl.out (hT.cells.alloc _) (hT.later (below_alloc _ _)).pos).mono ?_
  rintro e w1 ⟨rfl, hc1⟩
  have hb1 : Below w.heap.size w w1 := bchain (by repeat' (first | with_reducible exact hb0 | with_reducible refine Below.drew ?_ | with_reducible refine below_drewN ?_ _ | with_reducible refine Below.alloc ?_ (by have := hb0.size; first | (simp; done) | (simp; omega) | omega) _ | with_reducible refine Below.setCell ?_ (by first | (simp; done) | (simp; omega) | omega) _)) hc1
  clear hc1 hb0
  rw [H_hz.out]
  go_wp2_with fail
  go_ret2
  exact ⟨by rw [hR.out]; rfl, (by repeat' (first | with_reducible exact hb1 | with_reducible refine Below.drew ?_ | with_reducible refine below_drewN ?_ _ | with_reducible refine Below.alloc ?_ (by have := hb1.size; first | (simp; done) | (simp; omega) | omega) _ | with_reducible refine Below.setCell ?_ (by first | (simp; done) | (simp; omega) | omega) _))⟩
theorem challenge_many (r y : Int) (a : Option Addr) (n c : Nat) (w : World) (hn : 9991 < n) (hn2 : n ≤ 140737488355328) :
    Calls Tryd.prog 16 #[.int .u32 r, .int .u32 y, .slice a n c] w fun e w' =>
      e = .returned (.tuple #[.int .u32 0, .int .i64 4]) ∧ Below w.heap.size w w' := by
  go_enter Tryd.func16, Tryd.ntmps16
  have hb0 := Below.refl w.heap.size w
  go_wp2_with fail
  with_reducible refine (hash_many 99 a _ n c 2 2 _ hn hn2).mono ?_
  rintro e w1 ⟨rfl, hc1⟩
  have hb1 : Below w.heap.size w w1 := bchain (by repeat' (first | with_reducible exact hb0 | with_reducible refine Below.drew ?_ | with_reducible refine below_drewN ?_ _ | with_reducible refine Below.alloc ?_ (by have := hb0.size; first | (simp; done) | (simp; omega) | omega) _ | with_reducible refine Below.setCell ?_ (by first | (simp; done) | (simp; omega) | omega) _)) hc1
  clear hc1 hb0
  go_wp2_with fail
  go_ret2
  exact ⟨rfl, by repeat' (first | with_reducible exact hb1 | with_reducible refine Below.drew ?_ | with_reducible refine below_drewN ?_ _ | with_reducible refine Below.alloc ?_ (by have := hb1.size; first | (simp; done) | (simp; omega) | omega) _ | with_reducible refine Below.setCell ?_ (by first | (simp; done) | (simp; omega) | omega) _)⟩

set_option maxRecDepth 100000 in
set_option maxHeartbeats 2000000 in
theorem sign_ok (s : Int) (bs : List Int) (a : Option Addr) (n c : Nat) (w : World) (h1 : 1 ≤ s) (h2 : s < 500000003) (hm : MsgIn w a n bs) (hn : n ≤ 9991) (hT : TabK w) :
    Calls Tryd.prog 18 #[.int .u32 s, .slice a n c] w fun e w' =>
      e = .returned (.tuple #[.agg #[.int .u32 (sgE s bs), .int .u32 (sgS s bs)], .int .i64 0]) ∧ Below w.heap.size w w' := by
  obtain ⟨k, hk⟩ : ∃ k, nonP s bs = k := ⟨_, rfl⟩
  obtain ⟨y, hy⟩ : ∃ y, pubK s = y := ⟨_, rfl⟩
  obtain ⟨r, hr⟩ : ∃ r, pubK k = r := ⟨_, rfl⟩
  obtain ⟨E, hE⟩ : ∃ E, chaP r y bs = E := ⟨_, rfl⟩
  obtain ⟨x, hx⟩ : ∃ x, E * s % 500000003 = x := ⟨_, rfl⟩
  obtain ⟨S, hS⟩ : ∃ S, (k + x) % 500000003 = S := ⟨_, rfl⟩
  have e1 : sgE s bs = E := by unfold sgE; rw [hk, hy, hr, hE]
  have e2 : sgS s bs = S := by unfold sgS; rw [e1, hk, hx, hS]
  have k1 := nonP_rng s bs
  have y1 := pubK_rng s
  have r1 := pubK_rng k
  have E1 := chaP_rng r y bs
  rw [hk] at k1; rw [hy] at y1; rw [hr] at r1; rw [hE] at E1
  obtain ⟨k1, k2⟩ := k1
  obtain ⟨y1, y2⟩ := y1
  obtain ⟨r1, r2⟩ := r1
  obtain ⟨E1, E2⟩ := E1
  have x1 : 0 ≤ x := by omega
  have x2 : x < 500000003 := by omega
  have hwf : ∀ W, Below w.heap.size w W → MsgIn W a n bs ∧ TabK W := fun W h => ⟨hm.later h, hT.later h⟩
  rw [e1, e2]
  have hrk := hid (show gpw 4 k.toNat 1000000007 = r from hr)
  have H_hk := hid hk
  have H_hy := hid hy
  have H_hr := hid hr
  have H_hE := hid hE
  have H_hx := hid hx
  have H_hS := hid hS
  clear hk hy hr hE hx hS
  clear e1 e2
  go_enter Tryd.func18, Tryd.ntmps18
  have hb0 := Below.refl w.heap.size w
  go_wp2_with fail
  with_reducible refine (nonce_ok s bs a n c _ h1 h2 (hm.later (below_alloc _ _)) hn (hT.later (below_alloc _ _))).mono ?_
  rintro e w1 ⟨rfl, hc1⟩
  have hb1 : Below w.heap.size w w1 := bchain (by repeat' (first | with_reducible exact hb0 | with_reducible refine Below.drew ?_ | with_reducible refine below_drewN ?_ _ | with_reducible refine Below.alloc ?_ (by have := hb0.size; first | (simp; done) | (simp; omega) | omega) _ | with_reducible refine Below.setCell ?_ (by first | (simp; done) | (simp; omega) | omega) _)) hc1
  have O_0 : w1.cell? ⟨w.heap.size, 0, none⟩ = some (.int .u32 0) := (hc1.cell (p := ⟨w.heap.size, 0, none⟩) (by first | (simp; done) | (simp; omega))).trans (by first | (simp; done) | go_simp)
  have O_1 : w1.cell? ⟨w.heap.size, 1, none⟩ = some (.int .u32 0) := (hc1.cell (p := ⟨w.heap.size, 1, none⟩) (by first | (simp; done) | (simp; omega))).trans (by first | (simp; done) | go_simp)
  have O_f0 : w1.frozen? ⟨w.heap.size, 0, none⟩ = false := (hc1.frozen (p := ⟨w.heap.size, 0, none⟩) (by first | (simp; done) | (simp; omega))).trans (by first | (simp; done) | go_simp)
  have O_f1 : w1.frozen? ⟨w.heap.size, 1, none⟩ = false := (hc1.frozen (p := ⟨w.heap.size, 1, none⟩) (by first | (simp; done) | (simp; omega))).trans (by first | (simp; done) | go_simp)
  have O_l : w.heap.size < w1.heap.size := Nat.lt_of_lt_of_le (by first | (simp; done) | (simp; omega)) hc1.size
  clear hc1 hb0
  rw [H_hk.out]
  go_wp2_with fail
  with_reducible refine (public_ok s _ h1 h2).mono ?_
  rintro e w2 ⟨rfl, hc2⟩
  have hb2 : Below w.heap.size w w2 := bchain (by repeat' (first | with_reducible exact hb1 | with_reducible refine Below.drew ?_ | with_reducible refine below_drewN ?_ _ | with_reducible refine Below.alloc ?_ (by have := hb1.size; first | (simp; done) | (simp; omega) | omega) _ | with_reducible refine Below.setCell ?_ (by first | (simp; done) | (simp; omega) | omega) _)) hc2
  have hst2 : Below w1.heap.size w1 w2 := bchain (by repeat' (first | with_reducible exact Below.refl _ _ | with_reducible refine Below.drew ?_ | with_reducible refine below_drewN ?_ _ | with_reducible refine Below.alloc ?_ (by first | (simp; done) | (simp; omega) | omega) _ | with_reducible refine Below.setCell ?_ (by first | (simp; done) | (simp; omega) | omega) _)) hc2
  replace O_0 := cell_later hst2 O_0
  replace O_1 := cell_later hst2 O_1
  replace O_f0 := frozen_later hst2 O_l O_f0
  replace O_f1 := frozen_later hst2 O_l O_f1
  replace O_l := Nat.lt_of_lt_of_le O_l hst2.size
  clear hst2
  clear hc2 hb1
  rw [H_hy.out]
  go_wp2_with fail
  with_reducible refine (base_I k _ (by omega) (by omega)).mono ?_
  rintro e w3 ⟨rfl, hc3⟩
  have hb3 : Below w.heap.size w w3 := bchain (by repeat' (first | with_reducible exact hb2 | with_reducible refine Below.drew ?_ | with_reducible refine below_drewN ?_ _ | with_reducible refine Below.alloc ?_ (by have := hb2.size; first | (simp; done) | (simp; omega) | omega) _ | with_reducible refine Below.setCell ?_ (by first | (simp; done) | (simp; omega) | omega) _)) hc3
  have hst3 : Below w2.heap.size w2 w3 := bchain (by repeat' (first | with_reducible exact Below.refl _ _ | with_reducible refine Below.drew ?_ | with_reducible refine below_drewN ?_ _ | with_reducible refine Below.alloc ?_ (by first | (simp; done) | (simp; omega) | omega) _ | with_reducible refine Below.setCell ?_ (by first | (simp; done) | (simp; omega) | omega) _)) hc3
  replace O_0 := cell_later hst3 O_0
  replace O_1 := cell_later hst3 O_1
  replace O_f0 := frozen_later hst3 O_l O_f0
  replace O_f1 := frozen_later hst3 O_l O_f1
  replace O_l := Nat.lt_of_lt_of_le O_l hst3.size
  clear hst3
  clear hc3 hb2
  rw [hrk.out]
  go_wp2_with fail
  with_reducible refine (challenge_ok r y bs a n c _ r1 (by omega) y1 (by omega) (hwf _ hb3).1 hn (hwf _ hb3).2).mono ?_
  rintro e w4 ⟨rfl, hc4⟩
  have hb4 : Below w.heap.size w w4 := bchain (by repeat' (first | with_reducible exact hb3 | with_reducible refine Below.drew ?_ | with_reducible refine below_drewN ?_ _ | with_reducible refine Below.alloc ?_ (by have := hb3.size; first | (simp; done) | (simp; omega) | omega) _ | with_reducible refine Below.setCell ?_ (by first | (simp; done) | (simp; omega) | omega) _)) hc4
  have hst4 : Below w3.heap.size w3 w4 := bchain (by repeat' (first | with_reducible exact Below.refl _ _ | with_reducible refine Below.drew ?_ | with_reducible refine below_drewN ?_ _ | with_reducible refine Below.alloc ?_ (by first | (simp; done) | (simp; omega) | omega) _ | with_reducible refine Below.setCell ?_ (by first | (simp; done) | (simp; omega) | omega) _)) hc4
  replace O_0 := cell_later hst4 O_0
  replace O_1 := cell_later hst4 O_1
  replace O_f0 := frozen_later hst4 O_l O_f0
  replace O_f1 := frozen_later hst4 O_l O_f1
  replace O_l := Nat.lt_of_lt_of_le O_l hst4.size
  clear hst4
  clear hc4 hb3
  rw [H_hE.out]
  go_wp2_with fail
  with_reducible refine (times_ok E s _ E1 E2 (by omega) h2).mono ?_
  rintro e w5 ⟨rfl, hc5⟩
  have hb5 : Below w.heap.size w w5 := bchain (by repeat' (first | with_reducible exact hb4 | with_reducible refine Below.drew ?_ | with_reducible refine below_drewN ?_ _ | with_reducible refine Below.alloc ?_ (by have := hb4.size; first | (simp; done) | (simp; omega) | omega) _ | with_reducible refine Below.setCell ?_ (by first | (simp; done) | (simp; omega) | omega) _)) hc5
  have hst5 : Below w4.heap.size w4 w5 := bchain (by repeat' (first | with_reducible exact Below.refl _ _ | with_reducible refine Below.drew ?_ | with_reducible refine below_drewN ?_ _ | with_reducible refine Below.alloc ?_ (by first | (simp; done) | (simp; omega) | omega) _ | with_reducible refine Below.setCell ?_ (by first | (simp; done) | (simp; omega) | omega) _)) hc5
  replace O_0 := cell_later hst5 O_0
  replace O_1 := cell_later hst5 O_1
  replace O_f0 := frozen_later hst5 O_l O_f0
  replace O_f1 := frozen_later hst5 O_l O_f1
  replace O_l := Nat.lt_of_lt_of_le O_l hst5.size
  clear hst5
  clear hc5 hb4
  rw [H_hx.out]
  go_wp2_with fail
  refine (plus_ok k x _ (by omega) k2 x1 x2).mono ?_
  rintro e w' ⟨rfl, rfl⟩
  rw [H_hS.out]
  go_wp2_with fail
  refine bodyPost_ret (v := .tuple #[.agg #[.int .u32 E, .int .u32 S], .int .i64 0]) (by simp [results, Tryd.results18, go_sem, *]) rfl ⟨rfl, ?_⟩
  exact (by repeat' (first | with_reducible exact hb5 | with_reducible refine Below.drew ?_ | with_reducible refine below_drewN ?_ _ | with_reducible refine Below.alloc ?_ (by have := hb5.size; first | (simp; done) | (simp; omega) | omega) _ | with_reducible refine Below.setCell ?_ (by first | (simp; done) | (simp; omega) | omega) _))
theorem sign_many (s : Int) (a : Option Addr) (n c : Nat) (w : World) (h1 : 1 ≤ s) (h2 : s < 500000003) (hn : 9991 < n) (hn2 : n ≤ 140737488355328) :
    Calls Tryd.prog 18 #[.int .u32 s, .slice a n c] w fun e w' =>
      e = .returned (.tuple #[.agg #[.int .u32 0, .int .u32 0], .int .i64 4]) ∧ Below w.heap.size w w' := by
  go_enter Tryd.func18, Tryd.ntmps18
  have hb0 := Below.refl w.heap.size w
  go_wp2_with fail
  with_reducible refine (nonce_many s a n c _ h1 h2 hn hn2).mono ?_
  rintro e w1 ⟨rfl, hc1⟩
  have hb1 : Below w.heap.size w w1 := bchain (by repeat' (first | with_reducible exact hb0 | with_reducible refine Below.drew ?_ | with_reducible refine below_drewN ?_ _ | with_reducible refine Below.alloc ?_ (by have := hb0.size; first | (simp; done) | (simp; omega) | omega) _ | with_reducible refine Below.setCell ?_ (by first | (simp; done) | (simp; omega) | omega) _)) hc1
  have O_0 : w1.cell? ⟨w.heap.size, 0, none⟩ = some (.int .u32 0) := (hc1.cell (p := ⟨w.heap.size, 0, none⟩) (by first | (simp; done) | (simp; omega))).trans (by first | (simp; done) | go_simp)
  have O_1 : w1.cell? ⟨w.heap.size, 1, none⟩ = some (.int .u32 0) := (hc1.cell (p := ⟨w.heap.size, 1, none⟩) (by first | (simp; done) | (simp; omega))).trans (by first | (simp; done) | go_simp)
  have O_f0 : w1.frozen? ⟨w.heap.size, 0, none⟩ = false := (hc1.frozen (p := ⟨w.heap.size, 0, none⟩) (by first | (simp; done) | (simp; omega))).trans (by first | (simp; done) | go_simp)
  have O_f1 : w1.frozen? ⟨w.heap.size, 1, none⟩ = false := (hc1.frozen (p := ⟨w.heap.size, 1, none⟩) (by first | (simp; done) | (simp; omega))).trans (by first | (simp; done) | go_simp)
  have O_l : w.heap.size < w1.heap.size := Nat.lt_of_lt_of_le (by first | (simp; done) | (simp; omega)) hc1.size
  clear hc1 hb0
  go_wp2_with fail
  refine bodyPost_ret (v := .tuple #[.agg #[.int .u32 0, .int .u32 0], .int .i64 4]) (by simp [results, Tryd.results18, go_sem, *]) rfl ⟨rfl, ?_⟩
  exact (by repeat' (first | with_reducible exact hb1 | with_reducible refine Below.drew ?_ | with_reducible refine below_drewN ?_ _ | with_reducible refine Below.alloc ?_ (by have := hb1.size; first | (simp; done) | (simp; omega) | omega) _ | with_reducible refine Below.setCell ?_ (by first | (simp; done) | (simp; omega) | omega) _))
theorem sign_no (s : Int) (a : Option Addr) (n c : Nat) (w : World) (h0 : 0 ≤ s) (h4 : s < 4294967296) (h : s = 0 ∨ 500000003 ≤ s) :
    Calls Tryd.prog 18 #[.int .u32 s, .slice a n c] w fun e w' =>
      e = .returned (.tuple #[.agg #[.int .u32 0, .int .u32 0], .int .i64 2]) ∧ Below w.heap.size w w' := by
  have H := hid h
  clear h
  go_enter Tryd.func18, Tryd.ntmps18
  have hb0 := Below.refl w.heap.size w
  go_wp2_with fail
  with_reducible refine (nonce_no s a n c _ h0 h4 H.out).mono ?_
  rintro e w1 ⟨rfl, hc1⟩
  have hb1 : Below w.heap.size w w1 := bchain (by repeat' (first | with_reducible exact hb0 | with_reducible refine Below.drew ?_ | with_reducible refine below_drewN ?_ _ | with_reducible refine Below.alloc ?_ (by have := hb0.size; first | (simp; done) | (simp; omega) | omega) _ | with_reducible refine Below.setCell ?_ (by first | (simp; done) | (simp; omega) | omega) _)) hc1
  have O_0 : w1.cell? ⟨w.heap.size, 0, none⟩ = some (.int .u32 0) := (hc1.cell (p := ⟨w.heap.size, 0, none⟩) (by first | (simp; done) | (simp; omega))).trans (by first | (simp; done) | go_simp)
  have O_1 : w1.cell? ⟨w.heap.size, 1, none⟩ = some (.int .u32 0) := (hc1.cell (p := ⟨w.heap.size, 1, none⟩) (by first | (simp; done) | (simp; omega))).trans (by first | (simp; done) | go_simp)
  have O_f0 : w1.frozen? ⟨w.heap.size, 0, none⟩ = false := (hc1.frozen (p := ⟨w.heap.size, 0, none⟩) (by first | (simp; done) | (simp; omega))).trans (by first | (simp; done) | go_simp)
  have O_f1 : w1.frozen? ⟨w.heap.size, 1, none⟩ = false := (hc1.frozen (p := ⟨w.heap.size, 1, none⟩) (by first | (simp; done) | (simp; omega))).trans (by first | (simp; done) | go_simp)
  have O_l : w.heap.size < w1.heap.size := Nat.lt_of_lt_of_le (by first | (simp; done) | (simp; omega)) hc1.size
  clear hc1 hb0
  go_wp2_with fail
  refine bodyPost_ret (v := .tuple #[.agg #[.int .u32 0, .int .u32 0], .int .i64 2]) (by simp [results, Tryd.results18, go_sem, *]) rfl ⟨rfl, ?_⟩
  exact (by repeat' (first | with_reducible exact hb1 | with_reducible refine Below.drew ?_ | with_reducible refine below_drewN ?_ _ | with_reducible refine Below.alloc ?_ (by have := hb1.size; first | (simp; done) | (simp; omega) | omega) _ | with_reducible refine Below.setCell ?_ (by first | (simp; done) | (simp; omega) | omega) _))

end Go.Proofs.YtdlacedminebdaaDoor
