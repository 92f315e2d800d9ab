/- DigestPieces: the law's function returns true. -/
import Derived.Test.YtlilodfddojlhaaDoorDigSumW
import Derived.Test.YtlilodfddojlhaaDoorDigAlive
namespace Go.Proofs.YtlilodfddojlhaaDoor
set_option linter.unusedSimpArgs false
set_option linter.unusedVariables false
set_option linter.unnecessarySimpa false
open Go.RowKit

theorem OwnX.ne_blk {w : World} {base : Nat} {e t : TypeId} {size : Nat} {a : Option Addr} {n m c B : Nat} {xs cs : List Value} (h : OwnX w base e size (.slice a m c) n xs) (hb : Blk w B t cs) (ht : e ≠ t) : ∀ ad, a = some ad → ad.block ≠ B := by
  intro ad had e'
  subst had
  rcases h.2 with ⟨h1, _⟩ | ⟨g, cap, cur, h1, _, h2, _⟩
  · cases h1
  · cases h1
    simp only at e'
    subst e'
    have := h2.symm.trans hb
    simp at this
    exact ht this.2
theorem OwnX.cellsFar {w : World} {base : Nat} {e : TypeId} {size : Nat} {a : Option Addr} {n m c B : Nat} {xs : List Value} (h : OwnX w base e size (.slice a m c) n xs) (hne : ∀ ad, a = some ad → ad.block ≠ B) (vs : List Value) : OwnX (w.setCells B 0 vs) base e size (.slice a m c) n xs := by
  refine h.kept (row := some B) (gb_setCells _ _ _ (World.grownBy.refl _ _)) ?_
  cases a with
  | none => left; rfl
  | some ad =>
    right
    intro e'
    simp only [Value.ownBlock, Option.some.injEq] at e'
    exact hne ad rfl e'
theorem Bytes8.nil : Bytes8 [] := fun _ h => by cases h
theorem addM_of (bs ys : List Int) (h : bs.length + ys.length ≤ 200000) : addM (mill v0c.list bs) (restL bs) bs.length ys = (mill v0c.list (bs ++ ys), restL (bs ++ ys), ((bs ++ ys).length : Int), 0) := by
  unfold addM
  have e1 : vdB bs.length (restL bs).length = true := by unfold vdB; rw [restL_len]; simp; omega
  rw [e1, if_neg (by simp), if_neg (by omega), mill_append]
  have := restL_append bs ys
  conv at this => lhs; unfold restL
  rw [← this, List.length_append]
  unfold restL
  simp
theorem endM_ofL (bs : List Int) (h : bs.length ≤ 200000) : endM (mill v0c.list bs) (restL bs) bs.length = (ofL bs, 0) := by
  unfold endM
  have e1 : vdB bs.length (restL bs).length = true := by unfold vdB; rw [restL_len]; simp; omega
  rw [e1, if_neg (by simp), Int.toNat_natCast, endL_of]
theorem flat_len_at {l : List (List Int)} {x : List Int} (h : x ∈ l) : x.length ≤ l.flatten.length := by
  induction l with
  | nil => cases h
  | cons y r ih =>
    simp only [List.flatten_cons, List.length_append]
    rcases List.mem_cons.1 h with rfl | h'
    · omega
    · have := ih h'; omega
theorem sumP_ok {l : List (List Int)} (h : l.length ≤ 20) (hs : l.flatten.length ≤ 1500) : sumP l = (ofL l.flatten, 0) := by
  unfold sumP
  rw [if_neg]
  rintro (h' | h')
  · omega
  · obtain ⟨x, hx, hl⟩ := List.any_eq_true.1 h'
    have := flat_len_at hx
    simp [longB] at hl
    omega
/-- A mill and no error. -/
def VM (B : Nat) (u : V8) (m : Nat) (rs : List Int) (N : Int) : Value → World → Prop := fun v w => ∃ a c, v = .tuple #[.agg #[.int .u32 u.a, .int .u32 u.b, .int .u32 u.c, .int .u32 u.d, .int .u32 u.e, .int .u32 u.f, .int .u32 u.g, .int .u32 u.z, .slice a m c, .int .i64 N], .int .i64 0] ∧ OwnX w B 5 1 (.slice a m c) m (rs.map (Value.int .u8))
theorem VM.last {B : Nat} {u : V8} {m : Nat} {rs : List Int} {N : Int} (v : Value) (w w' : World) (h : VM B u m rs N v w) (hb : Below w.heap.size w w') : VM B u m rs N v w' :=
  let ⟨a, c, h1, h2⟩ := h
  ⟨a, c, h1, h2.later hb⟩
/-- Such a mill, stored. -/
def VS (B : Nat) (u : V8) (m : Nat) (rs : List Int) (N : Int) (p : Value) : Value → World → Prop := fun _ w => ∃ b a c, p = .pointer (some ⟨b, 0, none⟩) ∧ B ≤ b ∧ Blk w b 26 [.int .u32 u.a, .int .u32 u.b, .int .u32 u.c, .int .u32 u.d, .int .u32 u.e, .int .u32 u.f, .int .u32 u.g, .int .u32 u.z, .slice a m c, .int .i64 N] ∧ CellsAt w a (rs.map (Value.int .u8)) ∧ (∀ ad, a = some ad → B ≤ ad.block)
theorem VS.last {B : Nat} {u : V8} {m : Nat} {rs : List Int} {N : Int} {p : Value} (v : Value) (w w' : World) (h : VS B u m rs N p v w) (hb : Below w.heap.size w w') : VS B u m rs N p v w' :=
  let ⟨b, a, c, h1, h2, h3, h4, h5⟩ := h
  ⟨b, a, c, h1, h2, h3.later hb, h4.later hb, h5⟩
def MillE (B : Nat) (u : V8) (m : Nat) (rs : List Int) (N : Int) (w : World) (e : Ending) : Prop := ∃ a c, e = .returned (.tuple #[.agg #[.int .u32 u.a, .int .u32 u.b, .int .u32 u.c, .int .u32 u.d, .int .u32 u.e, .int .u32 u.f, .int .u32 u.g, .int .u32 u.z, .slice a m c, .int .i64 N], .int .i64 0]) ∧ OwnX w B 5 1 (.slice a m c) m (rs.map (Value.int .u8))
set_option maxRecDepth 100000 in
set_option maxHeartbeats 4000000 in
theorem add_of (bs ys xs : List Int) {u u2 : V8} (hu : u.list = mill v0c.list bs) (hx : xs = bs ++ ys) (hu2 : u2.list = mill v0c.list xs) (N M rn m : Nat) (hN : N = bs.length) (hM : M = xs.length) (hrn : rn = (restL bs).length) (hm : m = (restL xs).length) (ra ba : Option Addr) (rc bn bc : Nat) (w : World) (hbn : bn = ys.length)
    (hr : CellsAt w ra ((restL bs).map (Value.int .u8))) (hy : CellsAt w ba (ys.map (Value.int .u8))) (hb8 : Bytes8 bs) (hy8 : Bytes8 ys) (hK : CellsAt w (some ⟨0, 0, none⟩) (kcs.map (Value.int .u32))) (hw0 : 0 < w.heap.size) (hl : xs.length ≤ 200000) :
    Calls Tryd.prog 9 #[.agg #[.int .u32 u.a, .int .u32 u.b, .int .u32 u.c, .int .u32 u.d, .int .u32 u.e, .int .u32 u.f, .int .u32 u.g, .int .u32 u.z, .slice ra rn rc, .int .i64 N], .slice ba bn bc] w fun e w' =>
      MillE w.heap.size u2 m (restL xs) M w' e ∧ Below w.heap.size w w' := by
  have hlen := hl
  rw [hx, List.length_append, ← hN, ← hbn] at hlen
  have hrl := restL_len bs
  rw [← hrn, ← hN] at hrl
  have H1 := hid (show vdB N rn = true by unfold vdB; simp; omega)
  have hN1 : (N : Int) ≤ 200000 := by omega
  have h3 : (bn : Int) ≤ 200000 - N := by omega
  have HMN := hid (show (M : Int) = (N : Int) + (bn : Int) by rw [hM, hx, List.length_append, hN, hbn]; omega)
  have hsum : rn + bn ≤ 140737488355327 := by omega
  have HVK := hid (mill_ok v0c_ok bs hu)
  have hr8 := hb8.rest
  have H2 : Hid (∀ a c m2 w', m2 = (restL bs ++ ys).length % 64 → OwnX w' w.heap.size 5 1 (.slice a m2 c) m2 (((restL bs ++ ys).drop ((restL bs ++ ys).length / 64 * 64)).map (Value.int .u8)) → m2 = m ∧ OwnX w' w.heap.size 5 1 (.slice a m c) m ((restL xs).map (Value.int .u8))) := hid fun a c m2 w' h o => by
    have e1 : restL (restL bs ++ ys) = restL xs := by rw [hx]; exact restL_append bs ys
    have e2 : m2 = m := by rw [h, hm, ← e1, restL_len]
    subst e2
    refine ⟨rfl, ?_⟩
    rw [← e1]
    exact o
  have H3 : Hid (∀ u', V8.list u' = mill u.list (restL bs ++ ys) → u' = u2) := hid fun u' h => V8.inj (by rw [h, hu, mill_append, hu2, hx])
  obtain ⟨rs, hrs⟩ : ∃ rs, rs = restL bs := ⟨_, rfl⟩
  rw [← hrs] at H2 H3 hr hr8 hrn
  have HRN := hid hrn
  have HBN := hid hbn
  clear hrn hbn hrs hm hM hu hx hu2 hl hlen hrl hN
  go_enter Tryd.func9, Tryd.ntmps9
  have hb0 := Below.refl w.heap.size w
  go_wp2_with fail
  with_reducible refine (valid_any u ra rn rc N _).mono ?_
  rintro e w1 ⟨rfl, hc1⟩
  have hr1 : CellsAt w1 ra (rs.map (Value.int .u8)) := hr.later (bchain (by repeat' (first | with_reducible exact hb0 | with_reducible refine Below.drew ?_ | with_reducible refine below_drewN ?_ _ | with_reducible refine Below.alloc ?_ (by have := hb0.size; first | (simp; done) | (simp; omega) | omega) _ | with_reducible refine Below.setCell ?_ (by first | (simp; done) | (simp; omega) | omega) _)) hc1)
  have hy1 : CellsAt w1 ba (ys.map (Value.int .u8)) := hy.later (bchain (by repeat' (first | with_reducible exact hb0 | with_reducible refine Below.drew ?_ | with_reducible refine below_drewN ?_ _ | with_reducible refine Below.alloc ?_ (by have := hb0.size; first | (simp; done) | (simp; omega) | omega) _ | with_reducible refine Below.setCell ?_ (by first | (simp; done) | (simp; omega) | omega) _)) hc1)
  have hK1 : CellsAt w1 (some ⟨0, 0, none⟩) (kcs.map (Value.int .u32)) := hK.later (bchain (by repeat' (first | with_reducible exact hb0 | with_reducible refine Below.drew ?_ | with_reducible refine below_drewN ?_ _ | with_reducible refine Below.alloc ?_ (by have := hb0.size; first | (simp; done) | (simp; omega) | omega) _ | with_reducible refine Below.setCell ?_ (by first | (simp; done) | (simp; omega) | omega) _)) hc1)
  have hw1 : 0 < w1.heap.size := Nat.lt_of_lt_of_le hw0 (bchain (by repeat' (first | with_reducible exact hb0 | with_reducible refine Below.drew ?_ | with_reducible refine below_drewN ?_ _ | with_reducible refine Below.alloc ?_ (by have := hb0.size; first | (simp; done) | (simp; omega) | omega) _ | with_reducible refine Below.setCell ?_ (by first | (simp; done) | (simp; omega) | omega) _)) hc1).size
  have hb1 : Below w.heap.size w w1 := bchain (by repeat' (first | with_reducible exact hb0 | with_reducible refine Below.drew ?_ | with_reducible refine below_drewN ?_ _ | with_reducible refine Below.alloc ?_ (by have := hb0.size; first | (simp; done) | (simp; omega) | omega) _ | with_reducible refine Below.setCell ?_ (by first | (simp; done) | (simp; omega) | omega) _)) hc1
  have M_0 : w1.cell? ⟨w.heap.size, 0, none⟩ = some (.int .u32 u.a) := (hc1.cell (p := ⟨w.heap.size, 0, none⟩) (by first | (simp; done) | (simp; omega))).trans (by first | (simp; done) | go_simp)
  have M_1 : w1.cell? ⟨w.heap.size, 1, none⟩ = some (.int .u32 u.b) := (hc1.cell (p := ⟨w.heap.size, 1, none⟩) (by first | (simp; done) | (simp; omega))).trans (by first | (simp; done) | go_simp)
  have M_2 : w1.cell? ⟨w.heap.size, 2, none⟩ = some (.int .u32 u.c) := (hc1.cell (p := ⟨w.heap.size, 2, none⟩) (by first | (simp; done) | (simp; omega))).trans (by first | (simp; done) | go_simp)
  have M_3 : w1.cell? ⟨w.heap.size, 3, none⟩ = some (.int .u32 u.d) := (hc1.cell (p := ⟨w.heap.size, 3, none⟩) (by first | (simp; done) | (simp; omega))).trans (by first | (simp; done) | go_simp)
  have M_4 : w1.cell? ⟨w.heap.size, 4, none⟩ = some (.int .u32 u.e) := (hc1.cell (p := ⟨w.heap.size, 4, none⟩) (by first | (simp; done) | (simp; omega))).trans (by first | (simp; done) | go_simp)
  have M_5 : w1.cell? ⟨w.heap.size, 5, none⟩ = some (.int .u32 u.f) := (hc1.cell (p := ⟨w.heap.size, 5, none⟩) (by first | (simp; done) | (simp; omega))).trans (by first | (simp; done) | go_simp)
  have M_6 : w1.cell? ⟨w.heap.size, 6, none⟩ = some (.int .u32 u.g) := (hc1.cell (p := ⟨w.heap.size, 6, none⟩) (by first | (simp; done) | (simp; omega))).trans (by first | (simp; done) | go_simp)
  have M_7 : w1.cell? ⟨w.heap.size, 7, none⟩ = some (.int .u32 u.z) := (hc1.cell (p := ⟨w.heap.size, 7, none⟩) (by first | (simp; done) | (simp; omega))).trans (by first | (simp; done) | go_simp)
  have M_8 : w1.cell? ⟨w.heap.size, 8, none⟩ = some (.slice ra rn rc) := (hc1.cell (p := ⟨w.heap.size, 8, none⟩) (by first | (simp; done) | (simp; omega))).trans (by first | (simp; done) | go_simp)
  have M_9 : w1.cell? ⟨w.heap.size, 9, none⟩ = some (.int .i64 N) := (hc1.cell (p := ⟨w.heap.size, 9, none⟩) (by first | (simp; done) | (simp; omega))).trans (by first | (simp; done) | go_simp)
  have M_f0 : w1.frozen? ⟨w.heap.size, 0, none⟩ = false := (hc1.frozen (p := ⟨w.heap.size, 0, none⟩) (by first | (simp; done) | (simp; omega))).trans (by first | (simp; done) | go_simp)
  have M_f1 : w1.frozen? ⟨w.heap.size, 1, none⟩ = false := (hc1.frozen (p := ⟨w.heap.size, 1, none⟩) (by first | (simp; done) | (simp; omega))).trans (by first | (simp; done) | go_simp)
  have M_f2 : w1.frozen? ⟨w.heap.size, 2, none⟩ = false := (hc1.frozen (p := ⟨w.heap.size, 2, none⟩) (by first | (simp; done) | (simp; omega))).trans (by first | (simp; done) | go_simp)
  have M_f3 : w1.frozen? ⟨w.heap.size, 3, none⟩ = false := (hc1.frozen (p := ⟨w.heap.size, 3, none⟩) (by first | (simp; done) | (simp; omega))).trans (by first | (simp; done) | go_simp)
  have M_f4 : w1.frozen? ⟨w.heap.size, 4, none⟩ = false := (hc1.frozen (p := ⟨w.heap.size, 4, none⟩) (by first | (simp; done) | (simp; omega))).trans (by first | (simp; done) | go_simp)
  have M_f5 : w1.frozen? ⟨w.heap.size, 5, none⟩ = false := (hc1.frozen (p := ⟨w.heap.size, 5, none⟩) (by first | (simp; done) | (simp; omega))).trans (by first | (simp; done) | go_simp)
  have M_f6 : w1.frozen? ⟨w.heap.size, 6, none⟩ = false := (hc1.frozen (p := ⟨w.heap.size, 6, none⟩) (by first | (simp; done) | (simp; omega))).trans (by first | (simp; done) | go_simp)
  have M_f7 : w1.frozen? ⟨w.heap.size, 7, none⟩ = false := (hc1.frozen (p := ⟨w.heap.size, 7, none⟩) (by first | (simp; done) | (simp; omega))).trans (by first | (simp; done) | go_simp)
  have M_f8 : w1.frozen? ⟨w.heap.size, 8, none⟩ = false := (hc1.frozen (p := ⟨w.heap.size, 8, none⟩) (by first | (simp; done) | (simp; omega))).trans (by first | (simp; done) | go_simp)
  have M_f9 : w1.frozen? ⟨w.heap.size, 9, none⟩ = false := (hc1.frozen (p := ⟨w.heap.size, 9, none⟩) (by first | (simp; done) | (simp; omega))).trans (by first | (simp; done) | go_simp)
  have M_l : w.heap.size < w1.heap.size := Nat.lt_of_lt_of_le (by first | (simp; done) | (simp; omega)) hc1.size
  have R_0 : w1.cell? ⟨w.heap.size + 1, 0, none⟩ = some (.int .u32 0) := (hc1.cell (p := ⟨w.heap.size + 1, 0, none⟩) (by first | (simp; done) | (simp; omega))).trans (by first | (simp; done) | go_simp)
  have R_1 : w1.cell? ⟨w.heap.size + 1, 1, none⟩ = some (.int .u32 0) := (hc1.cell (p := ⟨w.heap.size + 1, 1, none⟩) (by first | (simp; done) | (simp; omega))).trans (by first | (simp; done) | go_simp)
  have R_2 : w1.cell? ⟨w.heap.size + 1, 2, none⟩ = some (.int .u32 0) := (hc1.cell (p := ⟨w.heap.size + 1, 2, none⟩) (by first | (simp; done) | (simp; omega))).trans (by first | (simp; done) | go_simp)
  have R_3 : w1.cell? ⟨w.heap.size + 1, 3, none⟩ = some (.int .u32 0) := (hc1.cell (p := ⟨w.heap.size + 1, 3, none⟩) (by first | (simp; done) | (simp; omega))).trans (by first | (simp; done) | go_simp)
  have R_4 : w1.cell? ⟨w.heap.size + 1, 4, none⟩ = some (.int .u32 0) := (hc1.cell (p := ⟨w.heap.size + 1, 4, none⟩) (by first | (simp; done) | (simp; omega))).trans (by first | (simp; done) | go_simp)
  have R_5 : w1.cell? ⟨w.heap.size + 1, 5, none⟩ = some (.int .u32 0) := (hc1.cell (p := ⟨w.heap.size + 1, 5, none⟩) (by first | (simp; done) | (simp; omega))).trans (by first | (simp; done) | go_simp)
  have R_6 : w1.cell? ⟨w.heap.size + 1, 6, none⟩ = some (.int .u32 0) := (hc1.cell (p := ⟨w.heap.size + 1, 6, none⟩) (by first | (simp; done) | (simp; omega))).trans (by first | (simp; done) | go_simp)
  have R_7 : w1.cell? ⟨w.heap.size + 1, 7, none⟩ = some (.int .u32 0) := (hc1.cell (p := ⟨w.heap.size + 1, 7, none⟩) (by first | (simp; done) | (simp; omega))).trans (by first | (simp; done) | go_simp)
  have R_8 : w1.cell? ⟨w.heap.size + 1, 8, none⟩ = some (.slice none 0 0) := (hc1.cell (p := ⟨w.heap.size + 1, 8, none⟩) (by first | (simp; done) | (simp; omega))).trans (by first | (simp; done) | go_simp)
  have R_9 : w1.cell? ⟨w.heap.size + 1, 9, none⟩ = some (.int .i64 0) := (hc1.cell (p := ⟨w.heap.size + 1, 9, none⟩) (by first | (simp; done) | (simp; omega))).trans (by first | (simp; done) | go_simp)
  have R_f0 : w1.frozen? ⟨w.heap.size + 1, 0, none⟩ = false := (hc1.frozen (p := ⟨w.heap.size + 1, 0, none⟩) (by first | (simp; done) | (simp; omega))).trans (by first | (simp; done) | go_simp)
  have R_f1 : w1.frozen? ⟨w.heap.size + 1, 1, none⟩ = false := (hc1.frozen (p := ⟨w.heap.size + 1, 1, none⟩) (by first | (simp; done) | (simp; omega))).trans (by first | (simp; done) | go_simp)
  have R_f2 : w1.frozen? ⟨w.heap.size + 1, 2, none⟩ = false := (hc1.frozen (p := ⟨w.heap.size + 1, 2, none⟩) (by first | (simp; done) | (simp; omega))).trans (by first | (simp; done) | go_simp)
  have R_f3 : w1.frozen? ⟨w.heap.size + 1, 3, none⟩ = false := (hc1.frozen (p := ⟨w.heap.size + 1, 3, none⟩) (by first | (simp; done) | (simp; omega))).trans (by first | (simp; done) | go_simp)
  have R_f4 : w1.frozen? ⟨w.heap.size + 1, 4, none⟩ = false := (hc1.frozen (p := ⟨w.heap.size + 1, 4, none⟩) (by first | (simp; done) | (simp; omega))).trans (by first | (simp; done) | go_simp)
  have R_f5 : w1.frozen? ⟨w.heap.size + 1, 5, none⟩ = false := (hc1.frozen (p := ⟨w.heap.size + 1, 5, none⟩) (by first | (simp; done) | (simp; omega))).trans (by first | (simp; done) | go_simp)
  have R_f6 : w1.frozen? ⟨w.heap.size + 1, 6, none⟩ = false := (hc1.frozen (p := ⟨w.heap.size + 1, 6, none⟩) (by first | (simp; done) | (simp; omega))).trans (by first | (simp; done) | go_simp)
  have R_f7 : w1.frozen? ⟨w.heap.size + 1, 7, none⟩ = false := (hc1.frozen (p := ⟨w.heap.size + 1, 7, none⟩) (by first | (simp; done) | (simp; omega))).trans (by first | (simp; done) | go_simp)
  have R_f8 : w1.frozen? ⟨w.heap.size + 1, 8, none⟩ = false := (hc1.frozen (p := ⟨w.heap.size + 1, 8, none⟩) (by first | (simp; done) | (simp; omega))).trans (by first | (simp; done) | go_simp)
  have R_f9 : w1.frozen? ⟨w.heap.size + 1, 9, none⟩ = false := (hc1.frozen (p := ⟨w.heap.size + 1, 9, none⟩) (by first | (simp; done) | (simp; omega))).trans (by first | (simp; done) | go_simp)
  have R_l : w.heap.size + 1 < w1.heap.size := Nat.lt_of_lt_of_le (by first | (simp; done) | (simp; omega)) hc1.size
  have zw1 := hb1.size
  have zR1 := R_l
  clear hc1 hr hy hK
  rw [H1.out]
  go_wp2_with fail
  with_reducible refine (feed_any u rs ys N ra ba rn rc bn bc _ HVK.out HRN.out HBN.out hr1 hy1 hr8 hy8 hK1 hw1 hsum (by omega) (by omega)).mono ?_
  rintro e w2 ⟨u', a2, m2, c2, rfl, hu', hm2, o2, hc2⟩
  have hb2 : Below w.heap.size w w2 := bchain (by repeat' (first | with_reducible exact hb1 | with_reducible refine Below.drew ?_ | with_reducible refine below_drewN ?_ _ | with_reducible refine Below.alloc ?_ (by have := hb1.size; first | (simp; done) | (simp; omega) | omega) _ | with_reducible refine Below.setCell ?_ (by first | (simp; done) | (simp; omega) | omega) _)) hc2
  have hst2 : Below w1.heap.size w1 w2 := bchain (by repeat' (first | with_reducible exact Below.refl _ _ | with_reducible refine Below.drew ?_ | with_reducible refine below_drewN ?_ _ | with_reducible refine Below.alloc ?_ (by first | (simp; done) | (simp; omega) | omega) _ | with_reducible refine Below.setCell ?_ (by first | (simp; done) | (simp; omega) | omega) _)) hc2
  replace M_0 := cell_later hst2 M_0
  replace M_1 := cell_later hst2 M_1
  replace M_2 := cell_later hst2 M_2
  replace M_3 := cell_later hst2 M_3
  replace M_4 := cell_later hst2 M_4
  replace M_5 := cell_later hst2 M_5
  replace M_6 := cell_later hst2 M_6
  replace M_7 := cell_later hst2 M_7
  replace M_8 := cell_later hst2 M_8
  replace M_9 := cell_later hst2 M_9
  replace M_f0 := frozen_later hst2 M_l M_f0
  replace M_f1 := frozen_later hst2 M_l M_f1
  replace M_f2 := frozen_later hst2 M_l M_f2
  replace M_f3 := frozen_later hst2 M_l M_f3
  replace M_f4 := frozen_later hst2 M_l M_f4
  replace M_f5 := frozen_later hst2 M_l M_f5
  replace M_f6 := frozen_later hst2 M_l M_f6
  replace M_f7 := frozen_later hst2 M_l M_f7
  replace M_f8 := frozen_later hst2 M_l M_f8
  replace M_f9 := frozen_later hst2 M_l M_f9
  replace M_l := Nat.lt_of_lt_of_le M_l hst2.size
  replace R_0 := cell_later hst2 R_0
  replace R_1 := cell_later hst2 R_1
  replace R_2 := cell_later hst2 R_2
  replace R_3 := cell_later hst2 R_3
  replace R_4 := cell_later hst2 R_4
  replace R_5 := cell_later hst2 R_5
  replace R_6 := cell_later hst2 R_6
  replace R_7 := cell_later hst2 R_7
  replace R_8 := cell_later hst2 R_8
  replace R_9 := cell_later hst2 R_9
  replace R_f0 := frozen_later hst2 R_l R_f0
  replace R_f1 := frozen_later hst2 R_l R_f1
  replace R_f2 := frozen_later hst2 R_l R_f2
  replace R_f3 := frozen_later hst2 R_l R_f3
  replace R_f4 := frozen_later hst2 R_l R_f4
  replace R_f5 := frozen_later hst2 R_l R_f5
  replace R_f6 := frozen_later hst2 R_l R_f6
  replace R_f7 := frozen_later hst2 R_l R_f7
  replace R_f8 := frozen_later hst2 R_l R_f8
  replace R_f9 := frozen_later hst2 R_l R_f9
  replace R_l := Nat.lt_of_lt_of_le R_l hst2.size
  clear hst2
  clear hc2 hb1
  have p2 : (Value.slice a2 m2 c2).ownBlock ≠ some (w.heap.size + 1) := fun e => by have := (o2.lt _ e).1; omega
  obtain rfl := H3.out u' hu'
  obtain ⟨rfl, o3⟩ := H2.out a2 c2 m2 _ hm2 (o2.mono zw1)
  clear o2
  go_wp2_with fail
  refine bodyPost_ret (v := .tuple #[.agg #[.int .u32 u'.a, .int .u32 u'.b, .int .u32 u'.c, .int .u32 u'.d, .int .u32 u'.e, .int .u32 u'.f, .int .u32 u'.g, .int .u32 u'.z, .slice a2 m2 c2, .int .i64 ((N : Int) + (bn : Int))], .int .i64 0]) (by simp [results, Tryd.results9, go_sem, *]) rfl ⟨?_, ?_⟩
  · refine ⟨a2, c2, by rw [HMN.out], ?_⟩
    repeat' (first | with_reducible exact o3 | (refine OwnX.setFar ?_ p2 _))
  · exact (by repeat' (first | with_reducible exact hb2 | with_reducible refine Below.drew ?_ | with_reducible refine below_drewN ?_ _ | with_reducible refine Below.alloc ?_ (by have := hb2.size; first | (simp; done) | (simp; omega) | omega) _ | with_reducible refine Below.setCell ?_ (by first | (simp; done) | (simp; omega) | omega) _))

theorem add_start (fl : List Int) {u2 : V8} (hu2 : u2.list = mill v0c.list fl) (M m : Nat) (hM : M = fl.length) (hm : m = (restL fl).length) (ba : Option Addr) (bn bc : Nat) (w : World) (hbn : bn = fl.length) (hy : CellsAt w ba (fl.map (Value.int .u8))) (hy8 : Bytes8 fl) (hK : CellsAt w (some ⟨0, 0, none⟩) (kcs.map (Value.int .u32))) (hw0 : 0 < w.heap.size) (hl : fl.length ≤ 200000) :
    Calls Tryd.prog 9 #[.agg #[.int .u32 v0c.a, .int .u32 v0c.b, .int .u32 v0c.c, .int .u32 v0c.d, .int .u32 v0c.e, .int .u32 v0c.f, .int .u32 v0c.g, .int .u32 v0c.z, .slice none 0 0, .int .i64 0], .slice ba bn bc] w fun e w' =>
      MillE w.heap.size u2 m (restL fl) M w' e ∧ Below w.heap.size w w' :=
  add_of [] fl fl rfl rfl hu2 0 M 0 m rfl hM rfl hm none ba 0 bn bc w hbn (.inl rfl) hy (fun _ h => by cases h) hy8 hK hw0 hl

set_option maxRecDepth 100000 in
set_option maxHeartbeats 4000000 in
theorem piecesLaw_walk (l : List (List Int)) (vs : List Value) (a : Option Addr) (c : Nat) (w : World) (hP : PiecesIn w a vs l) (hsum : l.flatten.length ≤ 70368744177664) (hK : CellsAt w (some ⟨0, 0, none⟩) (kcs.map (Value.int .u32))) (hw0 : 0 < w.heap.size) :
    Calls Tryd.prog 6 #[.slice a l.length c] w fun e w' =>
      e = .returned (.bool true) ∧ Below w.heap.size w w' := by
  obtain ⟨n, hn⟩ : ∃ n, n = l.length := ⟨_, rfl⟩
  rw [← hn]
  have hml := hP.len
  unfold maxLen at hml
  rw [← hn] at hml
  have hwf : ∀ W, Below w.heap.size w W → 0 < W.heap.size := fun W h => Nat.lt_of_lt_of_le hw0 h.size
  have HS := hid hsum
  have H8 := hid (flat_bytes hP)
  have H_hn := hid hn
  clear hn
  clear hsum
  go_enter Tryd.func6, Tryd.ntmps6
  have hb0 := Below.refl w.heap.size w
  go_wp2_with fail
  with_reducible refine (long_any l vs a n c _ hP H_hn.out).mono ?_
  rintro e w1 ⟨⟨b, rfl, hb⟩, hc1⟩
  have hb1 : Below w.heap.size w w1 := bchain (by repeat' (first | with_reducible exact hb0 | with_reducible refine Below.drew ?_ | with_reducible refine below_drewN ?_ _ | with_reducible refine Below.alloc ?_ (by have := hb0.size; first | (simp; done) | (simp; omega) | omega) _ | with_reducible refine Below.setCell ?_ (by first | (simp; done) | (simp; omega) | omega) _)) hc1
  clear hc1 hb0
  clear hb
  cases b
  rotate_left
  · skip
    go_wp2_with fail
    with_reducible refine (alive_any _ (hK.later hb1) (hwf _ hb1)).mono ?_
    rintro e w2 ⟨rfl, hc2⟩
    have hb2 : Below w.heap.size w w2 := bchain (by repeat' (first | with_reducible exact hb1 | with_reducible refine Below.drew ?_ | with_reducible refine below_drewN ?_ _ | with_reducible refine Below.alloc ?_ (by have := hb1.size; first | (simp; done) | (simp; omega) | omega) _ | with_reducible refine Below.setCell ?_ (by first | (simp; done) | (simp; omega) | omega) _)) hc2
    clear hc2 hb1
    go_wp2_with fail
    go_ret
    exact ⟨rfl, (by repeat' (first | with_reducible exact hb2 | with_reducible refine Below.drew ?_ | with_reducible refine below_drewN ?_ _ | with_reducible refine Below.alloc ?_ (by have := hb2.size; first | (simp; done) | (simp; omega) | omega) _ | with_reducible refine Below.setCell ?_ (by first | (simp; done) | (simp; omega) | omega) _))⟩
  by_cases h20 : 20 < n
  · have h20I : (20 : Int) < (n : Int) := by omega
    go_wp2_with fail
    with_reducible refine (alive_any _ (hK.later hb1) (hwf _ hb1)).mono ?_
    rintro e w2 ⟨rfl, hc2⟩
    have hb2 : Below w.heap.size w w2 := bchain (by repeat' (first | with_reducible exact hb1 | with_reducible refine Below.drew ?_ | with_reducible refine below_drewN ?_ _ | with_reducible refine Below.alloc ?_ (by have := hb1.size; first | (simp; done) | (simp; omega) | omega) _ | with_reducible refine Below.setCell ?_ (by first | (simp; done) | (simp; omega) | omega) _)) hc2
    clear hc2 hb1
    go_wp2_with fail
    go_ret
    exact ⟨rfl, (by repeat' (first | with_reducible exact hb2 | with_reducible refine Below.drew ?_ | with_reducible refine below_drewN ?_ _ | with_reducible refine Below.alloc ?_ (by have := hb2.size; first | (simp; done) | (simp; omega) | omega) _ | with_reducible refine Below.setCell ?_ (by first | (simp; done) | (simp; omega) | omega) _))⟩
  have h20I : (n : Int) ≤ 20 := by omega
  go_wp2_with fail
  with_reducible refine (whole_any l vs a n c _ (hP.later hb1) H_hn.out HS.out).mono ?_
  rintro e w2 ⟨⟨a0, m0, c0, rfl, hm0, o0⟩, hc2⟩
  have hb2 : Below w.heap.size w w2 := bchain (by repeat' (first | with_reducible exact hb1 | with_reducible refine Below.drew ?_ | with_reducible refine below_drewN ?_ _ | with_reducible refine Below.alloc ?_ (by have := hb1.size; first | (simp; done) | (simp; omega) | omega) _ | with_reducible refine Below.setCell ?_ (by first | (simp; done) | (simp; omega) | omega) _)) hc2
  clear hc2 hb1
  have k0 := o0.cellsAt
  clear o0
  by_cases h15 : 1500 < m0
  · have h15I : (1500 : Int) < (m0 : Int) := by omega
    clear hm0
    go_wp2_with fail
    with_reducible refine (alive_any _ (hK.later hb2) (hwf _ hb2)).mono ?_
    rintro e w3 ⟨rfl, hc3⟩
    have hb3 : Below w.heap.size w w3 := bchain (by repeat' (first | with_reducible exact hb2 | with_reducible refine Below.drew ?_ | with_reducible refine below_drewN ?_ _ | with_reducible refine Below.alloc ?_ (by have := hb2.size; first | (simp; done) | (simp; omega) | omega) _ | with_reducible refine Below.setCell ?_ (by first | (simp; done) | (simp; omega) | omega) _)) hc3
    clear hc3 hb2
    go_wp2_with fail
    go_ret
    exact ⟨rfl, (by repeat' (first | with_reducible exact hb3 | with_reducible refine Below.drew ?_ | with_reducible refine below_drewN ?_ _ | with_reducible refine Below.alloc ?_ (by have := hb3.size; first | (simp; done) | (simp; omega) | omega) _ | with_reducible refine Below.setCell ?_ (by first | (simp; done) | (simp; omega) | omega) _))⟩
  have h15I : (m0 : Int) ≤ 1500 := by omega
  have hfl : l.flatten.length ≤ 1500 := by omega
  have hf8 := H8.out l.length (Nat.le_refl _)
  rw [List.take_length] at hf8
  obtain ⟨fl, hfle⟩ : ∃ fl, fl = l.flatten := ⟨_, rfl⟩
  have hD := sumP_ok (l := l) (by have := H_hn.out; omega) hfl
  have hD1 := sumP_ok (l := [l.flatten]) (by simp) (by simpa using hfl)
  rw [List.flatten_singleton] at hD1
  have hE := endM_ofL l.flatten (by omega)
  obtain ⟨pl, hpl⟩ : ∃ pl, pl = ofL l.flatten := ⟨_, rfl⟩
  rw [← hpl] at hD hD1 hE
  have hpdl : pl.length = 32 := by rw [hpl, ofL_len]
  obtain ⟨pv, hpdv⟩ : ∃ dv, dv = pl.map (Value.int .u8) := ⟨_, rfl⟩
  have hpvl : pv.length = 32 := by rw [hpdv, List.length_map, hpdl]
  have hpo : ∀ x ∈ pv, x.oneCell' = true := by rw [hpdv]; exact oneCell_ints _ _
  have hpi : (Tryd.prog.info? 33).map (·.size) = some pv.length := by rw [hpvl]; exact info32
  have hpr : pv.length = (List.replicate 32 (Value.int .u8 0)).length := by rw [hpvl]; rfl
  have hpq : ∀ w, (Op.equalIn 10000 33 (.agg pv.toArray) (.agg pv.toArray)).run Tryd.prog w = .ok true w := fun w => by
    rw [hpdv, eq_ids pl pl hpdl hpdl]; simp
  obtain ⟨uf, huf⟩ := V8.of_list (mill v0c.list fl) ((grindN_len _ _ _).trans rfl)
  rw [← hfle] at hm0 hfl hf8 hD1 hE k0
  have Hf8 := hid hf8
  have Hflat : Hid (∀ k, (l.take k).flatten.length ≤ 1500) := hid fun k => by
    have h1 : (l.take k).flatten.length ≤ l.flatten.length := by
      conv => rhs; rw [← List.take_append_drop k l, List.flatten_append, List.length_append]
      omega
    rw [← hfle] at h1
    omega
  have H_pD := hid hD
  have H_pdv := hid hpdv
  have H_pi := hid hpi
  have H_pr := hid hpr
  have H_po := hid hpo
  have H_pq := hid hpq
  have H_hfle := hid hfle
  have H_hD1 := hid hD1
  have H_hE := hid hE
  have H_hpl := hid hpl
  have H_hpdl := hid hpdl
  have H_hpvl := hid hpvl
  have H_huf := hid huf
  have H_hfl := hid hfl
  have H_hm0 := hid hm0
  clear hfle hD1 hE hpl hpdl hpvl huf hfl hm0
  clear hD hpdv hpi hpr hpo hpq hf8 h20 h15
  go_wp2_with fail
  with_reducible refine (pieces_r' H_pD.out H_pdv.out vs a n c _ (hP.later hb2) H_hn.out (hK.later hb2) (hwf _ hb2)).mono ?_
  rintro e w3 ⟨rfl, hc3⟩
  have hb3 : Below w.heap.size w w3 := bchain (by repeat' (first | with_reducible exact hb2 | with_reducible refine Below.drew ?_ | with_reducible refine below_drewN ?_ _ | with_reducible refine Below.alloc ?_ (by have := hb2.size; first | (simp; done) | (simp; omega) | omega) _ | with_reducible refine Below.setCell ?_ (by first | (simp; done) | (simp; omega) | omega) _)) hc3
  have hst3 : Below w2.heap.size w2 w3 := bchain (by repeat' (first | with_reducible exact Below.refl _ _ | with_reducible refine Below.drew ?_ | with_reducible refine below_drewN ?_ _ | with_reducible refine Below.alloc ?_ (by first | (simp; done) | (simp; omega) | omega) _ | with_reducible refine Below.setCell ?_ (by first | (simp; done) | (simp; omega) | omega) _)) hc3
  replace k0 := k0.later hst3
  clear hst3
  clear hc3
  have hN3 := Blk.new w3 w3.heap.size (List.replicate 32 (Value.int .u8 0)) 33 rfl
  go_upto_region 7 with (refine wpList_store_blk rfl 33 _ _ rfl w3.heap.size (by rfl) 33 _ pv (by rfl) hN3 H_pr.out H_pi.out H_po.out ?_; intro w4 hA4 he; have HW := hid he; clear he)
  have hc4 : Below w3.heap.size w3 w4 := HW.out ▸ below_setCells (Nat.le_refl _) _ _ _ ((Below.refl _ _).alloc (Nat.le_refl _) _)
  clear hN3 HW
  have hb4 : Below w.heap.size w w4 := bchain (by repeat' (first | with_reducible exact hb3 | with_reducible refine Below.drew ?_ | with_reducible refine below_drewN ?_ _ | with_reducible refine Below.alloc ?_ (by have := hb3.size; first | (simp; done) | (simp; omega) | omega) _ | with_reducible refine Below.setCell ?_ (by first | (simp; done) | (simp; omega) | omega) _)) hc4
  have hst4 : Below w3.heap.size w3 w4 := bchain (by repeat' (first | with_reducible exact Below.refl _ _ | with_reducible refine Below.drew ?_ | with_reducible refine below_drewN ?_ _ | with_reducible refine Below.alloc ?_ (by first | (simp; done) | (simp; omega) | omega) _ | with_reducible refine Below.setCell ?_ (by first | (simp; done) | (simp; omega) | omega) _)) hc4
  replace k0 := k0.later hst4
  clear hst4
  clear hc4
  go_wp2_with fail
  with_reducible refine (sum_r' H_hD1.out H_pdv.out a0 m0 c0 _ H_hm0.out k0 Hf8.out (by have := H_hfl.out; unfold maxLen; omega) (hK.later hb4) (hwf _ hb4)).mono ?_
  rintro e w5 ⟨rfl, hc5⟩
  have hb5 : Below w.heap.size w w5 := bchain (by repeat' (first | with_reducible exact hb4 | with_reducible refine Below.drew ?_ | with_reducible refine below_drewN ?_ _ | with_reducible refine Below.alloc ?_ (by have := hb4.size; first | (simp; done) | (simp; omega) | omega) _ | with_reducible refine Below.setCell ?_ (by first | (simp; done) | (simp; omega) | omega) _)) hc5
  have hst5 : Below w4.heap.size w4 w5 := bchain (by repeat' (first | with_reducible exact Below.refl _ _ | with_reducible refine Below.drew ?_ | with_reducible refine below_drewN ?_ _ | with_reducible refine Below.alloc ?_ (by first | (simp; done) | (simp; omega) | omega) _ | with_reducible refine Below.setCell ?_ (by first | (simp; done) | (simp; omega) | omega) _)) hc5
  replace k0 := k0.later hst5
  replace hA4 := hA4.later hst5
  clear hst5
  clear hc5
  have hN5 := Blk.new w5 w5.heap.size (List.replicate 32 (Value.int .u8 0)) 33 rfl
  go_upto_region 8 with (refine wpList_store_blk rfl 33 _ _ rfl w5.heap.size (by rfl) 33 _ pv (by rfl) hN5 H_pr.out H_pi.out H_po.out ?_; intro w6 hA6 he; have HW := hid he; clear he)
  have hc6 : Below w5.heap.size w5 w6 := HW.out ▸ below_setCells (Nat.le_refl _) _ _ _ ((Below.refl _ _).alloc (Nat.le_refl _) _)
  clear hN5 HW
  have hb6 : Below w.heap.size w w6 := bchain (by repeat' (first | with_reducible exact hb5 | with_reducible refine Below.drew ?_ | with_reducible refine below_drewN ?_ _ | with_reducible refine Below.alloc ?_ (by have := hb5.size; first | (simp; done) | (simp; omega) | omega) _ | with_reducible refine Below.setCell ?_ (by first | (simp; done) | (simp; omega) | omega) _)) hc6
  have hst6 : Below w5.heap.size w5 w6 := bchain (by repeat' (first | with_reducible exact Below.refl _ _ | with_reducible refine Below.drew ?_ | with_reducible refine below_drewN ?_ _ | with_reducible refine Below.alloc ?_ (by first | (simp; done) | (simp; omega) | omega) _ | with_reducible refine Below.setCell ?_ (by first | (simp; done) | (simp; omega) | omega) _)) hc6
  replace k0 := k0.later hst6
  replace hA4 := hA4.later hst6
  clear hst6
  clear hc6
  go_wp2_with fail
  with_reducible refine (start_any _).mono ?_
  rintro e w7 ⟨rfl, hc7⟩
  have hb7 : Below w.heap.size w w7 := bchain (by repeat' (first | with_reducible exact hb6 | with_reducible refine Below.drew ?_ | with_reducible refine below_drewN ?_ _ | with_reducible refine Below.alloc ?_ (by have := hb6.size; first | (simp; done) | (simp; omega) | omega) _ | with_reducible refine Below.setCell ?_ (by first | (simp; done) | (simp; omega) | omega) _)) hc7
  have hst7 : Below w6.heap.size w6 w7 := bchain (by repeat' (first | with_reducible exact Below.refl _ _ | with_reducible refine Below.drew ?_ | with_reducible refine below_drewN ?_ _ | with_reducible refine Below.alloc ?_ (by first | (simp; done) | (simp; omega) | omega) _ | with_reducible refine Below.setCell ?_ (by first | (simp; done) | (simp; omega) | omega) _)) hc7
  replace k0 := k0.later hst7
  replace hA4 := hA4.later hst7
  replace hA6 := hA6.later hst7
  clear hst7
  clear hc7 hb6
  have kA7 := hA4
  have kB7 := hA6
  have k07 := k0
  have hN7 := Blk.newA w7 w7.heap.size _ 26 [.int .u32 0, .int .u32 0, .int .u32 0, .int .u32 0, .int .u32 0, .int .u32 0, .int .u32 0, .int .u32 0, .slice none 0 0, .int .i64 0] rfl rfl
  go_upto_region 9 with (refine wpList_store_blk rfl 26 _ _ rfl w7.heap.size (by rfl) 26 _ [.int .u32 v0c.a, .int .u32 v0c.b, .int .u32 v0c.c, .int .u32 v0c.d, .int .u32 v0c.e, .int .u32 v0c.f, .int .u32 v0c.g, .int .u32 v0c.z, .slice none 0 0, .int .i64 0] (by rfl) hN7 (by rfl) infoM (mill_one _ _ _ _ _) ?_; intro w8 hM8 he; have HW := hid he; clear he)
  have hc8 : Below w7.heap.size w7 w8 := HW.out ▸ below_setCells (Nat.le_refl _) _ _ _ ((Below.refl _ _).alloc (Nat.le_refl _) _)
  clear hN7 HW
  have hd8 := hc8
  have hb8 : Below w.heap.size w w8 := bchain (by repeat' (first | with_reducible exact hb7 | with_reducible refine Below.drew ?_ | with_reducible refine below_drewN ?_ _ | with_reducible refine Below.alloc ?_ (by have := hb7.size; first | (simp; done) | (simp; omega) | omega) _ | with_reducible refine Below.setCell ?_ (by first | (simp; done) | (simp; omega) | omega) _)) hc8
  have hst8 : Below w7.heap.size w7 w8 := bchain (by repeat' (first | with_reducible exact Below.refl _ _ | with_reducible refine Below.drew ?_ | with_reducible refine below_drewN ?_ _ | with_reducible refine Below.alloc ?_ (by first | (simp; done) | (simp; omega) | omega) _ | with_reducible refine Below.setCell ?_ (by first | (simp; done) | (simp; omega) | omega) _)) hc8
  replace k0 := k0.later hst8
  replace hA4 := hA4.later hst8
  replace hA6 := hA6.later hst8
  clear hst8
  clear hc8
  have hMH : MillHas w8 w7.heap.size (l.take 0).flatten := by rw [List.take_zero, List.flatten_nil]; exact ⟨v0c, none, 0, 0, hM8, rfl, rfl, .inl rfl⟩
  go_wp2_with fail
  go_loopw [9] (fun q wr => ∃ (k : Nat), k ≤ n ∧ q = .int .i64 k ∧ Below w.heap.size w wr ∧ Below w7.heap.size w7 wr ∧ MillHas wr w7.heap.size (l.take k).flatten) (fun q _ => n - (intOf q).toNat)
  case atStart => exact ⟨0, Nat.zero_le _, rfl, hb8, hd8, hMH⟩
  case round =>
    clear hM8 hMH hd8 hb8 hA4 hA6 k0
    obtain ⟨k, hk, rfl, hbw, hbr, ⟨u, ar, m, cr, hM, hu, hm, kr⟩⟩ := hrel
    obtain ⟨w9, hw9⟩ : ∃ w9, w9 = wr := ⟨wr, rfl⟩
    subst hw9
    obtain ⟨bs, hbs⟩ : ∃ bs, bs = (l.take k).flatten := ⟨_, rfl⟩
    rw [← hbs] at hM hu hm kr
    obtain ⟨N, hN⟩ : ∃ N, N = bs.length := ⟨_, rfl⟩
    rw [← hN] at hM
    have hb8 : Bytes8 bs := hbs ▸ H8.out k (by have := H_hn.out; omega)
    have zM := hM.lt
    have gw : From w7 w9 := hbr
    clear hbr
    by_cases hlt : k < n
    · have hltI : (k : Int) < (n : Int) := by omega
      have hil := hid (show k < l.length by have := H_hn.out; omega)
      obtain ⟨bb, o, x, p, cx, rfl, cc, hp, kx, h8x, hpm⟩ := (hP.later hbw).at hil.out
      obtain ⟨xs, hxs⟩ : ∃ xs, xs = bs ++ pc l k := ⟨_, rfl⟩
      have hxe : xs = (l.take (k + 1)).flatten := by rw [hxs, hbs, flat_take_succ hil.out]
      have hxl : xs.length ≤ 1500 := by have := Hflat.out (k + 1); rw [← hxe] at this; exact this
      have hx8 : Bytes8 xs := hxs ▸ hb8.append h8x
      obtain ⟨u2, hu2⟩ := V8.of_list (mill v0c.list xs) ((grindN_len _ _ _).trans rfl)
      obtain ⟨M, hM'⟩ : ∃ M, M = xs.length := ⟨_, rfl⟩
      obtain ⟨m2, hm2⟩ : ∃ m2, m2 = (restL xs).length := ⟨_, rfl⟩
      have hml2 : m2 ≤ 64 := by rw [hm2, restL_len]; omega
      clear kx cc hp hpm
      have H_hbs := hid hbs
      have H_hN := hid hN
      have H_hu := hid hu
      have H_hm := hid hm
      have H_hxs := hid hxs
      have H_hxe := hid hxe
      have H_hxl := hid hxl
      have H_hu2 := hid hu2
      have H_hM' := hid hM'
      have H_hm2 := hid hm2
      clear hbs hN hu hm hxs hxe hxl hu2 hM' hm2
      have M_0 := hM.cell (j := 0) (v := .int .u32 u.a) rfl
      have M_1 := hM.cell (j := 1) (v := .int .u32 u.b) rfl
      have M_2 := hM.cell (j := 2) (v := .int .u32 u.c) rfl
      have M_3 := hM.cell (j := 3) (v := .int .u32 u.d) rfl
      have M_4 := hM.cell (j := 4) (v := .int .u32 u.e) rfl
      have M_5 := hM.cell (j := 5) (v := .int .u32 u.f) rfl
      have M_6 := hM.cell (j := 6) (v := .int .u32 u.g) rfl
      have M_7 := hM.cell (j := 7) (v := .int .u32 u.z) rfl
      have M_8 := hM.cell (j := 8) (v := .slice ar m cr) rfl
      have M_9 := hM.cell (j := 9) (v := .int .i64 N) rfl
      have M_l := hM.lt
      have hMk := hM
      go_wp2_with fail
      refine wp_gen fun w10 hc10 => ?_
      have hb10 : Below w.heap.size w w10 := bchain (by repeat' (first | with_reducible exact hbw | with_reducible refine Below.drew ?_ | with_reducible refine below_drewN ?_ _ | with_reducible refine Below.alloc ?_ (by have := hbw.size; first | (simp; done) | (simp; omega) | omega) _ | with_reducible refine Below.setCell ?_ (by first | (simp; done) | (simp; omega) | omega) _)) hc10
      have hst10 : Below w9.heap.size w9 w10 := bchain (by repeat' (first | with_reducible exact Below.refl _ _ | with_reducible refine Below.drew ?_ | with_reducible refine below_drewN ?_ _ | with_reducible refine Below.alloc ?_ (by first | (simp; done) | (simp; omega) | omega) _ | with_reducible refine Below.setCell ?_ (by first | (simp; done) | (simp; omega) | omega) _)) hc10
      replace M_0 := cell_later hst10 M_0
      replace M_1 := cell_later hst10 M_1
      replace M_2 := cell_later hst10 M_2
      replace M_3 := cell_later hst10 M_3
      replace M_4 := cell_later hst10 M_4
      replace M_5 := cell_later hst10 M_5
      replace M_6 := cell_later hst10 M_6
      replace M_7 := cell_later hst10 M_7
      replace M_8 := cell_later hst10 M_8
      replace M_9 := cell_later hst10 M_9
      replace M_l := Nat.lt_of_lt_of_le M_l hst10.size
      replace kr := kr.later hst10
      replace hMk := hMk.later hst10
      replace gw := gw.later hst10
      clear hst10
      have KM_0 := cell_on M_0
      have KM_1 := cell_on M_1
      have KM_2 := cell_on M_2
      have KM_3 := cell_on M_3
      have KM_4 := cell_on M_4
      have KM_5 := cell_on M_5
      have KM_6 := cell_on M_6
      have KM_7 := cell_on M_7
      have KM_8 := cell_on M_8
      have KM_9 := cell_on M_9
      have z10 := gw.size
      obtain ⟨bb', o', x', p', cx', he', cc', hp', kx', _, _⟩ := (hP.later hb10).at hil.out
      cases he'
      have Hp' := hid hp'
      clear hp'
      have KC := cell_on cc'
      have kM10 := hMk
      have kg10 := gw
      have g10 : From w10 w10 := Below.refl _ _
      refine wp_region_on_spec_tail [(5, [], fun _ => VM w10.heap.size u2 m2 (restL xs) M), (9, [], fun _ => VBlk w10.heap.size 26 [.int .u32 0, .int .u32 0, .int .u32 0, .int .u32 0, .int .u32 0, .int .u32 0, .int .u32 0, .int .u32 0, .slice none 0 0, .int .i64 0]), (10, [10], fun l => VS w10.heap.size u2 m2 (restL xs) M (l.getD 0 undef))] [5, 9, 10] [10] [(5, []), (9, []), (10, [10])] 11 (by kernel_rfl) (by kernel_rfl) rfl (by kernel_rfl) rfl (by kernel_rfl) ⟨fun _ => VM.last, fun _ => VBlk.last, fun _ => VS.last, trivial⟩ ?_
      try simp only [List.take_succ_cons, List.take_zero, List.drop_succ_cons, List.drop_zero]
      refine wpSpec_quiet 5 (by kernel_rfl) (by kernel_rfl) ?_
      simp only [List.take_succ_cons, List.take_zero, List.drop_succ_cons, List.drop_zero]
      repeat (go_big_quiet_step (fail))
      refine wpQuiet_nil ?_
      show wpSpec _ _ _ _ _ _ _ _ _ _ _
      refine wpSpec_at [] (VM w10.heap.size u2 m2 (restL xs) M) rfl (by first | rfl | (simp [viewS, Act.eval]; done)) rfl (by first | rfl | (simp [Region.wanted]; done)) ?_ rfl ?_
      · intro wq hq hfq
        clear hfq
        refine gives_call 9 _ _ #[.agg #[.int .u32 u.a, .int .u32 u.b, .int .u32 u.c, .int .u32 u.d, .int .u32 u.e, .int .u32 u.f, .int .u32 u.g, .int .u32 u.z, .slice ar m cr, .int .i64 N], .slice x' p' cx'] rfl (by kernel_rfl) (by simp [Act.eval]) ((add_of bs (pc l k) xs H_hu.out H_hxs.out H_hu2.out N M m m2 H_hN.out H_hM'.out H_hm.out H_hm2.out ar x' cr p' cx' _ Hp'.out (kr.later hq) (kx'.later hq) hb8 h8x (hK.later (hb10.trans (hq.mono hb10.size))) (hwf _ (hb10.trans (hq.mono hb10.size))) (by have := H_hxl.out; omega)).mono ?_)
        rintro e w' ⟨⟨a2, c2, rfl, k2⟩, hb⟩
        exact ⟨_, rfl, hb, a2, c2, rfl, k2.mono hq.size⟩
      rintro z5 ⟨_, ⟨a2, c2, rfl, _⟩⟩
      simp only [Act.put, List.setIfInBounds_toArray, List.set_cons_succ, List.set_cons_zero]
      refine wpSpec_quiet 3 (by kernel_rfl) (by kernel_rfl) ?_
      simp only [List.take_succ_cons, List.take_zero, List.drop_succ_cons, List.drop_zero]
      repeat (go_big_quiet_step (fail))
      refine wpQuiet_nil ?_
      show wpSpec _ _ _ _ _ _ _ _ _ _ _
      refine wpSpec_at [] (VBlk w10.heap.size 26 [.int .u32 0, .int .u32 0, .int .u32 0, .int .u32 0, .int .u32 0, .int .u32 0, .int .u32 0, .int .u32 0, .slice none 0 0, .int .i64 0]) rfl (by first | rfl | (simp [viewS, Act.eval]; done)) rfl (by first | rfl | (simp [Region.wanted]; done)) ?_ rfl ?_
      · intro wq hq hfq
        clear hfq
        unfold Oper.gives; go_simp; exact ⟨(Below.refl _ _).alloc (Nat.le_refl _) _, _, rfl, hq.size, Blk.newA _ _ _ _ _ rfl rfl⟩
      rintro z9 ⟨_, ⟨b9, rfl, _⟩⟩
      simp only [Act.put, List.setIfInBounds_toArray, List.set_cons_succ, List.set_cons_zero]
      refine wpSpec_atD [.pointer (some ⟨b9, 0, none⟩)] (VS w10.heap.size u2 m2 (restL xs) M (.pointer (some ⟨b9, 0, none⟩))) rfl (by first | rfl | (simp [viewS, Act.eval]; done)) rfl (by first | rfl | (simp [Region.wanted]; done)) ?_ rfl ?_
      · intro wq hq hfq
        have f9 := hfq 9 (by kernel_rfl)
        have f5 := hfq 5 (by kernel_rfl)
        simp only [upd, Nat.beq, cond] at f9 f5
        clear hfq
        obtain ⟨a2', c2', he2, o2⟩ := f5
        cases he2
        obtain ⟨b9', he9, hb9, hB9⟩ := f9
        cases he9
        refine gives_store_blk 26 _ _ rfl b9 rfl 26 _ [.int .u32 u2.a, .int .u32 u2.b, .int .u32 u2.c, .int .u32 u2.d, .int .u32 u2.e, .int .u32 u2.f, .int .u32 u2.g, .int .u32 u2.z, .slice a2 m2 c2, .int .i64 M] rfl hB9 rfl infoM (mill_one _ _ _ _ _) fun hS => ?_
        exact ⟨below_setCells hb9 _ _ _ (Below.refl _ _), b9, a2, c2, rfl, hb9, hS, (o2.cellsFar (o2.ne_blk hB9 (by decide)) _).cellsAt, fun ad e => (o2.addr ad e).1⟩
      rintro z10 -
      simp only [Act.put, List.setIfInBounds_toArray, List.set_cons_succ, List.set_cons_zero]
      intro w11 hc11 hfq
      have f10 := hfq 10
      simp only [upd, Nat.beq, cond] at f10
      clear hfq
      clear KM_0 KM_1 KM_2 KM_3 KM_4 KM_5 KM_6 KM_7 KM_8 KM_9
      have hb11 : Below w.heap.size w w11 := bchain (by repeat' (first | with_reducible exact hb10 | with_reducible refine Below.drew ?_ | with_reducible refine below_drewN ?_ _ | with_reducible refine Below.alloc ?_ (by have := hb10.size; first | (simp; done) | (simp; omega) | omega) _ | with_reducible refine Below.setCell ?_ (by first | (simp; done) | (simp; omega) | omega) _)) hc11
      have hst11 : Below w10.heap.size w10 w11 := bchain (by repeat' (first | with_reducible exact Below.refl _ _ | with_reducible refine Below.drew ?_ | with_reducible refine below_drewN ?_ _ | with_reducible refine Below.alloc ?_ (by first | (simp; done) | (simp; omega) | omega) _ | with_reducible refine Below.setCell ?_ (by first | (simp; done) | (simp; omega) | omega) _)) hc11
      replace M_0 := cell_later hst11 M_0
      replace M_1 := cell_later hst11 M_1
      replace M_2 := cell_later hst11 M_2
      replace M_3 := cell_later hst11 M_3
      replace M_4 := cell_later hst11 M_4
      replace M_5 := cell_later hst11 M_5
      replace M_6 := cell_later hst11 M_6
      replace M_7 := cell_later hst11 M_7
      replace M_8 := cell_later hst11 M_8
      replace M_9 := cell_later hst11 M_9
      replace M_l := Nat.lt_of_lt_of_le M_l hst11.size
      replace kr := kr.later hst11
      replace hMk := hMk.later hst11
      replace gw := gw.later hst11
      replace g10 := g10.later hst11
      clear hst11
      obtain ⟨b9', a2', c2', he9, hb9, hO, k2, f2⟩ := f10
      cases he9
      have F2 := hid f2
      clear f2
      have O_0 := hO.cell (j := 0) (v := .int .u32 u2.a) rfl
      have O_1 := hO.cell (j := 1) (v := .int .u32 u2.b) rfl
      have O_2 := hO.cell (j := 2) (v := .int .u32 u2.c) rfl
      have O_3 := hO.cell (j := 3) (v := .int .u32 u2.d) rfl
      have O_4 := hO.cell (j := 4) (v := .int .u32 u2.e) rfl
      have O_5 := hO.cell (j := 5) (v := .int .u32 u2.f) rfl
      have O_6 := hO.cell (j := 6) (v := .int .u32 u2.g) rfl
      have O_7 := hO.cell (j := 7) (v := .int .u32 u2.z) rfl
      have O_8 := hO.cell (j := 8) (v := .slice a2' m2 c2') rfl
      have O_9 := hO.cell (j := 9) (v := .int .i64 M) rfl
      have O_l := hO.lt
      clear M_0 M_1 M_2 M_3 M_4 M_5 M_6 M_7 M_8 M_9 M_l
      go_wp2_with fail
      with_reducible refine (add_of xs [] xs H_hu2.out (by simp) H_hu2.out M M m2 m2 H_hM'.out H_hM'.out H_hm2.out H_hm2.out a2' none c2' 0 0 _ rfl k2 (nilCells _ _ _) hx8 Bytes8.nil (hK.later hb11) (hwf _ hb11) (by have := H_hxl.out; omega)).mono ?_
      rintro e w12 ⟨⟨a3, c3, rfl, o3⟩, hc12⟩
      have hb12 : Below w.heap.size w w12 := bchain (by repeat' (first | with_reducible exact hb11 | with_reducible refine Below.drew ?_ | with_reducible refine below_drewN ?_ _ | with_reducible refine Below.alloc ?_ (by have := hb11.size; first | (simp; done) | (simp; omega) | omega) _ | with_reducible refine Below.setCell ?_ (by first | (simp; done) | (simp; omega) | omega) _)) hc12
      have hst12 : Below w11.heap.size w11 w12 := bchain (by repeat' (first | with_reducible exact Below.refl _ _ | with_reducible refine Below.drew ?_ | with_reducible refine below_drewN ?_ _ | with_reducible refine Below.alloc ?_ (by first | (simp; done) | (simp; omega) | omega) _ | with_reducible refine Below.setCell ?_ (by first | (simp; done) | (simp; omega) | omega) _)) hc12
      replace O_0 := cell_later hst12 O_0
      replace O_1 := cell_later hst12 O_1
      replace O_2 := cell_later hst12 O_2
      replace O_3 := cell_later hst12 O_3
      replace O_4 := cell_later hst12 O_4
      replace O_5 := cell_later hst12 O_5
      replace O_6 := cell_later hst12 O_6
      replace O_7 := cell_later hst12 O_7
      replace O_8 := cell_later hst12 O_8
      replace O_9 := cell_later hst12 O_9
      replace O_l := Nat.lt_of_lt_of_le O_l hst12.size
      replace hMk := hMk.later hst12
      replace gw := gw.later hst12
      replace k2 := k2.later hst12
      clear hst12
      clear hc12 hb11
      have k3 := o3.cellsAt
      clear o3
      have hN12 := Blk.newA w12 w12.heap.size _ 26 [.int .u32 0, .int .u32 0, .int .u32 0, .int .u32 0, .int .u32 0, .int .u32 0, .int .u32 0, .int .u32 0, .slice none 0 0, .int .i64 0] rfl rfl
      go_upto_region 14 with (refine wpList_store_blk rfl 26 _ _ rfl w12.heap.size (by rfl) 26 _ [.int .u32 u2.a, .int .u32 u2.b, .int .u32 u2.c, .int .u32 u2.d, .int .u32 u2.e, .int .u32 u2.f, .int .u32 u2.g, .int .u32 u2.z, .slice a3 m2 c3, .int .i64 M] (by rfl) hN12 (by rfl) infoM (mill_one _ _ _ _ _) ?_; intro w13 hQ13 he; have HW := hid he; clear he)
      have hc13 : Below w12.heap.size w12 w13 := HW.out ▸ below_setCells (Nat.le_refl _) _ _ _ ((Below.refl _ _).alloc (Nat.le_refl _) _)
      clear hN12 HW
      have hd13 := hc13
      have hb13 : Below w.heap.size w w13 := bchain (by repeat' (first | with_reducible exact hb12 | with_reducible refine Below.drew ?_ | with_reducible refine below_drewN ?_ _ | with_reducible refine Below.alloc ?_ (by have := hb12.size; first | (simp; done) | (simp; omega) | omega) _ | with_reducible refine Below.setCell ?_ (by first | (simp; done) | (simp; omega) | omega) _)) hc13
      have hst13 : Below w12.heap.size w12 w13 := bchain (by repeat' (first | with_reducible exact Below.refl _ _ | with_reducible refine Below.drew ?_ | with_reducible refine below_drewN ?_ _ | with_reducible refine Below.alloc ?_ (by first | (simp; done) | (simp; omega) | omega) _ | with_reducible refine Below.setCell ?_ (by first | (simp; done) | (simp; omega) | omega) _)) hc13
      replace O_0 := cell_later hst13 O_0
      replace O_1 := cell_later hst13 O_1
      replace O_2 := cell_later hst13 O_2
      replace O_3 := cell_later hst13 O_3
      replace O_4 := cell_later hst13 O_4
      replace O_5 := cell_later hst13 O_5
      replace O_6 := cell_later hst13 O_6
      replace O_7 := cell_later hst13 O_7
      replace O_8 := cell_later hst13 O_8
      replace O_9 := cell_later hst13 O_9
      replace O_l := Nat.lt_of_lt_of_le O_l hst13.size
      replace hMk := hMk.later hst13
      replace gw := gw.later hst13
      replace k2 := k2.later hst13
      replace k3 := k3.later hst13
      clear hst13
      clear hc13
      clear hd13
      have Q_0 := hQ13.cell (j := 0) (v := .int .u32 u2.a) rfl
      have Q_1 := hQ13.cell (j := 1) (v := .int .u32 u2.b) rfl
      have Q_2 := hQ13.cell (j := 2) (v := .int .u32 u2.c) rfl
      have Q_3 := hQ13.cell (j := 3) (v := .int .u32 u2.d) rfl
      have Q_4 := hQ13.cell (j := 4) (v := .int .u32 u2.e) rfl
      have Q_5 := hQ13.cell (j := 5) (v := .int .u32 u2.f) rfl
      have Q_6 := hQ13.cell (j := 6) (v := .int .u32 u2.g) rfl
      have Q_7 := hQ13.cell (j := 7) (v := .int .u32 u2.z) rfl
      have Q_8 := hQ13.cell (j := 8) (v := .slice a3 m2 c3) rfl
      have Q_9 := hQ13.cell (j := 9) (v := .int .i64 M) rfl
      have Q_l := hQ13.lt
      go_wp2_with fail
      with_reducible refine (same_self u2 u2 M (restL xs) a2' a3 m2 m2 c2' c3 _ rfl H_hm2.out H_hm2.out (by omega) k2 k3).mono ?_
      rintro e w14 ⟨rfl, hc14⟩
      have hb14 : Below w.heap.size w w14 := bchain (by repeat' (first | with_reducible exact hb13 | with_reducible refine Below.drew ?_ | with_reducible refine below_drewN ?_ _ | with_reducible refine Below.alloc ?_ (by have := hb13.size; first | (simp; done) | (simp; omega) | omega) _ | with_reducible refine Below.setCell ?_ (by first | (simp; done) | (simp; omega) | omega) _)) hc14
      have hst14 : Below w13.heap.size w13 w14 := bchain (by repeat' (first | with_reducible exact Below.refl _ _ | with_reducible refine Below.drew ?_ | with_reducible refine below_drewN ?_ _ | with_reducible refine Below.alloc ?_ (by first | (simp; done) | (simp; omega) | omega) _ | with_reducible refine Below.setCell ?_ (by first | (simp; done) | (simp; omega) | omega) _)) hc14
      replace O_0 := cell_later hst14 O_0
      replace O_1 := cell_later hst14 O_1
      replace O_2 := cell_later hst14 O_2
      replace O_3 := cell_later hst14 O_3
      replace O_4 := cell_later hst14 O_4
      replace O_5 := cell_later hst14 O_5
      replace O_6 := cell_later hst14 O_6
      replace O_7 := cell_later hst14 O_7
      replace O_8 := cell_later hst14 O_8
      replace O_9 := cell_later hst14 O_9
      replace O_l := Nat.lt_of_lt_of_le O_l hst14.size
      replace Q_0 := cell_later hst14 Q_0
      replace Q_1 := cell_later hst14 Q_1
      replace Q_2 := cell_later hst14 Q_2
      replace Q_3 := cell_later hst14 Q_3
      replace Q_4 := cell_later hst14 Q_4
      replace Q_5 := cell_later hst14 Q_5
      replace Q_6 := cell_later hst14 Q_6
      replace Q_7 := cell_later hst14 Q_7
      replace Q_8 := cell_later hst14 Q_8
      replace Q_9 := cell_later hst14 Q_9
      replace Q_l := Nat.lt_of_lt_of_le Q_l hst14.size
      replace hMk := hMk.later hst14
      replace gw := gw.later hst14
      replace k2 := k2.later hst14
      replace k3 := k3.later hst14
      replace hQ13 := hQ13.later hst14
      clear hst14
      clear hc14 hb13
      go_wp2_with (refine wpList_store_blk rfl 26 _ _ rfl w7.heap.size (by rfl) 26 _ [.int .u32 u2.a, .int .u32 u2.b, .int .u32 u2.c, .int .u32 u2.d, .int .u32 u2.e, .int .u32 u2.f, .int .u32 u2.g, .int .u32 u2.z, .slice a2' m2 c2', .int .i64 M] (by rfl) hMk (by rfl) infoM (mill_one _ _ _ _ _) ?_; intro w15 hM15 he15; have H15 := hid he15; clear he15)
      go_wp2_with fail
      go_roundw
      case rel =>
        have z7 := hb7.size
        refine ⟨k + 1, by omega, by go_num, H15.out ▸ below_setCells z7 _ _ _ hb14, H15.out ▸ below_setCells (Nat.le_refl _) _ _ _ gw, ?_⟩
        rw [← H_hxe.out]
        exact ⟨u2, a2', m2, c2', H_hM'.out ▸ hM15, H_hu2.out, H_hm2.out, H15.out ▸ CellsAt.setCellsFar (fun ad e => by have := F2.out ad e; have := kM10.lt; omega) _ _ _ k2⟩
      case measure => simp [intOf]; omega
    · have hge : (n : Int) ≤ (k : Int) := by omega
      have hbf : bs = fl := by rw [hbs, H_hfle.out, List.take_of_length_le (by have := H_hn.out; omega)]
      subst hbf
      obtain rfl := V8.inj (hu.trans H_huf.out.symm)
      have hNm : N = m0 := hN.trans H_hm0.out.symm
      clear hu hbs hN
      subst hNm
      have hEu := hid (show endM u.list (restL bs) N = (pl, 0) by rw [H_huf.out, H_hm0.out]; exact H_hE.out)
      have hm64 : m ≤ 64 := by rw [hm, restL_len]; omega
      have huk := mill_ok v0c_ok bs H_huf.out
      have hb8r := hb8.rest
      have hA := kA7.later gw
      have hB := kB7.later gw
      have k0 := k07.later gw
      have H_hm := hid hm
      have H_huk := hid huk
      clear hm huk
      have M_0 := hM.cell (j := 0) (v := .int .u32 u.a) rfl
      have M_1 := hM.cell (j := 1) (v := .int .u32 u.b) rfl
      have M_2 := hM.cell (j := 2) (v := .int .u32 u.c) rfl
      have M_3 := hM.cell (j := 3) (v := .int .u32 u.d) rfl
      have M_4 := hM.cell (j := 4) (v := .int .u32 u.e) rfl
      have M_5 := hM.cell (j := 5) (v := .int .u32 u.f) rfl
      have M_6 := hM.cell (j := 6) (v := .int .u32 u.g) rfl
      have M_7 := hM.cell (j := 7) (v := .int .u32 u.z) rfl
      have M_8 := hM.cell (j := 8) (v := .slice ar m cr) rfl
      have M_9 := hM.cell (j := 9) (v := .int .i64 N) rfl
      have M_l := hM.lt
      go_wp2_with fail
      with_reducible refine (end_r hEu.out H_pdv.out ar m cr _ H_huk.out H_hm.out kr hb8r (hK.later hbw) (hwf _ hbw)).mono ?_
      rintro e w10 ⟨rfl, hc10⟩
      have hb10 : Below w.heap.size w w10 := bchain (by repeat' (first | with_reducible exact hbw | with_reducible refine Below.drew ?_ | with_reducible refine below_drewN ?_ _ | with_reducible refine Below.alloc ?_ (by have := hbw.size; first | (simp; done) | (simp; omega) | omega) _ | with_reducible refine Below.setCell ?_ (by first | (simp; done) | (simp; omega) | omega) _)) hc10
      have hst10 : Below w9.heap.size w9 w10 := bchain (by repeat' (first | with_reducible exact Below.refl _ _ | with_reducible refine Below.drew ?_ | with_reducible refine below_drewN ?_ _ | with_reducible refine Below.alloc ?_ (by first | (simp; done) | (simp; omega) | omega) _ | with_reducible refine Below.setCell ?_ (by first | (simp; done) | (simp; omega) | omega) _)) hc10
      replace M_0 := cell_later hst10 M_0
      replace M_1 := cell_later hst10 M_1
      replace M_2 := cell_later hst10 M_2
      replace M_3 := cell_later hst10 M_3
      replace M_4 := cell_later hst10 M_4
      replace M_5 := cell_later hst10 M_5
      replace M_6 := cell_later hst10 M_6
      replace M_7 := cell_later hst10 M_7
      replace M_8 := cell_later hst10 M_8
      replace M_9 := cell_later hst10 M_9
      replace M_l := Nat.lt_of_lt_of_le M_l hst10.size
      replace kr := kr.later hst10
      replace hA := hA.later hst10
      replace hB := hB.later hst10
      replace k0 := k0.later hst10
      clear hst10
      clear hc10 hbw
      have hN10 := Blk.new w10 w10.heap.size (List.replicate 32 (Value.int .u8 0)) 33 rfl
      go_upto_region 18 with (refine wpList_store_blk rfl 33 _ _ rfl w10.heap.size (by rfl) 33 _ pv (by rfl) hN10 H_pr.out H_pi.out H_po.out ?_; intro w11 hC11 he; have HW := hid he; clear he)
      have hc11 : Below w10.heap.size w10 w11 := HW.out ▸ below_setCells (Nat.le_refl _) _ _ _ ((Below.refl _ _).alloc (Nat.le_refl _) _)
      clear hN10 HW
      have hb11 : Below w.heap.size w w11 := bchain (by repeat' (first | with_reducible exact hb10 | with_reducible refine Below.drew ?_ | with_reducible refine below_drewN ?_ _ | with_reducible refine Below.alloc ?_ (by have := hb10.size; first | (simp; done) | (simp; omega) | omega) _ | with_reducible refine Below.setCell ?_ (by first | (simp; done) | (simp; omega) | omega) _)) hc11
      have hst11 : Below w10.heap.size w10 w11 := bchain (by repeat' (first | with_reducible exact Below.refl _ _ | with_reducible refine Below.drew ?_ | with_reducible refine below_drewN ?_ _ | with_reducible refine Below.alloc ?_ (by first | (simp; done) | (simp; omega) | omega) _ | with_reducible refine Below.setCell ?_ (by first | (simp; done) | (simp; omega) | omega) _)) hc11
      replace M_0 := cell_later hst11 M_0
      replace M_1 := cell_later hst11 M_1
      replace M_2 := cell_later hst11 M_2
      replace M_3 := cell_later hst11 M_3
      replace M_4 := cell_later hst11 M_4
      replace M_5 := cell_later hst11 M_5
      replace M_6 := cell_later hst11 M_6
      replace M_7 := cell_later hst11 M_7
      replace M_8 := cell_later hst11 M_8
      replace M_9 := cell_later hst11 M_9
      replace M_l := Nat.lt_of_lt_of_le M_l hst11.size
      replace kr := kr.later hst11
      replace hA := hA.later hst11
      replace hB := hB.later hst11
      replace k0 := k0.later hst11
      clear hst11
      clear hc11
      go_wp2_with fail
      with_reducible refine (start_any _).mono ?_
      rintro e w12 ⟨rfl, hc12⟩
      have hb12 : Below w.heap.size w w12 := bchain (by repeat' (first | with_reducible exact hb11 | with_reducible refine Below.drew ?_ | with_reducible refine below_drewN ?_ _ | with_reducible refine Below.alloc ?_ (by have := hb11.size; first | (simp; done) | (simp; omega) | omega) _ | with_reducible refine Below.setCell ?_ (by first | (simp; done) | (simp; omega) | omega) _)) hc12
      have hst12 : Below w11.heap.size w11 w12 := bchain (by repeat' (first | with_reducible exact Below.refl _ _ | with_reducible refine Below.drew ?_ | with_reducible refine below_drewN ?_ _ | with_reducible refine Below.alloc ?_ (by first | (simp; done) | (simp; omega) | omega) _ | with_reducible refine Below.setCell ?_ (by first | (simp; done) | (simp; omega) | omega) _)) hc12
      replace M_0 := cell_later hst12 M_0
      replace M_1 := cell_later hst12 M_1
      replace M_2 := cell_later hst12 M_2
      replace M_3 := cell_later hst12 M_3
      replace M_4 := cell_later hst12 M_4
      replace M_5 := cell_later hst12 M_5
      replace M_6 := cell_later hst12 M_6
      replace M_7 := cell_later hst12 M_7
      replace M_8 := cell_later hst12 M_8
      replace M_9 := cell_later hst12 M_9
      replace M_l := Nat.lt_of_lt_of_le M_l hst12.size
      replace kr := kr.later hst12
      replace hA := hA.later hst12
      replace hB := hB.later hst12
      replace k0 := k0.later hst12
      replace hC11 := hC11.later hst12
      clear hst12
      clear hc12 hb11
      go_wp2_with fail
      with_reducible refine (add_start bs H_huf.out N m H_hm0.out H_hm.out a0 N c0 _ H_hm0.out k0 hb8 (hK.later hb12) (hwf _ hb12) (by have := H_hfl.out; omega)).mono ?_
      rintro e w13 ⟨⟨a6, c6, rfl, o6⟩, hc13⟩
      have hb13 : Below w.heap.size w w13 := bchain (by repeat' (first | with_reducible exact hb12 | with_reducible refine Below.drew ?_ | with_reducible refine below_drewN ?_ _ | with_reducible refine Below.alloc ?_ (by have := hb12.size; first | (simp; done) | (simp; omega) | omega) _ | with_reducible refine Below.setCell ?_ (by first | (simp; done) | (simp; omega) | omega) _)) hc13
      have hst13 : Below w12.heap.size w12 w13 := bchain (by repeat' (first | with_reducible exact Below.refl _ _ | with_reducible refine Below.drew ?_ | with_reducible refine below_drewN ?_ _ | with_reducible refine Below.alloc ?_ (by first | (simp; done) | (simp; omega) | omega) _ | with_reducible refine Below.setCell ?_ (by first | (simp; done) | (simp; omega) | omega) _)) hc13
      replace M_0 := cell_later hst13 M_0
      replace M_1 := cell_later hst13 M_1
      replace M_2 := cell_later hst13 M_2
      replace M_3 := cell_later hst13 M_3
      replace M_4 := cell_later hst13 M_4
      replace M_5 := cell_later hst13 M_5
      replace M_6 := cell_later hst13 M_6
      replace M_7 := cell_later hst13 M_7
      replace M_8 := cell_later hst13 M_8
      replace M_9 := cell_later hst13 M_9
      replace M_l := Nat.lt_of_lt_of_le M_l hst13.size
      replace kr := kr.later hst13
      replace hA := hA.later hst13
      replace hB := hB.later hst13
      replace k0 := k0.later hst13
      replace hC11 := hC11.later hst13
      clear hst13
      clear hc13 hb12
      have k6 := o6.cellsAt
      clear o6
      have hN13 := Blk.newA w13 w13.heap.size _ 26 [.int .u32 0, .int .u32 0, .int .u32 0, .int .u32 0, .int .u32 0, .int .u32 0, .int .u32 0, .int .u32 0, .slice none 0 0, .int .i64 0] rfl rfl
      go_upto_region 19 with (refine wpList_store_blk rfl 26 _ _ rfl w13.heap.size (by rfl) 26 _ [.int .u32 u.a, .int .u32 u.b, .int .u32 u.c, .int .u32 u.d, .int .u32 u.e, .int .u32 u.f, .int .u32 u.g, .int .u32 u.z, .slice a6 m c6, .int .i64 N] (by rfl) hN13 (by rfl) infoM (mill_one _ _ _ _ _) ?_; intro w14 hS14 he; have HW := hid he; clear he)
      have hc14 : Below w13.heap.size w13 w14 := HW.out ▸ below_setCells (Nat.le_refl _) _ _ _ ((Below.refl _ _).alloc (Nat.le_refl _) _)
      clear hN13 HW
      have hd14 := hc14
      have hb14 : Below w.heap.size w w14 := bchain (by repeat' (first | with_reducible exact hb13 | with_reducible refine Below.drew ?_ | with_reducible refine below_drewN ?_ _ | with_reducible refine Below.alloc ?_ (by have := hb13.size; first | (simp; done) | (simp; omega) | omega) _ | with_reducible refine Below.setCell ?_ (by first | (simp; done) | (simp; omega) | omega) _)) hc14
      have hst14 : Below w13.heap.size w13 w14 := bchain (by repeat' (first | with_reducible exact Below.refl _ _ | with_reducible refine Below.drew ?_ | with_reducible refine below_drewN ?_ _ | with_reducible refine Below.alloc ?_ (by first | (simp; done) | (simp; omega) | omega) _ | with_reducible refine Below.setCell ?_ (by first | (simp; done) | (simp; omega) | omega) _)) hc14
      replace M_0 := cell_later hst14 M_0
      replace M_1 := cell_later hst14 M_1
      replace M_2 := cell_later hst14 M_2
      replace M_3 := cell_later hst14 M_3
      replace M_4 := cell_later hst14 M_4
      replace M_5 := cell_later hst14 M_5
      replace M_6 := cell_later hst14 M_6
      replace M_7 := cell_later hst14 M_7
      replace M_8 := cell_later hst14 M_8
      replace M_9 := cell_later hst14 M_9
      replace M_l := Nat.lt_of_lt_of_le M_l hst14.size
      replace kr := kr.later hst14
      replace hA := hA.later hst14
      replace hB := hB.later hst14
      replace k0 := k0.later hst14
      replace hC11 := hC11.later hst14
      replace k6 := k6.later hst14
      clear hst14
      clear hc14
      clear hd14
      have S_0 := hS14.cell (j := 0) (v := .int .u32 u.a) rfl
      have S_1 := hS14.cell (j := 1) (v := .int .u32 u.b) rfl
      have S_2 := hS14.cell (j := 2) (v := .int .u32 u.c) rfl
      have S_3 := hS14.cell (j := 3) (v := .int .u32 u.d) rfl
      have S_4 := hS14.cell (j := 4) (v := .int .u32 u.e) rfl
      have S_5 := hS14.cell (j := 5) (v := .int .u32 u.f) rfl
      have S_6 := hS14.cell (j := 6) (v := .int .u32 u.g) rfl
      have S_7 := hS14.cell (j := 7) (v := .int .u32 u.z) rfl
      have S_8 := hS14.cell (j := 8) (v := .slice a6 m c6) rfl
      have S_9 := hS14.cell (j := 9) (v := .int .i64 N) rfl
      have S_l := hS14.lt
      have heq := H_pq.out
      go_wp2_with (first | (refine wpList_load_blkG (by rfl) 33 _ rfl w3.heap.size (by rfl) 33 pv _ hA Tryd.underlying33 rfl H_pi.out ?_) | (refine wpList_load_blkG (by rfl) 33 _ rfl w5.heap.size (by rfl) 33 pv _ hB Tryd.underlying33 rfl H_pi.out ?_) | (refine wpList_load_blkG (by rfl) 33 _ rfl w10.heap.size (by rfl) 33 pv _ hC11 Tryd.underlying33 rfl H_pi.out ?_))
      with_reducible refine (same_self u u N (restL bs) ar a6 m m cr c6 _ rfl H_hm.out H_hm.out (by omega) kr k6).mono ?_
      rintro e w15 ⟨rfl, hc15⟩
      have hb15 : Below w.heap.size w w15 := bchain (by repeat' (first | with_reducible exact hb14 | with_reducible refine Below.drew ?_ | with_reducible refine below_drewN ?_ _ | with_reducible refine Below.alloc ?_ (by have := hb14.size; first | (simp; done) | (simp; omega) | omega) _ | with_reducible refine Below.setCell ?_ (by first | (simp; done) | (simp; omega) | omega) _)) hc15
      have hst15 : Below w14.heap.size w14 w15 := bchain (by repeat' (first | with_reducible exact Below.refl _ _ | with_reducible refine Below.drew ?_ | with_reducible refine below_drewN ?_ _ | with_reducible refine Below.alloc ?_ (by first | (simp; done) | (simp; omega) | omega) _ | with_reducible refine Below.setCell ?_ (by first | (simp; done) | (simp; omega) | omega) _)) hc15
      replace M_0 := cell_later hst15 M_0
      replace M_1 := cell_later hst15 M_1
      replace M_2 := cell_later hst15 M_2
      replace M_3 := cell_later hst15 M_3
      replace M_4 := cell_later hst15 M_4
      replace M_5 := cell_later hst15 M_5
      replace M_6 := cell_later hst15 M_6
      replace M_7 := cell_later hst15 M_7
      replace M_8 := cell_later hst15 M_8
      replace M_9 := cell_later hst15 M_9
      replace M_l := Nat.lt_of_lt_of_le M_l hst15.size
      replace S_0 := cell_later hst15 S_0
      replace S_1 := cell_later hst15 S_1
      replace S_2 := cell_later hst15 S_2
      replace S_3 := cell_later hst15 S_3
      replace S_4 := cell_later hst15 S_4
      replace S_5 := cell_later hst15 S_5
      replace S_6 := cell_later hst15 S_6
      replace S_7 := cell_later hst15 S_7
      replace S_8 := cell_later hst15 S_8
      replace S_9 := cell_later hst15 S_9
      replace S_l := Nat.lt_of_lt_of_le S_l hst15.size
      replace kr := kr.later hst15
      replace hA := hA.later hst15
      replace hB := hB.later hst15
      replace k0 := k0.later hst15
      replace hC11 := hC11.later hst15
      replace k6 := k6.later hst15
      replace hS14 := hS14.later hst15
      clear hst15
      clear hc15
      go_wp2_with fail
      with_reducible refine (alive_any _ (hK.later hb15) (hwf _ hb15)).mono ?_
      rintro e w16 ⟨rfl, hc16⟩
      have hb16 : Below w.heap.size w w16 := bchain (by repeat' (first | with_reducible exact hb15 | with_reducible refine Below.drew ?_ | with_reducible refine below_drewN ?_ _ | with_reducible refine Below.alloc ?_ (by have := hb15.size; first | (simp; done) | (simp; omega) | omega) _ | with_reducible refine Below.setCell ?_ (by first | (simp; done) | (simp; omega) | omega) _)) hc16
      have hst16 : Below w15.heap.size w15 w16 := bchain (by repeat' (first | with_reducible exact Below.refl _ _ | with_reducible refine Below.drew ?_ | with_reducible refine below_drewN ?_ _ | with_reducible refine Below.alloc ?_ (by first | (simp; done) | (simp; omega) | omega) _ | with_reducible refine Below.setCell ?_ (by first | (simp; done) | (simp; omega) | omega) _)) hc16
      replace M_0 := cell_later hst16 M_0
      replace M_1 := cell_later hst16 M_1
      replace M_2 := cell_later hst16 M_2
      replace M_3 := cell_later hst16 M_3
      replace M_4 := cell_later hst16 M_4
      replace M_5 := cell_later hst16 M_5
      replace M_6 := cell_later hst16 M_6
      replace M_7 := cell_later hst16 M_7
      replace M_8 := cell_later hst16 M_8
      replace M_9 := cell_later hst16 M_9
      replace M_l := Nat.lt_of_lt_of_le M_l hst16.size
      replace S_0 := cell_later hst16 S_0
      replace S_1 := cell_later hst16 S_1
      replace S_2 := cell_later hst16 S_2
      replace S_3 := cell_later hst16 S_3
      replace S_4 := cell_later hst16 S_4
      replace S_5 := cell_later hst16 S_5
      replace S_6 := cell_later hst16 S_6
      replace S_7 := cell_later hst16 S_7
      replace S_8 := cell_later hst16 S_8
      replace S_9 := cell_later hst16 S_9
      replace S_l := Nat.lt_of_lt_of_le S_l hst16.size
      replace kr := kr.later hst16
      replace hA := hA.later hst16
      replace hB := hB.later hst16
      replace k0 := k0.later hst16
      replace hC11 := hC11.later hst16
      replace k6 := k6.later hst16
      replace hS14 := hS14.later hst16
      clear hst16
      clear hc16
      go_wp2_with fail
      go_ret
      exact ⟨rfl, hb16⟩

theorem piecesLaw_full {l : List (List Int)} (hsum : l.flatten.length ≤ 70368744177664) (vs : List Value) (a : Option Addr) (c : Nat) (w : World) (hP : PiecesIn w a vs l) (hK : CellsAt w (some ⟨0, 0, none⟩) (kcs.map (Value.int .u32)) ∧ 0 < w.heap.size) :
    Calls Tryd.prog 6 #[.slice a l.length c] w fun e w' =>
      e = .returned (.bool true) ∧ Below w.heap.size w w' := piecesLaw_walk l vs a c w hP hsum hK.1 hK.2

end Go.Proofs.YtlilodfddojlhaaDoor
