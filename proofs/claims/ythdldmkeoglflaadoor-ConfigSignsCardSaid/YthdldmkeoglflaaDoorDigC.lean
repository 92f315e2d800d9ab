/- DigC: DigAdd, DigEnd, DigEnd2. -/
import Derived.Test.YthdldmkeoglflaaDoorDigB
import Derived.Test.YthdldmkeoglflaaDoorQTail
import Derived.Test.YthdldmkeoglflaaDoorRegSpec
/- Add, of the program and of the reference. -/
namespace Go.Proofs.YthdldmkeoglflaaDoor
set_option maxRecDepth 100000
set_option linter.unusedSimpArgs false
set_option linter.unusedVariables false
set_option linter.unnecessarySimpa false
open Go.RowKit

/-- What Add returns: the words, the rest, the count, the error. -/
def addM (hs rs : List Int) (N : Int) (ys : List Int) : List Int × List Int × Int × Int :=
  if vdB N rs.length = false then (List.replicate 8 0, [], 0, 8) else if 200000 - N < (ys.length : Int) then (List.replicate 8 0, [], 0, 4) else (mill hs (rs ++ ys), (rs ++ ys).drop ((rs ++ ys).length / 64 * 64), N + ys.length, 0)
def MillR (B : Nat) (w : World) (e : Ending) (r : List Int × List Int × Int × Int) : Prop :=
  ∃ (u : V8) (a : Option Addr) (m c : Nat), e = .returned (.tuple #[.agg #[.int .u32 u.a, .int .u32 u.b, .int .u32 u.c, .int .u32 u.d, .int .u32 u.e, .int .u32 u.f, .int .u32 u.g, .int .u32 u.z, .slice a m c, .int .i64 r.2.2.1], .int .i64 r.2.2.2]) ∧ u.list = r.1 ∧ m = r.2.1.length ∧ CellsAt w a (r.2.1.map (Value.int .u8)) ∧ (r.2.1 ≠ [] → ∀ ad, a = some ad → B ≤ ad.block)
theorem slice_from_any {P : Program} {t : TypeId} (ht : P.underlying t = some (.slice (P.elem t))) (hsz : ∀ w, (sizeOf (P.elem t)).run P w = .ok 1 w) (a : Option Addr) (len cap : Nat) (k : Nat) (hk : k ≤ len) (hc : len ≤ cap) :
    ∃ a' : Option Addr, (∀ w', (Instr.slice t (.slice a len cap) (some (.int .i64 k)) none none).run P w' = .ok (.slice a' (len - k) (cap - k)) w') ∧ (∀ w cs, CellsAt w a cs → cs.length = len → CellsAt w a' (cs.drop k)) ∧ (∀ ad', a' = some ad' → ∃ ad, a = some ad ∧ ad'.block = ad.block) := by
  refine ⟨if cap = k then a else a.map (·.add (k * 1)), fun w' => ?_, fun w cs h hl => ?_, fun ad' e => ?_⟩
  · rw [run_slice_l w' t _ _ _ ht .i64 k (by omega) (by omega), hsz]
    simp [Result.andThen, sliced]
  · by_cases c : cap = k
    · rw [if_pos c]; left; rw [List.drop_eq_nil_iff]; omega
    · rw [if_neg c]
      rcases h with rfl | ⟨b, o, rfl, h⟩
      · left; simp
      · have := CellsAt.dropK (w := w) (b := b) (o := o) (cs := cs) (.inr ⟨b, o, rfl, h⟩) k
        simpa [Addr.add_lit] using this
  · by_cases c : cap = k
    · rw [if_pos c] at e; exact ⟨ad', e, rfl⟩
    · rw [if_neg c] at e
      rcases a with _ | ad
      · cases e
      · cases e; exact ⟨ad, rfl, by unfold Addr.add; split <;> rfl⟩
theorem MillR.zero (B : Nat) (w : World) (er : Int) : MillR B w (.returned (.tuple #[.agg #[.int .u32 0, .int .u32 0, .int .u32 0, .int .u32 0, .int .u32 0, .int .u32 0, .int .u32 0, .int .u32 0, .slice none 0 0, .int .i64 0], .int .i64 er])) (List.replicate 8 0, [], 0, er) :=
  ⟨⟨0, 0, 0, 0, 0, 0, 0, 0⟩, none, 0, 0, rfl, rfl, rfl, .inl rfl, fun _ ad e => by cases e⟩

theorem V8.inj {u v : V8} (h : u.list = v.list) : u = v := by
  obtain ⟨a, b, c, d, e, f, g, z⟩ := u
  obtain ⟨a', b', c', d', e', f', g', z'⟩ := v
  simp only [V8.list, List.cons.injEq, and_true] at h
  obtain ⟨h1, h2, h3, h4, h5, h6, h7, h8⟩ := h
  subst h1 h2 h3 h4 h5 h6 h7 h8
  rfl
end Go.Proofs.YthdldmkeoglflaaDoor

/- End, of the program and of the reference. -/
namespace Go.Proofs.YthdldmkeoglflaaDoor
set_option maxRecDepth 100000
set_option linter.unusedSimpArgs false
set_option linter.unusedVariables false
set_option linter.unnecessarySimpa false
open Go.RowKit

section
variable {P : Program}
theorem wpList_append_run {ops : Array Oper} {rest : List Oper} {o : Oper} {a : Act} {w : World} {Q : Exit → Act → World → Prop} (hgd : o.guard = none) (s x : Operand) (t tn : TypeId)
    (ho : o.op = .call { callee := .builtin .append, args := #[s, x], argTypes := #[t, tn] }) (v u : Value) (hs : a.eval s = v) (hx : a.eval x = u) (r : Value) (w' : World)
    (hr : (Builtin.append_ #[t, tn] o.type #[v, u]).run P w = .ok r w') (h : wpList P ops Q rest (a.put o.dst r) w') : wpList P ops Q (o :: rest) a w := by
  refine wpList_plain hgd fun K hK => ?_
  unfold Oper.wp
  simp [execOp, ho, resolve, invoke, builtin, hs, hx, hr, Result.andThen]
  exact hK _ _ h
theorem wpList_gen {ops : Array Oper} {rest : List Oper} {a : Act} {w : World} {Q : Exit → Act → World → Prop} (h : ∀ w', Below w.heap.size w w' → wpList P ops Q rest a w') : wpList P ops Q rest a w := h w (Below.refl _ _)
end
theorem own_made (w : World) (cur : List Value) (base e n size H : Nat) (hH : w.heap.size = H) (hb : base ≤ H) (hm : n ≤ maxLen) (hs : cur.length = n * size) :
    OwnX (w.alloc (.cells cur.toArray e)) base e size (.slice (some ⟨H, 0, none⟩) n n) n cur := by
  subst hH; exact OwnX.made w cur base e n size hb hm hs
/-- The digest of a mill. -/
def endL (hs rs : List Int) (N : Nat) : List Int := wr32 (mill hs (rs ++ tailL N)) 32
theorem endL_len (hs rs : List Int) (N : Nat) : (endL hs rs N).length = 32 := wr32_len _ _
theorem endL_bytes (hs rs : List Int) (N : Nat) : Bytes8 (endL hs rs N) := wr32_bytes _ _
theorem mill_ok {v u : V8} (hv : v.ok) (bs : List Int) (hu : u.list = mill v.list bs) : u.ok := by
  have h1 : Rng32 (mill v.list bs) := grindN_rng hv.list bs _
  rw [← hu] at h1
  exact V8.of_ok h1
theorem wr32_4 (l : List Int) (i j : Nat) (hj : j = 4 * i) : wr32 l (4 * (i + 1)) = (((((wr32 l j).set j (l[i]?.getD 0 / 16777216 % 256)).set (j + 1) (l[i]?.getD 0 / 65536 % 256)).set (j + 2) (l[i]?.getD 0 / 256 % 256)).set (j + 3) (l[i]?.getD 0 % 256)) := by
  have e0 : (4 * i + 3) / 4 = i := by omega
  have e1 : (4 * i + 2) / 4 = i := by omega
  have e2 : (4 * i + 1) / 4 = i := by omega
  have e3 : (4 * i) / 4 = i := by omega
  have f0 : 24 - 8 * ((4 * i + 3) % 4) = 0 := by omega
  have f1 : 24 - 8 * ((4 * i + 2) % 4) = 8 := by omega
  have f2 : 24 - 8 * ((4 * i + 1) % 4) = 16 := by omega
  have f3 : 24 - 8 * ((4 * i) % 4) = 24 := by omega
  subst hj
  show wr32 l (4 * i + 1 + 1 + 1 + 1) = _
  simp only [wr32, e0, e1, e2, e3, f0, f1, f2, f3]
  simp

theorem fld8 (a b c d e f g h x y : Value) (w : World) :
    (Instr.field 159 (.agg #[a, b, c, d, e, f, g, h, x, y]) 0).run Tryd.prog w = .ok (.agg #[a, b, c, d, e, f, g, h]) w := by kernel_rfl

set_option maxRecDepth 100000 in
set_option maxHeartbeats 4000000 in
theorem end_any (v : V8) (rs : List Int) (N : Nat) (ra : Option Addr) (rn rc : Nat) (w : World) (hv : v.ok) (hrn : rn = rs.length) (hr : CellsAt w ra (rs.map (Value.int .u8))) (hr8 : Bytes8 rs) (hK : CellsAt w (some ⟨6, 0, none⟩) (kcs.map (Value.int .u32))) (hw0 : 6 < w.heap.size)
    (hN : N ≤ 200000) (hrN : rn = N % 64) :
    Calls Tryd.prog 120 #[.agg #[.int .u32 v.a, .int .u32 v.b, .int .u32 v.c, .int .u32 v.d, .int .u32 v.e, .int .u32 v.f, .int .u32 v.g, .int .u32 v.z, .slice ra rn rc, .int .i64 N]] w fun e w' =>
      e = .returned (.agg ((endL v.list rs N).map (Value.int .u8)).toArray) ∧ Below w.heap.size w w' := by
  obtain ⟨i0, hi, hz0, hz1, hz2⟩ := info_parts info_u8
  have hNI : (N : Int) ≤ 200000 := by omega
  obtain ⟨z, hz⟩ : ∃ z, z = zn N := ⟨_, rfl⟩
  have hzl : z < 64 := hz ▸ zn_lt N
  obtain ⟨y, hy⟩ : ∃ y, y = N % 64 := ⟨_, rfl⟩
  have hyI : (N : Int) % 64 = (y : Int) := by omega
  have hy1 : (y : Int) < 64 := by omega
  have hzz : (119 - (y : Int)) % 64 = (z : Int) := by rw [hz]; unfold zn; omega
  have Hw8 : IntKind.u64.wrap ((N : Int) * 8) = (N : Int) * 8 := by rw [IntKind.wrap_u64]; omega
  have hzI : (z : Int) < 64 := by omega
  have H_hrn := hid hrn
  have H_hz := hid hz
  have H_hy := hid hy
  have H_hv := hid hv
  have H_hrN := hid hrN
  clear hrn hz hy hv hrN
  go_enter Tryd.func120, Tryd.ntmps120
  have hb0 := Below.refl w.heap.size w
  go_wp2_with (at_builtin; refine stop ?_)
  refine Stop.go ?_
  refine wpList_gen fun w1 hc1 => ?_
  obtain ⟨B2, hB2⟩ : ∃ B2, B2 = w.heap.size + 1 + 1 := ⟨_, rfl⟩
  have o1 : OwnX w1 B2 5 1 (.slice (some ⟨w.heap.size + 1 + 1, 0, none⟩) 1 1) 1 [.int .u8 128] := OwnX.later (own_made _ [.int .u8 128] _ _ 1 1 _ (by simp) (by omega) (by simp [maxLen]) rfl) hc1
  have hI1 : Blk w1 (w.heap.size + 1) 138 ((wr32 v.list 0).map (Value.int .u8)) := Blk.later (Blk.alloc (Blk.newA _ _ _ _ ((wr32 v.list 0).map (Value.int .u8)) (by simp) (by rfl)) _) hc1
  have hb1 : Below w.heap.size w w1 := bchain (by repeat' (first | with_reducible exact hb0 | with_reducible refine Below.drew ?_ | with_reducible refine below_drewN ?_ _ | with_reducible refine Below.alloc ?_ (by have := hb0.size; first | (simp; done) | (simp; omega) | omega) _ | with_reducible refine Below.setCell ?_ (by first | (simp; done) | (simp; omega) | omega) _)) hc1
  have M_0 : w1.cell? ⟨w.heap.size, 0, none⟩ = some (.int .u32 v.a) := (hc1.cell (p := ⟨w.heap.size, 0, none⟩) (by first | (simp; done) | (simp; omega))).trans (by first | (simp; done) | go_simp)
  have M_1 : w1.cell? ⟨w.heap.size, 1, none⟩ = some (.int .u32 v.b) := (hc1.cell (p := ⟨w.heap.size, 1, none⟩) (by first | (simp; done) | (simp; omega))).trans (by first | (simp; done) | go_simp)
  have M_2 : w1.cell? ⟨w.heap.size, 2, none⟩ = some (.int .u32 v.c) := (hc1.cell (p := ⟨w.heap.size, 2, none⟩) (by first | (simp; done) | (simp; omega))).trans (by first | (simp; done) | go_simp)
  have M_3 : w1.cell? ⟨w.heap.size, 3, none⟩ = some (.int .u32 v.d) := (hc1.cell (p := ⟨w.heap.size, 3, none⟩) (by first | (simp; done) | (simp; omega))).trans (by first | (simp; done) | go_simp)
  have M_4 : w1.cell? ⟨w.heap.size, 4, none⟩ = some (.int .u32 v.e) := (hc1.cell (p := ⟨w.heap.size, 4, none⟩) (by first | (simp; done) | (simp; omega))).trans (by first | (simp; done) | go_simp)
  have M_5 : w1.cell? ⟨w.heap.size, 5, none⟩ = some (.int .u32 v.f) := (hc1.cell (p := ⟨w.heap.size, 5, none⟩) (by first | (simp; done) | (simp; omega))).trans (by first | (simp; done) | go_simp)
  have M_6 : w1.cell? ⟨w.heap.size, 6, none⟩ = some (.int .u32 v.g) := (hc1.cell (p := ⟨w.heap.size, 6, none⟩) (by first | (simp; done) | (simp; omega))).trans (by first | (simp; done) | go_simp)
  have M_7 : w1.cell? ⟨w.heap.size, 7, none⟩ = some (.int .u32 v.z) := (hc1.cell (p := ⟨w.heap.size, 7, none⟩) (by first | (simp; done) | (simp; omega))).trans (by first | (simp; done) | go_simp)
  have M_8 : w1.cell? ⟨w.heap.size, 8, none⟩ = some (.slice ra rn rc) := (hc1.cell (p := ⟨w.heap.size, 8, none⟩) (by first | (simp; done) | (simp; omega))).trans (by first | (simp; done) | go_simp)
  have M_9 : w1.cell? ⟨w.heap.size, 9, none⟩ = some (.int .i64 N) := (hc1.cell (p := ⟨w.heap.size, 9, none⟩) (by first | (simp; done) | (simp; omega))).trans (by first | (simp; done) | go_simp)
  have M_l : w.heap.size < w1.heap.size := Nat.lt_of_lt_of_le (by first | (simp; done) | (simp; omega)) hc1.size
  have zM := M_l
  have zI := hI1.lt
  have zB : B2 ≤ w1.heap.size := by have := o1.addr _ rfl; simp only at this; omega
  obtain ⟨a5, c5, w2, hrun, o2, hb2⟩ := own_zeros (P := Tryd.prog) w1 B2 43 3 43 5 i0 (.int .u8 0) .i64 .i64 1 Tryd.underlying43 Tryd.underlying3 hi hz0 hz1 hz2 rfl _ 1 z _ o1 zB (by unfold maxLen; omega) (by omega)
  have HB := hid hB2
  clear o1 hB2
  rw [← hzz] at hrun
  have Hzz := hid hzz
  clear hzz
  refine wpList_append_run rfl _ _ 43 3 rfl _ _ rfl rfl _ _ hrun ?_
  clear hrun
  have o2' : OwnX w2 B2 5 1 (.slice a5 (1 + z) c5) (1 + z) ((128 :: List.replicate z 0 ++ dlb (8 * N) 0).map (Value.int .u8)) := by simpa [dlb] using o2
  clear o2
  go_wp2_with fail
  go_loopw [4, 5] (fun s q wr => ∃ (k : Nat) (av : Option Addr) (cv m : Nat), k ≤ 8 ∧ q = .int .i64 (56 - 8 * (k : Int)) ∧ Hid (m = 1 + z + k) ∧ s = .slice av m cv ∧ Below B2 w1 wr ∧ OwnX wr B2 5 1 (.slice av m cv) m ((128 :: List.replicate z 0 ++ dlb (8 * N) k).map (Value.int .u8))) (fun _ q _ => (intOf q + 1).toNat)
  case atStart => exact ⟨0, a5, c5, 1 + z, by omega, rfl, hid rfl, rfl, hb2, o2'⟩
  case round =>
    clear o2' hb2
    obtain ⟨k, av, cv, m, hk, rfl, Hm, rfl, hbw, ow⟩ := hrel
    have hm64 : (m : Int) ≤ 100 := by have := Hm.out; omega
    have hz2' := hbw.size
    by_cases hlt : k < 8
    · obtain ⟨i, hi'⟩ : ∃ i : Nat, i = 56 - 8 * k := ⟨_, rfl⟩
      have e7 : (56 : Int) - 8 * (k : Int) = (i : Int) := by omega
      rw [e7]
      have hi7 : (i : Int) ≤ 56 := by omega
      have Hi := hid hi'
      clear hi' e7
      go_wp2_with (at_builtin; refine stop ?_)
      refine Stop.go ?_
      refine wpList_append_x _ rfl _ _ 43 rfl B2 5 i0 (.int .u8 0) 1 1 Tryd.underlying43 hi hz0 hz1 hz2 rfl (by decide) (.slice av m cv) m _ rfl (ow.alloc _) (some ⟨wr.heap.size, 0, none⟩) 1 1 [.int .u8 _] rfl rfl (cellsAt_one wr _ _) (oneCell_int _ _) (by unfold maxLen; omega) (by omega) (by simp; omega) ?_
      intro a6 c6 w5 o5 hg hk5
      have hb5 : Below B2 w1 w5 := below_grownX (hbw.alloc (by omega) _) hg (by simp; omega) (fun q h => (ow.lt q h).1)
      have e1 : (128 :: List.replicate z 0 ++ dlb (8 * N) (k + 1)).map (Value.int .u8) = (128 :: List.replicate z 0 ++ dlb (8 * N) k).map (Value.int .u8) ++ [.int .u8 (8 * N / 2 ^ (56 - 8 * k) % 256)] := by simp [dlb]
      have o6 : OwnX w5 B2 5 1 (.slice a6 (m + 1) c6) (m + 1) ((128 :: List.replicate z 0 ++ dlb (8 * N) (k + 1)).map (Value.int .u8)) := by
        rw [e1]
        refine ow_last o5 ?_
        have e2 : i = 56 - 8 * k := Hi.out
        rw [e2, Int.mul_comm]
      clear o5
      have H_e1 := hid e1
      have H_o6 := hid o6
      clear e1 o6
      go_wp2_with fail
      go_roundw
      case rel => exact ⟨k + 1, a6, c6, m + 1, by omega, congrArg (Value.int .i64) (by have := Hi.out; omega), hid (by have := Hm.out; omega), rfl, hb5, H_o6.out⟩
      case measure => (have := Hi.out; first | (simp [intOf]; done) | (simp [intOf]; omega))
    · have ek : k = 8 := by omega
      have e7 : (56 : Int) - 8 * (k : Int) = -8 := by omega
      rw [e7]
      have em : m = 9 + z := by have := Hm.out; omega
      rw [ek] at ow
      have ot : OwnX wr B2 5 1 (.slice av m cv) m ((tailL N).map (Value.int .u8)) := by rw [H_hz.out] at ow; exact ow
      have H_ek := hid ek
      have H_e7 := hid e7
      have H_em := hid em
      clear ek e7 em
      clear ow
      have hle : w.heap.size + 2 = B2 := by have := HB.out; omega
      have hbr : Below w.heap.size w wr := hb1.trans (hbw.mono (by omega))
      have bk : ∀ o, wr.cell? ⟨w.heap.size, o, none⟩ = w1.cell? ⟨w.heap.size, o, none⟩ := fun o => hbw.cell (p := ⟨w.heap.size, o, none⟩) (by simp; omega)
      have hIr : Blk wr (w.heap.size + 1) 138 ((wr32 v.list 0).map (Value.int .u8)) := hI1.below hbw (by omega)
      replace M_0 := (bk 0).trans M_0
      replace M_1 := (bk 1).trans M_1
      replace M_2 := (bk 2).trans M_2
      replace M_3 := (bk 3).trans M_3
      replace M_4 := (bk 4).trans M_4
      replace M_5 := (bk 5).trans M_5
      replace M_6 := (bk 6).trans M_6
      replace M_7 := (bk 7).trans M_7
      replace M_8 := (bk 8).trans M_8
      replace M_9 := (bk 9).trans M_9
      have kr := hr.later hbr
      have kK := hK.later hbr
      have hwr : 6 < wr.heap.size := Nat.lt_of_lt_of_le hw0 hbr.size
      have hbn : m = (tailL N).length := by rw [tailL_len, H_em.out, H_hz.out]
      have hrm : rn + m ≤ 140737488355327 := by have := H_hrN.out; omega
      have zIr := hIr.lt
      have HL := hid hle
      have HN := hid hbn
      clear bk hI1 hle hbn hr hK hw0 zB
      go_wp2_with fail
      with_reducible refine (feed_any v rs (tailL N) N ra av rn rc m cv _ H_hv.out H_hrn.out HN.out kr ot.cellsAt hr8 (tailL_bytes N) kK hwr hrm (by omega) (by omega)).mono ?_
      rintro e w6 ⟨u, a2, m2, c2, rfl, hu, hm2, o7, hc6⟩
      have hb6 : Below w.heap.size w w6 := bchain hbr hc6
      have hI6 : Blk w6 (w.heap.size + 1) 138 ((wr32 u.list 0).map (Value.int .u8)) := hIr.later hc6
      have huk := mill_ok H_hv.out _ hu
      have HU := hid hu
      have HUK := hid huk
      clear hu hm2 o7 hc6 hbr kr kK hwr hIr hbw ot huk hb1 M_0 M_1 M_2 M_3 M_4 M_5 M_6 M_7 M_8 M_9 M_l zIr hrm
      have hfl := fld8 (.int .u32 u.a) (.int .u32 u.b) (.int .u32 u.c) (.int .u32 u.d) (.int .u32 u.e) (.int .u32 u.f) (.int .u32 u.g) (.int .u32 u.z) (.slice a2 m2 c2) (.int .i64 ((N : Int) + (m : Int)))
      go_wp2_with fail
      clear hfl
      go_loopw [34] (fun q wr => ∃ (i : Nat), i ≤ 8 ∧ q = .int .i64 i ∧ Below w.heap.size w wr ∧ Blk wr (w.heap.size + 1) 138 ((wr32 u.list (4 * i)).map (Value.int .u8))) (fun q _ => 8 - (intOf q).toNat)
      case atStart => exact ⟨0, by omega, rfl, hb6, hI6⟩
      case round =>
        clear hb6 hI6
        obtain ⟨i, hi, rfl, hbw, hO⟩ := hrel
        by_cases hlt : i < 8
        · have hlt' : (i : Int) < 8 := by omega
          obtain ⟨j, hj⟩ : ∃ j : Nat, j = 4 * i := ⟨_, rfl⟩
          have ej : 4 * (i : Int) = (j : Int) := by omega
          have hj28 : (j : Int) ≤ 28 := by omega
          rw [← hj] at hO
          have hj28' : j ≤ 28 := by omega
          have c0 := hO.cellI (j := j) (by rw [wr32_len]; omega)
          have c1 := hO.cellI (j := j + 1) (by rw [wr32_len]; omega)
          have c2 := hO.cellI (j := j + 2) (by rw [wr32_len]; omega)
          have c3 := hO.cellI (j := j + 3) (by rw [wr32_len]; omega)
          have f0 := hO.free j
          have f1 := hO.free (j + 1)
          have f2 := hO.free (j + 2)
          have f3 := hO.free (j + 3)
          have hix := fun w => idx8 u.a u.b u.c u.d u.e u.f u.g u.z i hlt w
          have hx8 := HUK.out.list.at i
          obtain ⟨x, hx⟩ : ∃ x, x = [u.a, u.b, u.c, u.d, u.e, u.f, u.g, u.z][i]?.getD 0 := ⟨_, rfl⟩
          rw [show u.list = [u.a, u.b, u.c, u.d, u.e, u.f, u.g, u.z] from rfl, ← hx] at hx8
          simp only [← hx] at hix
          obtain ⟨hxa, hxb⟩ := hx8
          have H_hj := hid hj
          have H_hx := hid hx
          clear hj hx
          go_wp2_with fail
          go_roundw
          case rel =>
            have h2 := wr32_4 u.list i j H_hj.out
            rw [show u.list = [u.a, u.b, u.c, u.d, u.e, u.f, u.g, u.z] from rfl, ← H_hx.out, show x / 16777216 % 256 = x / 16777216 by omega] at h2
            refine ⟨i + 1, by omega, by go_num, ?_, ?_⟩
            · repeat' (first | with_reducible exact hbw | with_reducible refine Below.drew ?_ | with_reducible refine Below.setCell ?_ (by first | (simp; done) | (simp; omega) | omega) _)
            · rw [show u.list = [u.a, u.b, u.c, u.d, u.e, u.f, u.g, u.z] from rfl, h2]
              exact ((((hO.setI j _).setI (j + 1) _).setI (j + 2) _).setI (j + 3) _)
          case measure => simp [intOf]; omega
        · have hge : (8 : Int) ≤ (i : Int) := by omega
          have hi8 : i = 8 := by omega
          rw [hi8] at hO
          obtain ⟨vs, hvs⟩ : ∃ vs, vs = (wr32 u.list 32).map (Value.int .u8) := ⟨_, rfl⟩
          have hvl : vs.length = 32 := by rw [hvs, List.length_map, wr32_len]
          have ho : ∀ x ∈ vs, x.oneCell' = true := by rw [hvs]; exact oneCell_ints _ _
          have hi2 : (Tryd.prog.info? 138).map (·.size) = some vs.length := by rw [hvl]; exact info32
          rw [show 4 * 8 = 32 from rfl, ← hvs] at hO
          have hlr := hid (rfl : vs.length = vs.length)
          have H_hi8 := hid hi8
          have H_hvs := hid hvs
          have H_hvl := hid hvl
          have H_ho := hid ho
          have H_hi2 := hid hi2
          clear hi8 hvs hvl ho hi2
          go_wp2_with (first | (refine wpList_load_blk rfl 138 _ rfl (w.heap.size + 1) (by rfl) 138 vs _ hO Tryd.underlying138 rfl H_hi2.out ?_) | (refine wpList_store_blk rfl 138 _ _ rfl (w.heap.size + 1) (by rfl) 138 vs vs (by rfl) hO hlr.out H_hi2.out H_ho.out ?_; intro w7 hB7 he7; have H7 := hid he7; clear he7))
          go_wp2_with fail
          have hb7 : Below w.heap.size w w7 := H7.out ▸ below_setCells (Nat.le_succ _) _ _ _ hbw
          refine bodyPost_ret (results_blk (by rfl) _ _ (w.heap.size + 1) 138 _ _ rfl hB7 Tryd.underlying138 rfl H_hi2.out) rfl ⟨?_, hb7⟩
          rw [H_hvs.out, HU.out]; rfl

end Go.Proofs.YthdldmkeoglflaaDoor

/- The exported End, of the program and of the reference. -/
namespace Go.Proofs.YthdldmkeoglflaaDoor
set_option maxRecDepth 100000
set_option linter.unusedSimpArgs false
set_option linter.unusedVariables false
set_option linter.unnecessarySimpa false
open Go.RowKit

section
variable {P : Program}
theorem results_blk2 {fn : Func} {p q : Tmp} {ty : TypeId} (h : fn.results = #[.cell p ty, .tmp q]) (tmps : Array Value) (w : World) (B : Nat) (t : TypeId) (cs : List Value) (d : TypeDesc) (u : Value)
    (hp : tmps.getD p undef = .pointer (some ⟨B, 0, none⟩)) (hq : tmps.getD q undef = u) (hg : Blk w B t cs)
    (hu : P.underlying ty = some d) (hd : (match d with | .struct _ | .array _ _ => true | _ => false) = true) (hi : (P.info? ty).map (·.size) = some cs.length) :
    (results fn tmps).run P w = .ok (.tuple #[.agg cs.toArray, u]) w := by
  have hp' : tmps[p]?.getD undef = .pointer (some ⟨B, 0, none⟩) := by simpa using hp
  have hq' : tmps[q]?.getD undef = u := by simpa using hq
  simp [results, h, hp', hq', asAddr, run_loadVar_row w B t ty cs.toArray (0, 0) d hg hu hd (by simpa using hi)]
end
/-- What End returns: the id, the error. -/
def endM (hs rs : List Int) (N : Int) : List Int × Int := if vdB N rs.length = false then (List.replicate 32 0, 8) else (endL hs rs N.toNat, 0)
/-- Such a result. -/
def idE (r : List Int × Int) : Ending := .returned (.tuple #[.agg (r.1.map (Value.int .u8)).toArray, .int .i64 r.2])

theorem idE_mk (l : List Int) (er : Int) : idE (l, er) = .returned (.tuple #[.agg (l.map (Value.int .u8)).toArray, .int .i64 er]) := rfl

theorem info32r : (Tryd.prog.info? 138).map (·.size) = some (List.replicate 32 (Value.int .u8 0)).length := by kernel_rfl
theorem oneCell_zeros : ∀ v ∈ List.replicate 32 (Value.int .u8 0), v.oneCell' = true := fun v hv => by rw [(List.mem_replicate.1 hv).2]; rfl

end Go.Proofs.YthdldmkeoglflaaDoor
