/- CfgTxtF: CfgShelfP, CfgFields, CfgFieldW. -/
import Derived.Shelf.Strings.Split
import Derived.Shelf.Pu.ParseUintPublic10
import Derived.Test.YthdldmkeoglflaaDoorProg
import Derived.Test.YthdldmkeoglflaaDoorCfgTxtP
import Derived.ScopeJumps
import Derived.WalkMore
/- Contracts of the library's functions at this program: printed by the kit's tools, these declarations taken by wip/tools/shelf44.py. -/
namespace Go.Proofs.YthdldmkeoglflaaDoor
open Go.Shelf Go.RowKit

def sp_laysPu14_ren : Go.Shelf.Ren := ⟨fun | 14 => 72 | 16 => 93 | 17 => 94 | 19 => 108 | 20 => 109 | 21 => 110 | 22 => 111 | 23 => 112 | 24 => 113 | 25 => 127 | 27 => 33 | 26 => 128 | 28 => 66 | 29 => 86 | 30 => 87 | 31 => 88 | 32 => 89 | 33 => 90 | 35 => 101 | 34 => 100 | 36 => 102 | 37 => 103 | 38 => 104 | 39 => 121 | 40 => 122 | n => n, fun | 9 => 9 | 3 => 3 | 22 => 81 | 24 => 76 | 25 => 112 | 4 => 4 | 34 => 149 | 5 => 5 | 36 => 136 | 37 => 43 | 0 => 0 | 39 => 151 | 21 => 21 | 44 => 169 | 47 => 110 | 50 => 179 | 48 => 177 | 2 => 2 | 52 => 128 | 55 => 131 | 59 => 144 | 60 => 24 | 20 => 20 | 61 => 145 | 65 => 137 | 66 => 176 | 67 => 82 | n => n, fun | 0 => 2 | 1 => 3 | 2 => 0 | 3 => 4 | 4 => 5 | n => n⟩
theorem sp_laysPu14 : Go.Proofs.LaysPu.n14 Tryd.prog sp_laysPu14_ren := {
  mixed := by kernel_rfl
  f14 := Tryd.func72.trans (congrArg some (by kernel_rfl))
  f16 := Tryd.func93.trans (congrArg some (by kernel_rfl))
  f17 := Tryd.func94.trans (congrArg some (by kernel_rfl))
  f19 := Tryd.func108.trans (congrArg some (by kernel_rfl))
  f20 := Tryd.func109.trans (congrArg some (by kernel_rfl))
  f21 := Tryd.func110.trans (congrArg some (by kernel_rfl))
  f22 := Tryd.func111.trans (congrArg some (by kernel_rfl))
  f23 := Tryd.func112.trans (congrArg some (by kernel_rfl))
  f24 := Tryd.func113.trans (congrArg some (by kernel_rfl))
  f25 := Tryd.func127.trans (congrArg some (by kernel_rfl))
  f26 := Tryd.func128.trans (congrArg some (by kernel_rfl))
  f27 := Tryd.func33.trans (congrArg some (by kernel_rfl))
  f28 := Tryd.func66.trans (congrArg some (by kernel_rfl))
  f29 := Tryd.func86.trans (congrArg some (by kernel_rfl))
  f30 := Tryd.func87.trans (congrArg some (by kernel_rfl))
  f31 := Tryd.func88.trans (congrArg some (by kernel_rfl))
  f32 := Tryd.func89.trans (congrArg some (by kernel_rfl))
  f33 := Tryd.func90.trans (congrArg some (by kernel_rfl))
  f34 := Tryd.func100.trans (congrArg some (by kernel_rfl))
  f35 := Tryd.func101.trans (congrArg some (by kernel_rfl))
  f36 := Tryd.func102.trans (congrArg some (by kernel_rfl))
  f37 := Tryd.func103.trans (congrArg some (by kernel_rfl))
  f38 := Tryd.func104.trans (congrArg some (by kernel_rfl))
  f39 := Tryd.func121.trans (congrArg some (by kernel_rfl))
  f40 := Tryd.func122.trans (congrArg some (by kernel_rfl))
  t0 := Tryd.underlying0
  a0 := Tryd.isAgg0
  z0 := Tryd.sizeOf0
  v0 := Tryd.zeroValue0
  i0 := by kernel_rfl
  t2 := Tryd.underlying2
  a2 := Tryd.isAgg2
  z2 := Tryd.sizeOf2
  v2 := Tryd.zeroValue2
  i2 := by kernel_rfl
  t3 := Tryd.underlying3
  a3 := Tryd.isAgg3
  z3 := Tryd.sizeOf3
  v3 := Tryd.zeroValue3
  i3 := by kernel_rfl
  t4 := Tryd.underlying4
  a4 := Tryd.isAgg4
  z4 := Tryd.sizeOf4
  v4 := Tryd.zeroValue4
  i4 := by kernel_rfl
  t5 := Tryd.underlying5
  a5 := Tryd.isAgg5
  z5 := Tryd.sizeOf5
  v5 := Tryd.zeroValue5
  i5 := by kernel_rfl
  t9 := Tryd.underlying9
  a9 := Tryd.isAgg9
  z9 := Tryd.sizeOf9
  v9 := Tryd.zeroValue9
  i9 := by kernel_rfl
  t20 := Tryd.underlying20
  a20 := Tryd.isAgg20
  z20 := Tryd.sizeOf20
  v20 := Tryd.zeroValue20
  i20 := by kernel_rfl
  t21 := Tryd.underlying21
  a21 := Tryd.isAgg21
  z21 := Tryd.sizeOf21
  v21 := Tryd.zeroValue21
  i21 := by kernel_rfl
  t22 := Tryd.underlying81
  a22 := Tryd.isAgg81
  z22 := Tryd.sizeOf81
  v22 := Tryd.zeroValue81
  i22 := by kernel_rfl
  t24 := Tryd.underlying76
  a24 := Tryd.isAgg76
  z24 := Tryd.sizeOf76
  v24 := Tryd.zeroValue76
  i24 := by kernel_rfl
  t25 := Tryd.underlying112
  a25 := Tryd.isAgg112
  z25 := Tryd.sizeOf112
  v25 := Tryd.zeroValue112
  i25 := by kernel_rfl
  t34 := Tryd.underlying149
  a34 := Tryd.isAgg149
  z34 := Tryd.sizeOf149
  v34 := Tryd.zeroValue149
  i34 := by kernel_rfl
  c34 := by kernel_rfl
  t36 := Tryd.underlying136
  a36 := Tryd.isAgg136
  z36 := Tryd.sizeOf136
  v36 := Tryd.zeroValue136
  i36 := by kernel_rfl
  t37 := Tryd.underlying43
  a37 := Tryd.isAgg43
  z37 := Tryd.sizeOf43
  v37 := Tryd.zeroValue43
  i37 := by kernel_rfl
  t39 := Tryd.underlying151
  a39 := Tryd.isAgg151
  z39 := Tryd.sizeOf151
  v39 := Tryd.zeroValue151
  i39 := by kernel_rfl
  t44 := Tryd.underlying169
  a44 := Tryd.isAgg169
  z44 := Tryd.sizeOf169
  v44 := Tryd.zeroValue169
  i44 := by kernel_rfl
  t47 := Tryd.underlying110
  a47 := Tryd.isAgg110
  z47 := Tryd.sizeOf110
  v47 := Tryd.zeroValue110
  i47 := by kernel_rfl
  t48 := Tryd.underlying177
  a48 := Tryd.isAgg177
  z48 := Tryd.sizeOf177
  v48 := Tryd.zeroValue177
  i48 := by kernel_rfl
  t50 := Tryd.underlying179
  a50 := Tryd.isAgg179
  z50 := Tryd.sizeOf179
  v50 := Tryd.zeroValue179
  i50 := by kernel_rfl
  t52 := Tryd.underlying128
  a52 := Tryd.isAgg128
  z52 := Tryd.sizeOf128
  v52 := Tryd.zeroValue128
  i52 := by kernel_rfl
  t55 := Tryd.underlying131
  a55 := Tryd.isAgg131
  z55 := Tryd.sizeOf131
  v55 := Tryd.zeroValue131
  i55 := by kernel_rfl
  t59 := Tryd.underlying144
  a59 := Tryd.isAgg144
  z59 := Tryd.sizeOf144
  v59 := Tryd.zeroValue144
  i59 := by kernel_rfl
  t60 := Tryd.underlying24
  a60 := Tryd.isAgg24
  z60 := Tryd.sizeOf24
  v60 := Tryd.zeroValue24
  i60 := by kernel_rfl
  t61 := Tryd.underlying145
  a61 := Tryd.isAgg145
  z61 := Tryd.sizeOf145
  t65 := Tryd.underlying137
  a65 := Tryd.isAgg137
  z65 := Tryd.sizeOf137
  v65 := Tryd.zeroValue137
  i65 := by kernel_rfl
  t66 := Tryd.underlying176
  a66 := Tryd.isAgg176
  z66 := Tryd.sizeOf176
  v66 := Tryd.zeroValue176
  i66 := by kernel_rfl
  t67 := Tryd.underlying82
  a67 := Tryd.isAgg82
  z67 := Tryd.sizeOf82
  v67 := Tryd.zeroValue82
  i67 := by kernel_rfl
  g0 := by kernel_rfl
  m0 := by kernel_rfl
  g1 := by kernel_rfl
  m1 := by kernel_rfl
  g2 := by kernel_rfl
  m2 := by kernel_rfl
  g3 := by kernel_rfl
  m3 := by kernel_rfl
  g4 := by kernel_rfl
  m4 := by kernel_rfl }
open Go.RowKit in
theorem sp_strconv_ParseUint_10_at32_ok (s : ByteArray) (hmax : s.size ≤ 9223372036854775806) (u : Nat) (h : Lib.parseUintB 32 s.data.toList = .ok u) (w : World) :
    Calls Tryd.prog 72 #[.string s, .int .i64 10, .int .i64 32] w fun e w' => e = .returned (.tuple #[.int .u64 u, .nilIface]) ∧ (w' = w ∨ w' = Lib.bytesWorld w 5 s) := Any.strconv_ParseUint_10_at32_ok sp_laysPu14 s hmax u h w
open Go.RowKit in
theorem sp_strconv_ParseUint_10_at32_range (s : ByteArray) (hlim : s.size ≤ 281474976710656) (h : Lib.parseUintB 32 s.data.toList = .range) (ev : Value) (w : World) (hv : w.cell? ⟨3, 0, none⟩ = some ev) (hev : ev = .nilIface ∨ ∃ te pe, ev = .iface te pe) :
    Calls Tryd.prog 72 #[.string s, .int .i64 10, .int .i64 32] w fun e w' => ∃ N, e = .returned (.tuple #[.int .u64 4294967295, .iface 151 (.pointer (some ⟨N, 0, none⟩))]) ∧ w.heap.size ≤ N ∧ w'.heap[N]? = some (.cells #[.string ⟨#[80, 97, 114, 115, 101, 85, 105, 110, 116]⟩, .string s, ev] 169 (0, 0)) ∧ Below w.heap.size w w' := Any.strconv_ParseUint_10_at32_range sp_laysPu14 s hlim h ev w hv hev
def sp_lays146_ren : Go.Shelf.Ren := ⟨fun | 146 => 71 | 221 => 92 | 268 => 105 | 138 => 106 | 143 => 107 | 195 => 123 | 197 => 124 | 218 => 125 | 219 => 126 | 260 => 133 | 217 => 134 | 225 => 135 | 224 => 136 | 267 => 137 | 266 => 141 | 314 => 142 | n => n, fun | 9 => 9 | 31 => 38 | 3 => 3 | 4 => 4 | 0 => 0 | 105 => 164 | 21 => 21 | 5 => 5 | 46 => 136 | 119 => 184 | 139 => 187 | 138 => 186 | 146 => 188 | 51 => 24 | n => n, fun | 1 => 1 | 3 => 7 | 4 => 8 | n => n⟩
theorem sp_lays146 : Go.Proofs.Lays.n146 Tryd.prog sp_lays146_ren := {
  mixed := by kernel_rfl
  f138 := Tryd.func106.trans (congrArg some (by kernel_rfl))
  f143 := Tryd.func107.trans (congrArg some (by kernel_rfl))
  f146 := Tryd.func71.trans (congrArg some (by kernel_rfl))
  f195 := Tryd.func123.trans (congrArg some (by kernel_rfl))
  f197 := Tryd.func124.trans (congrArg some (by kernel_rfl))
  f217 := Tryd.func134.trans (congrArg some (by kernel_rfl))
  f218 := Tryd.func125.trans (congrArg some (by kernel_rfl))
  f219 := Tryd.func126.trans (congrArg some (by kernel_rfl))
  f221 := Tryd.func92.trans (congrArg some (by kernel_rfl))
  f224 := Tryd.func136.trans (congrArg some (by kernel_rfl))
  f225 := Tryd.func135.trans (congrArg some (by kernel_rfl))
  f260 := Tryd.func133.trans (congrArg some (by kernel_rfl))
  f266 := Tryd.func141.trans (congrArg some (by kernel_rfl))
  f267 := Tryd.func137.trans (congrArg some (by kernel_rfl))
  f268 := Tryd.func105.trans (congrArg some (by kernel_rfl))
  f314 := Tryd.func142.trans (congrArg some (by kernel_rfl))
  t0 := Tryd.underlying0
  a0 := Tryd.isAgg0
  z0 := Tryd.sizeOf0
  v0 := Tryd.zeroValue0
  t3 := Tryd.underlying3
  a3 := Tryd.isAgg3
  z3 := Tryd.sizeOf3
  v3 := Tryd.zeroValue3
  t4 := Tryd.underlying4
  a4 := Tryd.isAgg4
  z4 := Tryd.sizeOf4
  v4 := Tryd.zeroValue4
  t5 := Tryd.underlying5
  a5 := Tryd.isAgg5
  z5 := Tryd.sizeOf5
  v5 := Tryd.zeroValue5
  t9 := Tryd.underlying9
  a9 := Tryd.isAgg9
  z9 := Tryd.sizeOf9
  v9 := Tryd.zeroValue9
  t21 := Tryd.underlying21
  a21 := Tryd.isAgg21
  z21 := Tryd.sizeOf21
  v21 := Tryd.zeroValue21
  t31 := Tryd.underlying38
  a31 := Tryd.isAgg38
  z31 := Tryd.sizeOf38
  v31 := Tryd.zeroValue38
  t46 := Tryd.underlying136
  a46 := Tryd.isAgg136
  z46 := Tryd.sizeOf136
  v46 := Tryd.zeroValue136
  t51 := Tryd.underlying24
  a51 := Tryd.isAgg24
  z51 := Tryd.sizeOf24
  v51 := Tryd.zeroValue24
  t105 := Tryd.underlying164
  a105 := Tryd.isAgg164
  z105 := Tryd.sizeOf164
  v105 := Tryd.zeroValue164
  t119 := Tryd.underlying184
  a119 := Tryd.isAgg184
  z119 := Tryd.sizeOf184
  t138 := Tryd.underlying186
  a138 := Tryd.isAgg186
  z138 := Tryd.sizeOf186
  v138 := Tryd.zeroValue186
  t139 := Tryd.underlying187
  a139 := Tryd.isAgg187
  z139 := Tryd.sizeOf187
  v139 := Tryd.zeroValue187
  t146 := Tryd.underlying188
  a146 := Tryd.isAgg188
  z146 := Tryd.sizeOf188
  v146 := Tryd.zeroValue188
  g1 := by kernel_rfl
  g3 := by kernel_rfl
  g4 := by kernel_rfl }
open Go.RowKit Go.Lib in
theorem sp_strings_Split (s sep : ByteArray) (m : Int) (w : World) (hs : s.size < 4294967281) (hm : w.cell? ⟨1, 0, none⟩ = some (.int .i64 m)) (h1 : 1 ≤ sep.size) :
    Calls Tryd.prog 71 #[.string s, .string sep] w fun e w' =>
      e = .returned (.slice (some ⟨w.heap.size, 0, none⟩) (Lib.countB s sep + 1) (Lib.countB s sep + 1)) ∧ w' = w.alloc (.cells ((Lib.splitB sep 0 (Lib.countB s sep) s).map Value.string).toArray 9) := Any.strings_Split sp_lays146 (by kernel_rfl) s sep m w hs hm h1

end Go.Proofs.YthdldmkeoglflaaDoor

/- config.number, limits, fields. -/
namespace Go.Proofs.YthdldmkeoglflaaDoor
set_option linter.unusedSimpArgs false
set_option linter.unusedVariables false
set_option linter.unnecessarySimpa false
open Go.RowKit

/-- An error's value. -/
def ErrV (v : Value) : Prop := v = .nilIface ∨ ∃ t p, v = .iface t p
/-- What the library's two errors are held in. -/
structure ErrIn (w : World) : Prop where
  syn : ∃ v, w.cell? ⟨2, 0, none⟩ = some v ∧ ErrV v
  rng : ∃ v, w.cell? ⟨3, 0, none⟩ = some v ∧ ErrV v
  max : ∃ m : Int, w.cell? ⟨1, 0, none⟩ = some (.int .i64 m)
theorem ErrIn.later {w w' : World} (h : ErrIn w) (hb : Below w.heap.size w w') : ErrIn w' := by
  obtain ⟨v, h1, h2⟩ := h.syn
  obtain ⟨u, h3, h4⟩ := h.rng
  obtain ⟨m, h5⟩ := h.max
  exact ⟨⟨v, cell_later hb h1, h2⟩, ⟨u, cell_later hb h3, h4⟩, ⟨m, cell_later hb h5⟩⟩
theorem ErrIn.alloc {w : World} (h : ErrIn w) (o : Obj) : ErrIn (w.alloc o) := h.later ((Below.refl _ _).alloc (Nat.le_refl _) _)
theorem bw_below {w w' : World} {t : TypeId} {s : ByteArray} (h : w' = w ∨ w' = Lib.bytesWorld w t s) : Below w.heap.size w w' := by
  rcases h with rfl | rfl
  · exact Below.refl _ _
  · exact Lib.bytesWorld_below _ _ _
/-- strconv.ParseUint at base 10 and 32 bits: the number, and whether it is one. -/
theorem parseU_any (b : ByteArray) (w : World) (hb : b.size ≤ 100000) (hE : ErrIn w) :
    Calls Tryd.prog 72 #[.string b, .int .i64 10, .int .i64 32] w fun e w' =>
      (∃ (x : Int) (ev : Value), e = .returned (.tuple #[.int .u64 x, ev]) ∧ ((ev = .nilIface ∧ x = numW b.data.toList) ∨ (∃ t p, ev = .iface t p) ∧ numW b.data.toList = 0)) ∧ Below w.heap.size w w' := by
  have hn : numW b.data.toList = match Lib.parseUintB 32 b.data.toList with | .ok u => u | _ => 0 := rfl
  rcases hp : Lib.parseUintB 32 b.data.toList with u | _ | _
  · rw [hp] at hn
    refine (sp_strconv_ParseUint_10_at32_ok b (by omega) u hp w).mono fun e w' h => ⟨⟨_, _, h.1, .inl ⟨rfl, by rw [hn]⟩⟩, bw_below h.2⟩
  · rw [hp] at hn
    obtain ⟨v, h1, h2⟩ := hE.syn
    refine (Any.strconv_ParseUint_10_at32_syntax sp_laysPu14 b (by omega) hp v w h1 h2).mono fun e w' h => ?_
    obtain ⟨N, rfl, _, _, h4⟩ := h
    exact ⟨⟨_, _, rfl, .inr ⟨⟨_, _, rfl⟩, hn⟩⟩, h4⟩
  · rw [hp] at hn
    obtain ⟨v, h1, h2⟩ := hE.rng
    refine (sp_strconv_ParseUint_10_at32_range b (by omega) hp v w h1 h2).mono fun e w' h => ?_
    obtain ⟨N, rfl, _, _, h4⟩ := h
    exact ⟨⟨_, _, rfl, .inr ⟨⟨_, _, rfl⟩, hn⟩⟩, h4⟩
set_option maxHeartbeats 1000000 in
theorem number_any (b : ByteArray) (w : World) (hb : b.size ≤ 100000) (hE : ErrIn w) :
    Calls Tryd.prog 45 #[.string b] w fun e w' =>
      e = .returned (.int .u32 (numW b.data.toList)) ∧ Below w.heap.size w w' := by
  have hcall := parseU_any b w hb hE
  have hlt := numW_lt b.data.toList
  obtain ⟨N, hN⟩ : ∃ N, numW b.data.toList = N := ⟨_, rfl⟩
  rw [hN] at hlt
  simp only [hN] at hcall
  rw [hN]
  have hwr : IntKind.u32.wrap (N : Int) = N := by rw [IntKind.wrap_u32]; omega
  have H_hN := Box.mk hN
  clear hN
  go_enter Tryd.func45, Tryd.ntmps45
  have hb0 := Below.refl w.heap.size w
  go_wp2_with fail
  with_reducible refine (hcall).mono ?_
  rintro e w1 ⟨⟨x, ev, rfl, hx⟩, hc1⟩
  have hb1 : Below w.heap.size w w1 := bchain (by repeat' (first | with_reducible exact hb0 | with_reducible refine Below.drew ?_ | with_reducible refine below_drewN ?_ _ | with_reducible refine Below.alloc ?_ (by have := hb0.size; first | (simp; done) | (simp; omega) | omega) _ | with_reducible refine Below.setCell ?_ (by first | (simp; done) | (simp; omega) | omega) _)) hc1
  clear hc1 hb0
  rcases hx with ⟨rfl, rfl⟩ | ⟨⟨t, p, rfl⟩, rfl⟩
  · go_wp2_with fail
    go_ret
    exact ⟨rfl, (by repeat' (first | with_reducible exact hb1 | with_reducible refine Below.drew ?_ | with_reducible refine below_drewN ?_ _ | with_reducible refine Below.alloc ?_ (by have := hb1.size; first | (simp; done) | (simp; omega) | omega) _ | with_reducible refine Below.setCell ?_ (by first | (simp; done) | (simp; omega) | omega) _))⟩
  · go_wp2_with fail
    go_ret
    exact ⟨rfl, (by repeat' (first | with_reducible exact hb1 | with_reducible refine Below.drew ?_ | with_reducible refine below_drewN ?_ _ | with_reducible refine Below.alloc ?_ (by have := hb1.size; first | (simp; done) | (simp; omega) | omega) _ | with_reducible refine Below.setCell ?_ (by first | (simp; done) | (simp; omega) | omega) _))⟩
set_option maxHeartbeats 1000000 in
theorem limits_any (l0 l1 l2 l3 l4 l5 l6 l7 l8 : Int) (w : World) :
    Calls Tryd.prog 46 #[.agg #[.int .i64 l0, .int .i64 l1, .int .i64 l2, .int .i64 l3, .int .i64 l4, .int .i64 l5, .int .i64 l6, .int .i64 l7, .int .i64 l8]] w fun e w' =>
      e = .returned (.agg #[.int .i64 l0, .int .i64 l1, .int .i64 l2, .int .i64 l3, .int .i64 l4, .int .i64 l5, .int .i64 l6, .int .i64 l7, .int .i64 l8]) ∧ Below w.heap.size w w' := by
  go_enter Tryd.func46, Tryd.ntmps46
  have hb0 := Below.refl w.heap.size w
  go_wp2_with fail
  refine bodyPost_ret (v := .agg #[.int .i64 l0, .int .i64 l1, .int .i64 l2, .int .i64 l3, .int .i64 l4, .int .i64 l5, .int .i64 l6, .int .i64 l7, .int .i64 l8]) (by simp [results, Tryd.results46, go_sem, *]) rfl ⟨rfl, (by repeat' (first | with_reducible exact hb0 | with_reducible refine Below.drew ?_ | with_reducible refine below_drewN ?_ _ | with_reducible refine Below.alloc ?_ (by have := hb0.size; first | (simp; done) | (simp; omega) | omega) _ | with_reducible refine Below.setCell ?_ (by first | (simp; done) | (simp; omega) | omega) _))⟩
theorem split_any (b : ByteArray) (w : World) (hb : b.size ≤ 100000) (hE : ErrIn w) :
    Calls Tryd.prog 71 #[.string b, .string ⟨#[32]⟩] w fun e w' =>
      e = .returned (.slice (some ⟨w.heap.size, 0, none⟩) (splitS 32 b).length (splitS 32 b).length) ∧ Below w.heap.size w w' ∧ Blk w' w.heap.size 9 ((splitS 32 b).map Value.string) := by
  obtain ⟨m, hm⟩ := hE.max
  have hl := Lib.splitB_all ⟨#[32]⟩ (by decide) 0 _ b rfl
  rw [splitB_cut] at hl
  have h := sp_strings_Split b ⟨#[32]⟩ m w (by omega) hm (by decide)
  rw [splitB_cut, ← hl] at h
  refine h.mono fun e w' h => ?_
  obtain ⟨h1, rfl⟩ := h
  exact ⟨h1, (Below.refl _ _).alloc (Nat.le_refl _) _, Blk.new _ _ _ _ rfl⟩
end Go.Proofs.YthdldmkeoglflaaDoor

/- config.fields. -/
namespace Go.Proofs.YthdldmkeoglflaaDoor
set_option linter.unusedSimpArgs false
set_option linter.unusedVariables false
set_option linter.unnecessarySimpa false
open Go.RowKit

theorem wp_scope_label {P : Program} {a : Act} {w : World} {Q : Exit → Act → World → Prop} {c rest : Code} (l : Nat) (J : Act → World → Prop) (μ : Act → World → Nat) (hf : findLabel c l = some rest)
    (pass : ∀ a w, J a w → rest.wp P (Exit.jump l (fun a' w' => J a' w' ∧ μ a' w' < μ a w) Q) a w)
    (first : (∀ a w, J a w → rest.wp P (Exit.jump l J Q) a w) → c.wp P (Exit.jump l J Q) a w) : (Code.scope c).wp P Q a w :=
  wp_scope_jumps l J μ hf (first fun a w h => wp_mono (pass a w h) fun e a w h => by cases e <;> first | exact h | exact ⟨h.1, h.2.1⟩) pass
theorem info_strs : (Tryd.prog.info? 38).map (fun i => (i.zero, i.size, i.bytes)) = some (some (.slice none 0 0), 1, 24) := by kernel_rfl
theorem ext_bs (s : ByteArray) (f k : Nat) : s.extract f k = bsB ((s.data.toList.drop f).take (k - f)) := Lib.extract_eq s f k
theorem at_list (s : ByteArray) (k : Nat) (h : k < s.size) (h2 : k < s.data.toList.length) : s[k]'h = s.data.toList[k] := by
  cases s; simp [ByteArray.getElem_eq_getElem_data] <;> rfl
set_option maxRecDepth 100000 in
set_option maxHeartbeats 4000000 in
theorem fields_any (s : ByteArray) (w : World) (hs : s.size ≤ 100000) (hE : ErrIn w) :
    Calls Tryd.prog 44 #[.string s] w fun e w' =>
      (∃ a c vs, e = .returned (.slice a (rowsL s.data.toList).length c) ∧ OwnX w' w.heap.size 38 1 (.slice a (rowsL s.data.toList).length c) (rowsL s.data.toList).length vs ∧ RowsB w' w.heap.size vs (rowsL s.data.toList)) ∧ Below w.heap.size w w' := by
  obtain ⟨i0, hi, hz0, hz1, hz2⟩ := info_parts info_strs
  obtain ⟨l, hl⟩ : ∃ l, s.data.toList = l := ⟨_, rfl⟩
  have hlen : l.length = s.size := by rw [← hl]; exact Array.length_toList
  obtain ⟨R, hR⟩ : ∃ R, rowsL l = R := ⟨_, rfl⟩
  have hRl : R.length ≤ s.size := by rw [← hR, ← hlen]; exact rowsL_len l
  have hr0 : remL l 0 0 = R := by rw [← hR]; exact remL_start l
  rw [hl, hR]
  have H_hl := Box.mk hl
  have H_hR := Box.mk hR
  have H_hE := Box.mk hE
  have H_hlen := Box.mk hlen
  clear hl hR hE hlen
  go_enter Tryd.func44, Tryd.ntmps44
  have hb0 := Below.refl w.heap.size w
  go_wp2_with fail
  refine wp_scope_label 0 (fun a' w' => ∃ (f k : Nat) (oa : Option Addr) (n oc : Nat) (vs : List Value) (done : List (List ByteArray)) (u1 u2 u6 u7 u8 u9 u10 u11 u12 u13 u14 u15 u16 u17 u18 u19 u20 u21 u22 u23 u24 u25 u26 u27 : Value),
    a' = { tmps := #[.string s, u1, u2, .slice oa n oc, .int .i64 f, .int .i64 k, u6, u7, u8, u9, u10, u11, u12, u13, u14, u15, u16, u17, u18, u19, u20, u21, u22, u23, u24, u25, u26, u27], defers := [] } ∧
    f ≤ k ∧ k ≤ s.size ∧ n = done.length ∧ Hid (done ++ remL l f k = R) ∧ Below w.heap.size w w' ∧ OwnX w' w.heap.size 38 1 (.slice oa n oc) n vs ∧ RowsB w' w.heap.size vs done) (fun a' _ => s.size - (intOf (a'.tmps.getD 5 undef)).toNat) rfl ?_ ?_
  · rintro a' wr ⟨f, k, oa, n, oc, vs, done, u1, u2, u6, u7, u8, u9, u10, u11, u12, u13, u14, u15, u16, u17, u18, u19, u20, u21, u22, u23, u24, u25, u26, u27, rfl, hfk, hks, hn, hrem, hbw, hown, hrows⟩
    by_cases hk : k = s.size
    · subst hk
      have hdone : done = R := by
        have := hrem.out
        rwa [remL_end H_hlen.out.symm, List.append_nil] at this
      subst hn hdone
      go_wp2_with fail
      try simp only [Exit.jump]
      go_ret
      exact ⟨⟨oa, oc, vs, rfl, hown, hrows⟩, (by repeat' (first | with_reducible exact hbw | with_reducible refine Below.drew ?_ | with_reducible refine below_drewN ?_ _ | with_reducible refine Below.alloc ?_ (by have := hbw.size; first | (simp; done) | (simp; omega) | omega) _ | with_reducible refine Below.setCell ?_ (by first | (simp; done) | (simp; omega) | omega) _))⟩
    · have hlt : k < s.size := by omega
      have hk' : ¬ (k : Int) = (s.size : Int) := by omega
      have hk'' : ((k : Int) == (s.size : Int)) = false := beq_eq_false_iff_ne.2 hk'
      have hkl : k < l.length := by rw [H_hlen.out]; exact hlt
      have hat : s[k]'hlt = l[k] := by
        have := H_hl.out
        subst this
        exact at_list s k hlt hkl
      by_cases h10 : l[k] = 10
      · have hc10 : s[k]'hlt = 10 := by rw [hat, h10]
        have h10' : ((s[k]'hlt).toNat : Int) = 10 := by rw [hc10]; rfl
        have hrem2 : done ++ [splitS 32 (s.extract f k)] ++ remL l (k + 1) (k + 1) = R := by
          rw [← hrem.out, remL_cut hkl h10, ext_bs, H_hl.out, List.append_assoc]; rfl
        have hfk' : (f : Int) ≤ (k : Int) := by omega
        have hks' : (k : Int) ≤ (s.size : Int) := by omega
        have hex : (s.extract f k).size ≤ 100000 := by simp [ByteArray.size_extract]; omega
        obtain ⟨x, hx⟩ : ∃ x, s.extract f k = x := ⟨_, rfl⟩
        rw [hx] at hex hrem2
        have hsp := fun W (g : Below w.heap.size w W) => split_any x W hex (H_hE.out.later g)
        have hrl : (splitS 32 x).length ≤ 100001 := by have := (splitS_len 32 x).2; omega
        have hdl : done.length ≤ 100000 := by
          have := congrArg List.length hrem2
          simp only [List.length_append, List.length_cons, List.length_nil] at this
          omega
        obtain ⟨r, hr⟩ : ∃ r, splitS 32 x = r := ⟨_, rfl⟩
        rw [hr] at hrem2 hrl
        simp only [hr] at hsp
        obtain ⟨rn, hrn⟩ : ∃ rn, r.length = rn := ⟨_, rfl⟩
        simp only [hrn] at hsp
        clear hat
        have hbs := hbw.size
        subst hn
        have H_hsp := Box.mk hsp
        have H_h10 := Box.mk h10
        have H_hc10 := Box.mk hc10
        have H_hr := Box.mk hr
        have H_hrem2 := Box.mk hrem2
        have H_hrn := Box.mk hrn
        clear hsp h10 hc10 hr hrem2 hrn
        go_wp2_with fail
        with_reducible refine (H_hsp.out _ (by repeat' (first | with_reducible exact hbw | with_reducible refine Below.drew ?_ | with_reducible refine below_drewN ?_ _ | with_reducible refine Below.alloc ?_ (by have := hbw.size; first | (simp; done) | (simp; omega) | omega) _ | with_reducible refine Below.setCell ?_ (by first | (simp; done) | (simp; omega) | omega) _))).mono ?_
        rintro e w11 ⟨rfl, hc11, hB⟩
        have hb11 : Below w.heap.size w w11 := bchain (by repeat' (first | with_reducible exact hbw | with_reducible refine Below.drew ?_ | with_reducible refine below_drewN ?_ _ | with_reducible refine Below.alloc ?_ (by have := hbw.size; first | (simp; done) | (simp; omega) | omega) _ | with_reducible refine Below.setCell ?_ (by first | (simp; done) | (simp; omega) | omega) _)) hc11
        have hst11 : Below wr.heap.size wr w11 := bchain (by repeat' (first | with_reducible exact Below.refl _ _ | with_reducible refine Below.drew ?_ | with_reducible refine below_drewN ?_ _ | with_reducible refine Below.alloc ?_ (by first | (simp; done) | (simp; omega) | omega) _ | with_reducible refine Below.setCell ?_ (by first | (simp; done) | (simp; omega) | omega) _)) hc11
        replace hown := hown.later hst11
        replace hrows := hrows.later hst11
        clear hst11
        clear hc11 hbw
        have hBl := hB.lt
        go_wp2_with (at_builtin; refine stop ?_)
        refine Stop.go ?_
        refine wpList_append_x _ rfl _ _ 89 rfl w.heap.size 38 i0 (.slice none 0 0) 1 24 Tryd.underlying89 hi hz0 hz1 hz2 rfl (by decide) (.slice oa done.length oc) done.length vs rfl (hown.alloc _) (some ⟨w11.heap.size, 0, none⟩) 1 1 [.slice (some ⟨wr.heap.size, 0, none⟩) rn rn] rfl rfl (cellsAt_one _ _ _) (by intro u hu; obtain rfl := List.mem_singleton.1 hu; rfl) (by unfold maxLen; omega) (by omega) (by simp; have := hb11.size; omega) ?_
        intro a' c' W1 hown2 hg hown3
        have hrows2 : RowsB W1 w.heap.size (vs ++ [.slice (some ⟨wr.heap.size, 0, none⟩) r.length r.length]) (done ++ [r]) := by
          refine RowsB.push ?_ ?_ hbs
          · exact (hrows.alloc _).kept (hown.alloc _) hg (by decide)
          · exact (hB.alloc _).keptT (hown.alloc _) hg (by decide)
        rw [H_hrn.out] at hrows2
        have hb12 : Below w.heap.size w W1 := below_grownX (by repeat' (first | with_reducible exact hb11 | with_reducible refine Below.drew ?_ | with_reducible refine below_drewN ?_ _ | with_reducible refine Below.alloc ?_ (by have := hb11.size; first | (simp; done) | (simp; omega) | omega) _ | with_reducible refine Below.setCell ?_ (by first | (simp; done) | (simp; omega) | omega) _)) hg (by simp; have := hb11.size; omega) (fun k hk => (hown.lt k hk).1)
        clear hown hrows hB hg hown3
        go_wp2_with fail
        go_step3
        first
          | exact ⟨rfl, ⟨k + 1, k + 1, a', done.length + 1, c', _, done ++ [r], _, _, _, _, _, _, _, _, _, _, _, _, _, _, _, _, _, _, _, _, _, _, _, _, by go_num, by omega, by omega, by simp, hid H_hrem2.out, (by repeat' (first | with_reducible exact hb12 | with_reducible refine Below.drew ?_ | with_reducible refine below_drewN ?_ _ | with_reducible refine Below.alloc ?_ (by have := hb12.size; first | (simp; done) | (simp; omega) | omega) _ | with_reducible refine Below.setCell ?_ (by first | (simp; done) | (simp; omega) | omega) _)), hown2, hrows2⟩, by simp [intOf]; omega⟩
          | exact ⟨rfl, ⟨k + 1, k + 1, a', done.length + 1, c', _, done ++ [r], _, _, _, _, _, _, _, _, _, _, _, _, _, _, _, _, _, _, _, _, _, _, _, _, by go_num, by omega, by omega, by simp, hid H_hrem2.out, (by repeat' (first | with_reducible exact hb12 | with_reducible refine Below.drew ?_ | with_reducible refine below_drewN ?_ _ | with_reducible refine Below.alloc ?_ (by have := hb12.size; first | (simp; done) | (simp; omega) | omega) _ | with_reducible refine Below.setCell ?_ (by first | (simp; done) | (simp; omega) | omega) _)), hown2, hrows2⟩⟩
      · have h10' : ¬ ((s[k]'hlt).toNat : Int) = 10 := fun h => h10 (by
          rw [← hat]
          exact UInt8.toNat_inj.1 (by have : (s[k]'hlt).toNat = 10 := by omega
                                      rw [this]; rfl))
        have h10'' : (((s[k]'hlt).toNat : Int) != 10) = true := bne_iff_ne.2 h10'
        have hrem2 : done ++ remL l f (k + 1) = R := by rw [← remL_on hfk hkl h10]; exact hrem.out
        clear hat hkl h10
        have H_hrem2 := Box.mk hrem2
        clear hrem2
        go_wp2_with fail
        go_step3
        first
          | exact ⟨rfl, ⟨f, k + 1, oa, n, oc, vs, done, _, _, _, _, _, _, _, _, _, _, _, _, _, _, _, _, _, _, _, _, _, _, _, _, by go_num, by omega, by omega, hn, hid H_hrem2.out, (by repeat' (first | with_reducible exact hbw | with_reducible refine Below.drew ?_ | with_reducible refine below_drewN ?_ _ | with_reducible refine Below.alloc ?_ (by have := hbw.size; first | (simp; done) | (simp; omega) | omega) _ | with_reducible refine Below.setCell ?_ (by first | (simp; done) | (simp; omega) | omega) _)), hown, hrows⟩, by simp [intOf]; omega⟩
          | exact ⟨rfl, ⟨f, k + 1, oa, n, oc, vs, done, _, _, _, _, _, _, _, _, _, _, _, _, _, _, _, _, _, _, _, _, _, _, _, _, by go_num, by omega, by omega, hn, hid H_hrem2.out, (by repeat' (first | with_reducible exact hbw | with_reducible refine Below.drew ?_ | with_reducible refine below_drewN ?_ _ | with_reducible refine Below.alloc ?_ (by have := hbw.size; first | (simp; done) | (simp; omega) | omega) _ | with_reducible refine Below.setCell ?_ (by first | (simp; done) | (simp; omega) | omega) _)), hown, hrows⟩⟩
  · intro hpass
    clear hpass
    go_wp2_with fail
    go_step3
    rename_i K hK
    suffices h : ∀ (wr : World) (f k : Nat) (oa : Option Addr) (n oc : Nat) (vs : List Value) (done : List (List ByteArray)) (u1 u2 u6 u7 u8 u9 u10 u11 u12 u13 u14 u15 u16 u17 u18 u19 u20 u21 u22 u23 u24 u25 u26 u27 : Value), f ≤ k → k ≤ s.size → n = done.length → Hid (done ++ remL l f k = R) → Below w.heap.size w wr → OwnX wr w.heap.size 38 1 (.slice oa n oc) n vs → RowsB wr w.heap.size vs done →
      K { tmps := #[.string s, u1, u2, .slice oa n oc, .int .i64 f, .int .i64 k, u6, u7, u8, u9, u10, u11, u12, u13, u14, u15, u16, u17, u18, u19, u20, u21, u22, u23, u24, u25, u26, u27], defers := [] } wr from
      h w 0 0 none 0 0 [] [] undef (.slice none 0 0) undef undef undef undef undef undef undef undef undef undef undef undef undef undef undef undef undef undef undef undef undef undef (Nat.le_refl _) (Nat.zero_le _) rfl (hid (by rw [List.nil_append]; exact hr0)) (Below.refl _ _) (OwnX.nil _ _ _ _) (RowsB.nil _ _)
    intro wr f k oa n oc vs done u1 u2 u6 u7 u8 u9 u10 u11 u12 u13 u14 u15 u16 u17 u18 u19 u20 u21 u22 u23 u24 u25 u26 u27 hfk hks hn hrem hbw hown hrows
    refine hK _ _ ?_
    by_cases hk : k = s.size
    · subst hk
      have hdone : done = R := by
        have := hrem.out
        rwa [remL_end H_hlen.out.symm, List.append_nil] at this
      subst hn hdone
      go_wp2_with fail
      try simp only [Exit.jump]
      go_ret
      exact ⟨⟨oa, oc, vs, rfl, hown, hrows⟩, (by repeat' (first | with_reducible exact hbw | with_reducible refine Below.drew ?_ | with_reducible refine below_drewN ?_ _ | with_reducible refine Below.alloc ?_ (by have := hbw.size; first | (simp; done) | (simp; omega) | omega) _ | with_reducible refine Below.setCell ?_ (by first | (simp; done) | (simp; omega) | omega) _))⟩
    · have hlt : k < s.size := by omega
      have hk' : ¬ (k : Int) = (s.size : Int) := by omega
      have hk'' : ((k : Int) == (s.size : Int)) = false := beq_eq_false_iff_ne.2 hk'
      have hkl : k < l.length := by rw [H_hlen.out]; exact hlt
      have hat : s[k]'hlt = l[k] := by
        have := H_hl.out
        subst this
        exact at_list s k hlt hkl
      by_cases h10 : l[k] = 10
      · have hc10 : s[k]'hlt = 10 := by rw [hat, h10]
        have h10' : ((s[k]'hlt).toNat : Int) = 10 := by rw [hc10]; rfl
        have hrem2 : done ++ [splitS 32 (s.extract f k)] ++ remL l (k + 1) (k + 1) = R := by
          rw [← hrem.out, remL_cut hkl h10, ext_bs, H_hl.out, List.append_assoc]; rfl
        have hfk' : (f : Int) ≤ (k : Int) := by omega
        have hks' : (k : Int) ≤ (s.size : Int) := by omega
        have hex : (s.extract f k).size ≤ 100000 := by simp [ByteArray.size_extract]; omega
        obtain ⟨x, hx⟩ : ∃ x, s.extract f k = x := ⟨_, rfl⟩
        rw [hx] at hex hrem2
        have hsp := fun W (g : Below w.heap.size w W) => split_any x W hex (H_hE.out.later g)
        have hrl : (splitS 32 x).length ≤ 100001 := by have := (splitS_len 32 x).2; omega
        have hdl : done.length ≤ 100000 := by
          have := congrArg List.length hrem2
          simp only [List.length_append, List.length_cons, List.length_nil] at this
          omega
        obtain ⟨r, hr⟩ : ∃ r, splitS 32 x = r := ⟨_, rfl⟩
        rw [hr] at hrem2 hrl
        simp only [hr] at hsp
        obtain ⟨rn, hrn⟩ : ∃ rn, r.length = rn := ⟨_, rfl⟩
        simp only [hrn] at hsp
        clear hat
        have hbs := hbw.size
        subst hn
        have H_hsp := Box.mk hsp
        have H_h10 := Box.mk h10
        have H_hc10 := Box.mk hc10
        have H_hr := Box.mk hr
        have H_hrem2 := Box.mk hrem2
        have H_hrn := Box.mk hrn
        clear hsp h10 hc10 hr hrem2 hrn
        go_wp2_with fail
        with_reducible refine (H_hsp.out _ (by repeat' (first | with_reducible exact hbw | with_reducible refine Below.drew ?_ | with_reducible refine below_drewN ?_ _ | with_reducible refine Below.alloc ?_ (by have := hbw.size; first | (simp; done) | (simp; omega) | omega) _ | with_reducible refine Below.setCell ?_ (by first | (simp; done) | (simp; omega) | omega) _))).mono ?_
        rintro e w11 ⟨rfl, hc11, hB⟩
        have hb11 : Below w.heap.size w w11 := bchain (by repeat' (first | with_reducible exact hbw | with_reducible refine Below.drew ?_ | with_reducible refine below_drewN ?_ _ | with_reducible refine Below.alloc ?_ (by have := hbw.size; first | (simp; done) | (simp; omega) | omega) _ | with_reducible refine Below.setCell ?_ (by first | (simp; done) | (simp; omega) | omega) _)) hc11
        have hst11 : Below wr.heap.size wr w11 := bchain (by repeat' (first | with_reducible exact Below.refl _ _ | with_reducible refine Below.drew ?_ | with_reducible refine below_drewN ?_ _ | with_reducible refine Below.alloc ?_ (by first | (simp; done) | (simp; omega) | omega) _ | with_reducible refine Below.setCell ?_ (by first | (simp; done) | (simp; omega) | omega) _)) hc11
        replace hown := hown.later hst11
        replace hrows := hrows.later hst11
        clear hst11
        clear hc11 hbw
        have hBl := hB.lt
        go_wp2_with (at_builtin; refine stop ?_)
        refine Stop.go ?_
        refine wpList_append_x _ rfl _ _ 89 rfl w.heap.size 38 i0 (.slice none 0 0) 1 24 Tryd.underlying89 hi hz0 hz1 hz2 rfl (by decide) (.slice oa done.length oc) done.length vs rfl (hown.alloc _) (some ⟨w11.heap.size, 0, none⟩) 1 1 [.slice (some ⟨wr.heap.size, 0, none⟩) rn rn] rfl rfl (cellsAt_one _ _ _) (by intro u hu; obtain rfl := List.mem_singleton.1 hu; rfl) (by unfold maxLen; omega) (by omega) (by simp; have := hb11.size; omega) ?_
        intro a' c' W1 hown2 hg hown3
        have hrows2 : RowsB W1 w.heap.size (vs ++ [.slice (some ⟨wr.heap.size, 0, none⟩) r.length r.length]) (done ++ [r]) := by
          refine RowsB.push ?_ ?_ hbs
          · exact (hrows.alloc _).kept (hown.alloc _) hg (by decide)
          · exact (hB.alloc _).keptT (hown.alloc _) hg (by decide)
        rw [H_hrn.out] at hrows2
        have hb12 : Below w.heap.size w W1 := below_grownX (by repeat' (first | with_reducible exact hb11 | with_reducible refine Below.drew ?_ | with_reducible refine below_drewN ?_ _ | with_reducible refine Below.alloc ?_ (by have := hb11.size; first | (simp; done) | (simp; omega) | omega) _ | with_reducible refine Below.setCell ?_ (by first | (simp; done) | (simp; omega) | omega) _)) hg (by simp; have := hb11.size; omega) (fun k hk => (hown.lt k hk).1)
        clear hown hrows hB hg hown3
        go_wp2_with fail
        go_step3
        first
          | exact ⟨rfl, ⟨k + 1, k + 1, a', done.length + 1, c', _, done ++ [r], _, _, _, _, _, _, _, _, _, _, _, _, _, _, _, _, _, _, _, _, _, _, _, _, by go_num, by omega, by omega, by simp, hid H_hrem2.out, (by repeat' (first | with_reducible exact hb12 | with_reducible refine Below.drew ?_ | with_reducible refine below_drewN ?_ _ | with_reducible refine Below.alloc ?_ (by have := hb12.size; first | (simp; done) | (simp; omega) | omega) _ | with_reducible refine Below.setCell ?_ (by first | (simp; done) | (simp; omega) | omega) _)), hown2, hrows2⟩, by simp [intOf]; omega⟩
          | exact ⟨rfl, ⟨k + 1, k + 1, a', done.length + 1, c', _, done ++ [r], _, _, _, _, _, _, _, _, _, _, _, _, _, _, _, _, _, _, _, _, _, _, _, _, by go_num, by omega, by omega, by simp, hid H_hrem2.out, (by repeat' (first | with_reducible exact hb12 | with_reducible refine Below.drew ?_ | with_reducible refine below_drewN ?_ _ | with_reducible refine Below.alloc ?_ (by have := hb12.size; first | (simp; done) | (simp; omega) | omega) _ | with_reducible refine Below.setCell ?_ (by first | (simp; done) | (simp; omega) | omega) _)), hown2, hrows2⟩⟩
      · have h10' : ¬ ((s[k]'hlt).toNat : Int) = 10 := fun h => h10 (by
          rw [← hat]
          exact UInt8.toNat_inj.1 (by have : (s[k]'hlt).toNat = 10 := by omega
                                      rw [this]; rfl))
        have h10'' : (((s[k]'hlt).toNat : Int) != 10) = true := bne_iff_ne.2 h10'
        have hrem2 : done ++ remL l f (k + 1) = R := by rw [← remL_on hfk hkl h10]; exact hrem.out
        clear hat hkl h10
        have H_hrem2 := Box.mk hrem2
        clear hrem2
        go_wp2_with fail
        go_step3
        first
          | exact ⟨rfl, ⟨f, k + 1, oa, n, oc, vs, done, _, _, _, _, _, _, _, _, _, _, _, _, _, _, _, _, _, _, _, _, _, _, _, _, by go_num, by omega, by omega, hn, hid H_hrem2.out, (by repeat' (first | with_reducible exact hbw | with_reducible refine Below.drew ?_ | with_reducible refine below_drewN ?_ _ | with_reducible refine Below.alloc ?_ (by have := hbw.size; first | (simp; done) | (simp; omega) | omega) _ | with_reducible refine Below.setCell ?_ (by first | (simp; done) | (simp; omega) | omega) _)), hown, hrows⟩, by simp [intOf]; omega⟩
          | exact ⟨rfl, ⟨f, k + 1, oa, n, oc, vs, done, _, _, _, _, _, _, _, _, _, _, _, _, _, _, _, _, _, _, _, _, _, _, _, _, by go_num, by omega, by omega, hn, hid H_hrem2.out, (by repeat' (first | with_reducible exact hbw | with_reducible refine Below.drew ?_ | with_reducible refine below_drewN ?_ _ | with_reducible refine Below.alloc ?_ (by have := hbw.size; first | (simp; done) | (simp; omega) | omega) _ | with_reducible refine Below.setCell ?_ (by first | (simp; done) | (simp; omega) | omega) _)), hown, hrows⟩⟩
end Go.Proofs.YthdldmkeoglflaaDoor
