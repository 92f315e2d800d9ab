/- CfgTxtE: CfgShelf, CfgBuild, CfgFmt, CfgText, CfgAlive. -/
import Derived.Shelf.Strings.BuilderK
import Derived.Shelf.Strconv.Itoa3
import Derived.Shelf.LaysM
import Derived.Test.YthdldmkeoglflaaDoorProg
import Derived.Test.YthdldmkeoglflaaDoorMem4
import Derived.WalkSmall
import Derived.Lib.ItoaMem
import Derived.Lib.AppendIntMem
import Derived.BigGuard
import Derived.Test.YthdldmkeoglflaaDoorCfgFind
import Derived.Test.YthdldmkeoglflaaDoorQTail
import Derived.Test.YthdldmkeoglflaaDoorRegMore
/- Contracts of the library's functions at this program: printed by the kit's tools, these declarations taken by wip/tools/shelf44.py. -/
namespace Go.Proofs.YthdldmkeoglflaaDoor
open Go.Shelf Go.RowKit

def sh_lays169_ren : Go.Shelf.Ren := ⟨fun | 169 => 35 | n => n, fun | 70 => 68 | 9 => 9 | 0 => 0 | 72 => 70 | 37 => 43 | 127 => 110 | 3 => 3 | 5 => 5 | n => n, fun | n => n⟩
theorem sh_lays169 : Go.Proofs.Lays.n169 Tryd.prog sh_lays169_ren := {
  mixed := by kernel_rfl
  f169 := Tryd.func35.trans (congrArg some (by kernel_rfl))
  t0 := Tryd.underlying0
  a0 := Tryd.isAgg0
  z0 := Tryd.sizeOf0
  v0 := Tryd.zeroValue0
  t3 := Tryd.underlying3
  a3 := Tryd.isAgg3
  z3 := Tryd.sizeOf3
  v3 := Tryd.zeroValue3
  t9 := Tryd.underlying9
  a9 := Tryd.isAgg9
  z9 := Tryd.sizeOf9
  v9 := Tryd.zeroValue9
  t37 := Tryd.underlying43
  a37 := Tryd.isAgg43
  z37 := Tryd.sizeOf43
  v37 := Tryd.zeroValue43
  t70 := Tryd.underlying68
  a70 := Tryd.isAgg68
  z70 := Tryd.sizeOf68
  v70 := Tryd.zeroValue68
  t72 := Tryd.underlying70
  a72 := Tryd.isAgg70
  z72 := Tryd.sizeOf70
  v72 := Tryd.zeroValue70
  t127 := Tryd.underlying110
  a127 := Tryd.isAgg110
  z127 := Tryd.sizeOf110
  v127 := Tryd.zeroValue110 }
theorem sh_Builder_Extra_169 : Builder.Extra Tryd.prog sh_lays169_ren := {
  sizeBuilder := by kernel_rfl
  liesBuilder := by kernel_rfl
  t5 := Tryd.underlying5
  a5 := Tryd.isAgg5
  z5 := Tryd.sizeOf5
  v5 := Tryd.zeroValue5
  infoByte := by kernel_rfl
  cellsByte := by kernel_rfl
  sizeByte := by kernel_rfl
  neB5 := by decide }
open Go.RowKit in
theorem sh_Builder_String_any_k (B b : Nat) (l : List UInt8) (w : World) (h : Lib.IsBuilderF 70 5 B b (Lib.byteCells l) w) (hBw : B ≤ w.heap.size) :
    Calls Tryd.prog 35 #[.pointer (some ⟨b, 0, none⟩)] w fun e w' => e = .returned (.string ⟨l.toArray⟩) ∧ (Lib.IsBuilderF 70 5 B b (Lib.byteCells l) w' ∧ Below B w w' ∧ Lib.OthersKept 5 (some b) w w') := Any.Builder_String_any_k sh_lays169 sh_Builder_Extra_169 B b l w h hBw
def sh_lays283_ren : Go.Shelf.Ren := ⟨fun | 283 => 87 | n => n, fun | 3 => 3 | 9 => 9 | 4 => 4 | n => n, fun | n => n⟩
theorem sh_lays283 : Go.Proofs.Lays.n283 Tryd.prog sh_lays283_ren := {
  mixed := by kernel_rfl
  f283 := Tryd.func87.trans (congrArg some (by kernel_rfl))
  t3 := Tryd.underlying3
  a3 := Tryd.isAgg3
  z3 := Tryd.sizeOf3
  v3 := Tryd.zeroValue3
  t4 := Tryd.underlying4
  a4 := Tryd.isAgg4
  z4 := Tryd.sizeOf4
  v4 := Tryd.zeroValue4
  t9 := Tryd.underlying9
  a9 := Tryd.isAgg9
  z9 := Tryd.sizeOf9
  v9 := Tryd.zeroValue9 }
open Go.Lib in
theorem sh_internal_strconv_small (i : Nat) (h : i < 100) (w : World) :
    Calls Tryd.prog 87 #[.int .i64 i] w fun e w' => e = .returned (.string ⟨(Lib.decDigits i).toArray⟩) ∧ w' = w := Any.internal_strconv_small sh_lays283 i h w
def sh_laysM284_ren : Go.Shelf.Ren := ⟨fun | 284 => 88 | 129 => 101 | 317 => 100 | 318 => 102 | n => n, fun | 53 => 81 | 3 => 3 | 212 => 144 | 0 => 0 | 4 => 4 | 46 => 136 | 5 => 5 | 9 => 9 | n => n, fun | 17 => 0 | n => n⟩
theorem sh_laysM284 : Go.Proofs.LaysM.n284 Tryd.prog sh_laysM284_ren := {
  mixed := by kernel_rfl
  f129 := Tryd.func101.trans (congrArg some (by kernel_rfl))
  f284 := Tryd.func88.trans (congrArg some (by kernel_rfl))
  f317 := Tryd.func100.trans (congrArg some (by kernel_rfl))
  f318 := Tryd.func102.trans (congrArg some (by kernel_rfl))
  t0 := Tryd.underlying0
  a0 := Tryd.isAgg0
  z0 := Tryd.sizeOf0
  v0 := Tryd.zeroValue0
  t3 := Tryd.underlying3
  a3 := Tryd.isAgg3
  z3 := Tryd.sizeOf3
  v3 := Tryd.zeroValue3
  t4 := Tryd.underlying4
  a4 := Tryd.isAgg4
  z4 := Tryd.sizeOf4
  v4 := Tryd.zeroValue4
  t5 := Tryd.underlying5
  a5 := Tryd.isAgg5
  z5 := Tryd.sizeOf5
  v5 := Tryd.zeroValue5
  t9 := Tryd.underlying9
  a9 := Tryd.isAgg9
  z9 := Tryd.sizeOf9
  v9 := Tryd.zeroValue9
  t46 := Tryd.underlying136
  a46 := Tryd.isAgg136
  z46 := Tryd.sizeOf136
  v46 := Tryd.zeroValue136
  t53 := Tryd.underlying81
  a53 := Tryd.isAgg81
  z53 := Tryd.sizeOf81
  v53 := Tryd.zeroValue81
  t212 := Tryd.underlying144
  a212 := Tryd.isAgg144
  z212 := Tryd.sizeOf144
  v212 := Tryd.zeroValue144
  g17 := by kernel_rfl
  i0 := by kernel_rfl
  i3 := by kernel_rfl
  i4 := by kernel_rfl
  i5 := by kernel_rfl
  i9 := by kernel_rfl
  i46 := by kernel_rfl
  i53 := by kernel_rfl
  i212 := by kernel_rfl
  m17 := by kernel_rfl }
open Go.Lib in
theorem sh_internal_strconv_numDigits (u : Nat) (h1 : 1 ≤ u) (h2 : u < 18446744073709551616) (w : World) (htab : Lib.TabIs Tryd.prog w "internal/strconv.uint64pow10" .u64 Lib.pow10Tab) :
    Calls Tryd.prog 88 #[.int .u64 u] w fun e w' => e = .returned (.int .i64 (Lib.nDigits u)) ∧ w' = w := Any.internal_strconv_numDigits sh_laysM284 u h1 h2 w htab
def sh_lays285_ren : Go.Shelf.Ren := ⟨fun | 285 => 89 | n => n, fun | 37 => 43 | 53 => 81 | 3 => 3 | 4 => 4 | 51 => 24 | 9 => 9 | 5 => 5 | 0 => 0 | n => n, fun | n => n⟩
theorem sh_lays285 : Go.Proofs.Lays.n285 Tryd.prog sh_lays285_ren := {
  mixed := by kernel_rfl
  f285 := Tryd.func89.trans (congrArg some (by kernel_rfl))
  t0 := Tryd.underlying0
  a0 := Tryd.isAgg0
  z0 := Tryd.sizeOf0
  v0 := Tryd.zeroValue0
  t3 := Tryd.underlying3
  a3 := Tryd.isAgg3
  z3 := Tryd.sizeOf3
  v3 := Tryd.zeroValue3
  t4 := Tryd.underlying4
  a4 := Tryd.isAgg4
  z4 := Tryd.sizeOf4
  v4 := Tryd.zeroValue4
  t5 := Tryd.underlying5
  a5 := Tryd.isAgg5
  z5 := Tryd.sizeOf5
  v5 := Tryd.zeroValue5
  t9 := Tryd.underlying9
  a9 := Tryd.isAgg9
  z9 := Tryd.sizeOf9
  v9 := Tryd.zeroValue9
  t37 := Tryd.underlying43
  a37 := Tryd.isAgg43
  z37 := Tryd.sizeOf43
  v37 := Tryd.zeroValue43
  t51 := Tryd.underlying24
  a51 := Tryd.isAgg24
  z51 := Tryd.sizeOf24
  v51 := Tryd.zeroValue24
  t53 := Tryd.underlying81
  a53 := Tryd.isAgg81
  z53 := Tryd.sizeOf81
  v53 := Tryd.zeroValue81 }
open Go.RowKit Go.Sort Go.Lib in
theorem sh_internal_strconv_formatBase10 (blk off cap : Nat) (u : Nat) (d : Array UInt8) (w : World) (hH : Holds (fun (b : UInt8) => Value.int .u8 (b.toNat : Int)) w blk off d) (hu : u < 10 ^ d.size) (hu64 : u < 18446744073709551616) (hsz : d.size < 4611686018427387904) :
    Calls Tryd.prog 89 #[.slice (some ⟨blk, off, none⟩) d.size cap, .int .u64 u] w fun e w' =>
      e = .returned (.tuple #[]) ∧ ∃ (n v' : Nat) (dk : Array UInt8), w' = (putRow (fun (b : UInt8) => Value.int .u8 (b.toNat : Int)) w blk off dk).drewN n ∧ FmtInv d.size u 0 v' dk := Any.internal_strconv_formatBase10 sh_lays285 blk off cap u d w hH hu hu64 hsz
def sh_lays171_ren : Go.Shelf.Ren := ⟨fun | 171 => 33 | 243 => 66 | 246 => 86 | 283 => 87 | 284 => 88 | 285 => 89 | 286 => 90 | 129 => 101 | 317 => 100 | 318 => 102 | 319 => 103 | 320 => 104 | 337 => 121 | 338 => 122 | n => n, fun | 3 => 3 | 9 => 9 | 2 => 2 | 4 => 4 | 171 => 128 | 0 => 0 | 53 => 81 | 37 => 43 | 5 => 5 | 173 => 131 | 212 => 144 | 51 => 24 | 20 => 20 | 213 => 145 | 46 => 136 | 232 => 137 | 233 => 176 | n => n, fun | 17 => 0 | 18 => 4 | 19 => 5 | n => n⟩
theorem sh_lays171 : Go.Proofs.Lays.n171 Tryd.prog sh_lays171_ren := {
  mixed := by kernel_rfl
  f129 := Tryd.func101.trans (congrArg some (by kernel_rfl))
  f171 := Tryd.func33.trans (congrArg some (by kernel_rfl))
  f243 := Tryd.func66.trans (congrArg some (by kernel_rfl))
  f246 := Tryd.func86.trans (congrArg some (by kernel_rfl))
  f283 := Tryd.func87.trans (congrArg some (by kernel_rfl))
  f284 := Tryd.func88.trans (congrArg some (by kernel_rfl))
  f285 := Tryd.func89.trans (congrArg some (by kernel_rfl))
  f286 := Tryd.func90.trans (congrArg some (by kernel_rfl))
  f317 := Tryd.func100.trans (congrArg some (by kernel_rfl))
  f318 := Tryd.func102.trans (congrArg some (by kernel_rfl))
  f319 := Tryd.func103.trans (congrArg some (by kernel_rfl))
  f320 := Tryd.func104.trans (congrArg some (by kernel_rfl))
  f337 := Tryd.func121.trans (congrArg some (by kernel_rfl))
  f338 := Tryd.func122.trans (congrArg some (by kernel_rfl))
  t0 := Tryd.underlying0
  a0 := Tryd.isAgg0
  z0 := Tryd.sizeOf0
  v0 := Tryd.zeroValue0
  t2 := Tryd.underlying2
  a2 := Tryd.isAgg2
  z2 := Tryd.sizeOf2
  v2 := Tryd.zeroValue2
  t3 := Tryd.underlying3
  a3 := Tryd.isAgg3
  z3 := Tryd.sizeOf3
  v3 := Tryd.zeroValue3
  t4 := Tryd.underlying4
  a4 := Tryd.isAgg4
  z4 := Tryd.sizeOf4
  v4 := Tryd.zeroValue4
  t5 := Tryd.underlying5
  a5 := Tryd.isAgg5
  z5 := Tryd.sizeOf5
  v5 := Tryd.zeroValue5
  t9 := Tryd.underlying9
  a9 := Tryd.isAgg9
  z9 := Tryd.sizeOf9
  v9 := Tryd.zeroValue9
  t20 := Tryd.underlying20
  a20 := Tryd.isAgg20
  z20 := Tryd.sizeOf20
  v20 := Tryd.zeroValue20
  t37 := Tryd.underlying43
  a37 := Tryd.isAgg43
  z37 := Tryd.sizeOf43
  v37 := Tryd.zeroValue43
  t46 := Tryd.underlying136
  a46 := Tryd.isAgg136
  z46 := Tryd.sizeOf136
  v46 := Tryd.zeroValue136
  t51 := Tryd.underlying24
  a51 := Tryd.isAgg24
  z51 := Tryd.sizeOf24
  v51 := Tryd.zeroValue24
  t53 := Tryd.underlying81
  a53 := Tryd.isAgg81
  z53 := Tryd.sizeOf81
  v53 := Tryd.zeroValue81
  t171 := Tryd.underlying128
  a171 := Tryd.isAgg128
  z171 := Tryd.sizeOf128
  v171 := Tryd.zeroValue128
  t173 := Tryd.underlying131
  a173 := Tryd.isAgg131
  z173 := Tryd.sizeOf131
  v173 := Tryd.zeroValue131
  t212 := Tryd.underlying144
  a212 := Tryd.isAgg144
  z212 := Tryd.sizeOf144
  v212 := Tryd.zeroValue144
  t213 := Tryd.underlying145
  a213 := Tryd.isAgg145
  z213 := Tryd.sizeOf145
  t232 := Tryd.underlying137
  a232 := Tryd.isAgg137
  z232 := Tryd.sizeOf137
  v232 := Tryd.zeroValue137
  t233 := Tryd.underlying176
  a233 := Tryd.isAgg176
  z233 := Tryd.sizeOf176
  v233 := Tryd.zeroValue176
  g17 := by kernel_rfl
  g18 := by kernel_rfl
  g19 := by kernel_rfl }
open Go.RowKit Go.Sort Go.Lib in
theorem sh_strconv_Itoa_small (i : Nat) (hi : i < 100) (w : World) :
    Calls Tryd.prog 33 #[.int .i64 i] w fun e w' => e = .returned (.string ⟨(Lib.decDigits i).toArray⟩) ∧ w' = w := Any.strconv_Itoa_small sh_lays171 i hi w

end Go.Proofs.YthdldmkeoglflaaDoor

/- strings.Builder: copyCheck and WriteString. -/
namespace Go.Proofs.YthdldmkeoglflaaDoor
set_option linter.unusedSimpArgs false
set_option linter.unusedVariables false
set_option linter.unnecessarySimpa false
open Go.RowKit

theorem sizeB : (Tryd.prog.info? 70).map (·.size) = some 2 := by kernel_rfl
theorem liesB : liesAt Tryd.prog Tryd.prog.depth 70 (2 / Tryd.prog.cellsOf 70) 0 70 1 = true := by kernel_rfl
theorem infoB : (Tryd.prog.info? 5).map (fun i => (i.zero, i.size, i.bytes)) = some (some (.int .u8 0), 1, 1) := by kernel_rfl
theorem neB5 : 70 ≠ 5 := by decide
set_option maxRecDepth 100000 in
set_option maxHeartbeats 1000000 in
theorem copyCheck_fresh (b : Nat) (w : World) (h0 : w.cell? ⟨b, 0, none⟩ = some (.pointer none)) (hsh : w.shape? b = some (70, 2)) (hfz : w.frozen? ⟨b, 0, none⟩ = false) :
    Calls Tryd.prog 65 #[.pointer (some ⟨b, 0, none⟩)] w fun e w' =>
      e = .returned (.tuple #[]) ∧ w' = w.setCell ⟨b, 0, none⟩ (.pointer (some ⟨b, 0, none⟩)) := by
  obtain ⟨j, hj, hjs⟩ := Option.map_eq_some_iff.1 sizeB
  go_enter Tryd.func65, Tryd.ntmps65
  go_wp2_with fail
  rw [Lib.run_to_unsafe w ⟨b, 0, none⟩ Tryd.underlying68 Tryd.underlying125 hj (by rw [hjs]; decide) hsh (Nat.zero_lt_succ 1)]
  simp only [Result.andThen]
  rw [Oper.upon_value]
  go_wp2_with fail
  rw [run_callFunc_extern Tryd.func85 (by kernel_rfl) (by kernel_rfl) (by kernel_rfl) (e := Extern.AbiNoEscape.same) (by kernel_rfl)]
  rw [Lib.run_noEscape]
  simp only [Result.andThen]
  rw [Oper.upon_value]
  go_wp2_with fail
  rw [Lib.run_from_unsafe w ⟨b, 0, none⟩ Tryd.underlying125 Tryd.underlying68 hj hsh liesB]
  simp only [Result.andThen]
  rw [Oper.upon_value]
  go_wp2_with fail
  go_end0
  exact ⟨rfl, rfl⟩
set_option maxRecDepth 100000 in
theorem copyCheck_used (b : Nat) (w : World) (h0 : w.cell? ⟨b, 0, none⟩ = some (.pointer (some ⟨b, 0, none⟩))) :
    Calls Tryd.prog 65 #[.pointer (some ⟨b, 0, none⟩)] w fun e w' =>
      e = .returned (.tuple #[]) ∧ w' = w := by
  obtain ⟨j, hj, _⟩ := Option.map_eq_some_iff.1 sizeB
  go_enter Tryd.func65, Tryd.ntmps65
  go_wp2_with fail
  rw [Lib.run_neq_ptr_same w _ Tryd.underlying68 hj]
  go_wp2_with fail
  go_end0
  exact ⟨rfl, rfl⟩
theorem copyCheck_k (B b : Nat) (bs : List Value) (w : World) (h : Lib.IsBuilderF 70 5 B b bs w) :
    Calls Tryd.prog 65 #[.pointer (some ⟨b, 0, none⟩)] w fun e w' =>
      e = .returned (.tuple #[]) ∧ (Lib.BuilderAtF 70 5 B b (.pointer (some ⟨b, 0, none⟩)) bs w' ∧ Below B w w' ∧ Lib.OthersKept 5 (some b) w w') := by
  rcases h with h | h
  · refine (copyCheck_fresh b w h.cell0 h.shape h.frozen0).mono ?_
    rintro e w' ⟨rfl, rfl⟩
    exact ⟨rfl, h.used _, (Below.refl B w).setCell (p := ⟨b, 0, none⟩) h.1 _, (Lib.OthersKept.refl _ _ w).setCell ⟨b, 0, none⟩ rfl _⟩
  · refine (copyCheck_used b w h.cell0).mono ?_
    rintro e w' ⟨rfl, rfl⟩
    exact ⟨rfl, h, Below.refl B _, Lib.OthersKept.refl _ _ _⟩
set_option maxHeartbeats 2000000 in
set_option maxRecDepth 100000 in
theorem write_k (B b : Nat) (bs : List Value) (s : ByteArray) (w : World) (h : Lib.IsBuilderF 70 5 B b bs w) (hlen : bs.length + s.size ≤ 140737488355328) (hBw : B ≤ w.heap.size) :
    Calls Tryd.prog 32 #[.pointer (some ⟨b, 0, none⟩), .string s] w fun e w' =>
      e = .returned (.tuple #[.int .i64 s.size, .nilIface]) ∧ (Lib.BuilderAtF 70 5 B b (.pointer (some ⟨b, 0, none⟩)) (bs ++ Lib.strCells s) w' ∧ Below B w w' ∧ Lib.OthersKept 5 (some b) w w') := by
  obtain ⟨i0, hi, hz0, hz1, hz2⟩ := info_parts infoB
  go_enter Tryd.func32, Tryd.ntmps32
  go_wp2_with fail
  refine (copyCheck_k B b bs _ h).mono ?_
  rintro e w1 ⟨rfl, h1, hb1, hk1⟩
  obtain ⟨hB, v, hbk, hown, hne⟩ := h1
  have c0 : w1.cell? ⟨b, 0, none⟩ = some (.pointer (some ⟨b, 0, none⟩)) := by rw [Lib.cell_of_heap hbk]; rfl
  have c1 : w1.cell? ⟨b, 1, none⟩ = some v := by rw [Lib.cell_of_heap hbk]; rfl
  go_wp2_with (at_builtin; refine Lib.wpList_append_own_stringF _ rfl _ _ 43 9 rfl B 5 i0 Tryd.underlying43 Tryd.underlying9 hi hz0 hz1 hz2 _ _ _ rfl hown s rfl ?c3 ?c4 ?c5 ?_)
  case c3 => unfold maxLen; omega
  case c4 => omega
  case c5 => have := hb1.size; omega
  intro v' w2 hown' hgrow _
  have hlt : b < w1.heap.size := by
    rcases Nat.lt_or_ge b w1.heap.size with h' | h'
    · exact h'
    · simp [Array.getElem?_eq_none h'] at hbk
  have hb2 : w2.heap[b]? = some (.cells #[.pointer (some ⟨b, 0, none⟩), v] 70 (0, 0)) := by
    rw [hgrow.block b hlt (fun e => hne e.symm)]
    exact hbk
  have d0 : w2.cell? ⟨b, 0, none⟩ = some (.pointer (some ⟨b, 0, none⟩)) := by rw [Lib.cell_of_heap hb2]; rfl
  have d1 : w2.cell? ⟨b, 1, none⟩ = some v := by rw [Lib.cell_of_heap hb2]; rfl
  have f1 : w2.frozen? ⟨b, 1, none⟩ = false := Lib.frozen_of_heap hb2 1
  obtain ⟨ao, n', cap, rfl⟩ : ∃ ao n' cap, v' = .slice ao n' cap := by
    rcases hown'.2 with ⟨hv, _⟩ | ⟨g, cap, cur, fz, hv, _⟩
    · exact ⟨_, _, _, hv⟩
    · exact ⟨_, _, _, hv⟩
  go_wp2_with fail
  go_ret2
  refine ⟨rfl, ?_, ?_, (hk1.grown hgrow (Lib.ownsRowF_kind hown)).setCell ⟨b, 1, none⟩ rfl _⟩
  · exact Lib.BuilderAtF.put (T := 70) (e := 5) hB hb2 (bs' := bs ++ Lib.strCells s) (by simpa [Lib.strCells_length] using hown') neB5
  · exact (hb1.grown hgrow (by have := hb1.size; omega) (fun k hk => (hown.lt k hk).1)).setCell (p := ⟨b, 1, none⟩) hB _

end Go.Proofs.YthdldmkeoglflaaDoor

/- strconv.FormatUint at base 10. -/
namespace Go.Proofs.YthdldmkeoglflaaDoor
set_option linter.unusedSimpArgs false
set_option linter.unusedVariables false
set_option linter.unnecessarySimpa false
open Go.RowKit Go.Sort

theorem holds_zero0 (w : World) (T : TypeId) (nd : Nat) (hs : nd ≤ 24) : Holds (fun (b : UInt8) => Value.int .u8 (b.toNat : Int)) (w.alloc (.cells Lib.zeros24 T)) w.heap.size 0 (Array.replicate nd (0 : UInt8)) := fun j hj => by
  have hj' : j < nd := by simpa using hj
  refine ⟨?_, World.frozen?_alloc_new _ _ _ _⟩
  rw [World.cell?_alloc_new, Lib.zeros24_at _ (by omega), getElem!_pos _ j hj]
  simp
set_option maxRecDepth 100000 in
set_option maxHeartbeats 2000000 in
theorem fmtU_any (u : Nat) (hu64 : u < 18446744073709551616) (w : World) (htab : Lib.TabIs Tryd.prog w "internal/strconv.uint64pow10" .u64 Lib.pow10Tab) :
    Calls Tryd.prog 67 #[.int .u64 u, .int .i64 10] w fun e w' =>
      e = .returned (.string ⟨(Lib.decDigits u).toArray⟩) ∧ Below w.heap.size w w' := by
  by_cases hs : u < 100
  · have hs' : (u : Int) < 100 := by omega
    go_enter Tryd.func67, Tryd.ntmps67
    have hb0 := Below.refl w.heap.size w
    go_wp2_with fail
    have hw1 : IntKind.i64.wrap (u : Int) = u := by rw [IntKind.wrap_i64]; omega
    refine (sh_internal_strconv_small u hs _).mono ?_
    rintro e w' ⟨rfl, rfl⟩
    go_wp2_with fail
    go_ret
    exact ⟨rfl, (by repeat' (first | with_reducible exact hb0 | with_reducible refine Below.drew ?_ | with_reducible refine below_drewN ?_ _ | with_reducible refine Below.alloc ?_ (by have := hb0.size; first | (simp; done) | (simp; omega) | omega) _ | with_reducible refine Below.setCell ?_ (by first | (simp; done) | (simp; omega) | omega) _))⟩
  · have hs' : ¬ (u : Int) < 100 := by omega
    have hu1 : 1 ≤ u := by omega
    have hnd20 : Lib.nDigits u ≤ 20 := by have := Lib.numDigits_eq u hu1 hu64; split at this <;> omega
    have hH0 := holds_zero0 w 128 (Lib.nDigits u) (by omega)
    have hfmt := sh_internal_strconv_formatBase10 w.heap.size 0 24 u (Array.replicate (Lib.nDigits u) 0) (w.alloc (.cells Lib.zeros24 128)) hH0 (by rw [Array.size_replicate]; exact Lib.lt_pow_nDigits u) hu64 (by rw [Array.size_replicate]; omega)
    rw [Array.size_replicate] at hfmt
    have HH0 := Lib.hid hH0
    have hnum := sh_internal_strconv_numDigits u hu1 hu64 _ (Lib.tabIs_alloc htab (.cells Lib.zeros24 128))
    clear hH0
    have hal : Tryd.prog.arrayLen 128 = 24 := by kernel_rfl
    have hle : ((Lib.nDigits u : Nat) : Int) ≤ (Tryd.prog.arrayLen 128 : Nat) := by rw [hal]; omega
    have hle2 : (Lib.nDigits u : Int) ≤ 24 := by omega
    have hsl : ∀ W, (Instr.sliceAt 128 (.pointer (some ⟨w.heap.size, 0, none⟩)) none (some (.int .i64 (Lib.nDigits u : Int))) none).run Tryd.prog W = .ok (.slice (some ⟨w.heap.size, 0, none⟩) (Lib.nDigits u) 24) W := fun W => by
      rw [run_sliceAt_array_h W 128 ⟨w.heap.size, 0, none⟩ (by kernel_rfl) .i64 (Lib.nDigits u : Int) (by omega) (by rw [hal]; omega)]
      go_simp
    have hcv0 : ∀ (dk : Array UInt8) (k v' : Nat) (hF : Lib.FmtInv (Lib.nDigits u) u 0 v' dk) W, (W = (putRow (fun (b : UInt8) => Value.int .u8 (b.toNat : Int)) (w.alloc (.cells Lib.zeros24 128)) w.heap.size 0 dk).drewN k) → (convert 43 9 (.slice (some ⟨w.heap.size, 0, none⟩) (Lib.nDigits u) 24)).run Tryd.prog W = .ok (.string ⟨(Lib.decDigits u).toArray⟩) W := fun dk k v' hF W hW => by
      have h := run_convert_bytes_back (P := Tryd.prog) ((putRow (fun (b : UInt8) => Value.int .u8 (b.toNat : Int)) (w.alloc (.cells Lib.zeros24 128)) w.heap.size 0 dk).drewN k) 43 9 5 ⟨w.heap.size, 0, none⟩ 24 (Lib.decDigits u) Tryd.underlying43 Tryd.underlying5 Tryd.underlying9 (fun j hj => by
        rw [Lib.row_is_numeral hF j hj, Lib.add_plain, World.cell?_drewN]
        exact cell?_putRow (fun (b : UInt8) => Value.int .u8 (b.toNat : Int)) _ w.heap.size 0 _ dk HH0.out (by rw [hF.size, Array.size_replicate]) j (by rw [hF.size]; rw [Lib.decDigits_length] at hj; exact hj))
      rw [Lib.decDigits_length] at h
      rw [hW]
      exact h
    have hcv := Lib.hid hcv0
    clear hcv0 hle
    go_enter Tryd.func67, Tryd.ntmps67
    have hb0 := Below.refl w.heap.size w
    go_wp2_with fail
    refine hnum.mono ?_
    rintro e w1 ⟨rfl, rfl⟩
    go_wp2_with fail
    refine hfmt.mono ?_
    rintro e w2 ⟨rfl, k, v', dk, hw2, hF⟩
    have hcv2 := hcv.out dk k v' hF w2 hw2
    have hb2 : Below w.heap.size w w2 := by
      rw [hw2, Sort.alloc_eq_grow]
      obtain ⟨os', _, e⟩ := putRow_grow_new (fun (b : UInt8) => Value.int .u8 (b.toNat : Int)) w #[.cells Lib.zeros24 128] w.heap.size 0 dk (Nat.le_refl _)
      rw [e]
      exact Lib.below_grow w.heap.size w (Nat.le_refl _) k os'
    clear hw2 hF
    go_wp2_with fail
    go_ret
    exact ⟨rfl, bchain hb2 (Below.refl _ _)⟩
set_option maxRecDepth 100000 in
theorem fmtUint_any (u : Nat) (hu64 : u < 18446744073709551616) (w : World) (htab : Lib.TabIs Tryd.prog w "internal/strconv.uint64pow10" .u64 Lib.pow10Tab) :
    Calls Tryd.prog 34 #[.int .u64 u, .int .i64 10] w fun e w' =>
      e = .returned (.string ⟨(Lib.decDigits u).toArray⟩) ∧ Below w.heap.size w w' := by
  go_enter Tryd.func34, Tryd.ntmps34
  have hb0 := Below.refl w.heap.size w
  go_wp2_with fail
  refine (fmtU_any u hu64 _ htab).mono ?_
  rintro e w1 ⟨rfl, hc1⟩
  have hb1 : Below w.heap.size w w1 := bchain (by repeat' (first | with_reducible exact hb0 | with_reducible refine Below.drew ?_ | with_reducible refine below_drewN ?_ _ | with_reducible refine Below.alloc ?_ (by have := hb0.size; first | (simp; done) | (simp; omega) | omega) _ | with_reducible refine Below.setCell ?_ (by first | (simp; done) | (simp; omega) | omega) _)) hc1
  clear hc1 hb0
  go_wp2_with fail
  go_ret
  exact ⟨rfl, by repeat' (first | with_reducible exact hb1 | with_reducible refine Below.drew ?_ | with_reducible refine below_drewN ?_ _ | with_reducible refine Below.alloc ?_ (by have := hb1.size; first | (simp; done) | (simp; omega) | omega) _ | with_reducible refine Below.setCell ?_ (by first | (simp; done) | (simp; omega) | omega) _)⟩
/-- strconv.Itoa at a small number. -/
theorem itoa_any (i : Nat) (hi : i < 100) (w : World) :
    Calls Tryd.prog 33 #[.int .i64 i] w fun e w' =>
      e = .returned (.string ⟨(Lib.decDigits i).toArray⟩) ∧ Below w.heap.size w w' :=
  (sh_strconv_Itoa_small i hi w).mono fun e w' h => ⟨h.1, h.2 ▸ Below.refl _ _⟩
end Go.Proofs.YthdldmkeoglflaaDoor

/- config.Text. -/
namespace Go.Proofs.YthdldmkeoglflaaDoor
set_option linter.unusedSimpArgs false
set_option linter.unusedVariables false
set_option linter.unnecessarySimpa false
open Go.RowKit

def wordsB : List ByteArray := [⟨#[119, 111, 114, 107, 101, 114, 115]⟩, ⟨#[115, 104, 97, 114, 100, 115]⟩, ⟨#[115, 116, 111, 114, 101]⟩, ⟨#[112, 101, 110, 100, 105, 110, 103]⟩, ⟨#[105, 110, 98, 111, 120]⟩, ⟨#[113, 117, 101, 117, 101]⟩, ⟨#[115, 117, 98, 115]⟩, ⟨#[115, 101, 115, 115, 105, 111, 110, 115]⟩, ⟨#[99, 97, 108, 108, 115]⟩]
/-- The line of a limit; those of the first k limits; the text. -/
def lineW (L : Lim) (k : Nat) : List UInt8 := (wordsB[k]?.getD ⟨#[]⟩).data.toList ++ [32] ++ Lib.decDigits (L.l[k]?.getD 0).toNat ++ [10]
def linesL (L : Lim) (k : Nat) : List UInt8 := (List.range k).flatMap (lineW L)
def secL (s : Int) : List UInt8 := [115, 101, 99, 114, 101, 116, 32] ++ Lib.decDigits s.toNat ++ [10]
def peerL (p : ByteArray × Int) : List UInt8 := [112, 101, 101, 114, 32] ++ p.1.data.toList ++ [32] ++ Lib.decDigits p.2.toNat ++ [10]
def textL (L : Lim) (s : Int) (ps : Peers) : List UInt8 := linesL L 9 ++ secL s ++ ps.flatMap peerL
theorem linesL_succ (L : Lim) (k : Nat) : linesL L (k + 1) = linesL L k ++ lineW L k := by
  unfold linesL; rw [List.range_succ, List.flatMap_append]; simp
theorem sec_size (b : ByteArray) : ((⟨#[115, 101, 99, 114, 101, 116, 32]⟩ : ByteArray) ++ b ++ (⟨#[10]⟩ : ByteArray)).size = 7 + b.size + 1 := by
  simp [ByteArray.size_append]; rfl
theorem sec_list (b : ByteArray) : ((⟨#[115, 101, 99, 114, 101, 116, 32]⟩ : ByteArray) ++ b ++ (⟨#[10]⟩ : ByteArray)).data.toList = [115, 101, 99, 114, 101, 116, 32] ++ b.data.toList ++ [10] := by
  simp
theorem peer_size (a b : ByteArray) : ((⟨#[112, 101, 101, 114, 32]⟩ : ByteArray) ++ a ++ (⟨#[32]⟩ : ByteArray) ++ b ++ (⟨#[10]⟩ : ByteArray)).size = 5 + a.size + 1 + b.size + 1 := by
  simp [ByteArray.size_append]; rfl
theorem peer_list (a b : ByteArray) : ((⟨#[112, 101, 101, 114, 32]⟩ : ByteArray) ++ a ++ (⟨#[32]⟩ : ByteArray) ++ b ++ (⟨#[10]⟩ : ByteArray)).data.toList = [112, 101, 101, 114, 32] ++ a.data.toList ++ [32] ++ b.data.toList ++ [10] := by
  simp
theorem okN_le {n : ByteArray} (h : okN n = true) : n.size ≤ 12 := by
  unfold okN at h
  simp only [Bool.and_eq_true, decide_eq_true_eq] at h
  exact h.2.1
theorem peerL_len (n : ByteArray) (q : Int) : (peerL (n, q)).length = 5 + n.size + 1 + (Lib.decDigits q.toNat).length + 1 := by
  have h2 : n.data.toList.length = n.size := Array.length_toList
  unfold peerL
  simp only [List.length_append, List.length_cons, List.length_nil]
  omega
theorem peers_take {ps : Peers} {k : Nat} (hk : k < ps.length) : (ps.take (k + 1)).flatMap peerL = (ps.take k).flatMap peerL ++ peerL (nm ps k, pu ps k) := by
  rw [List.take_succ_eq_append_getElem hk, List.flatMap_append, ps_at hk]; simp
theorem cat_size (a b : ByteArray) : (a ++ (⟨#[32]⟩ : ByteArray) ++ b ++ (⟨#[10]⟩ : ByteArray)).size = a.size + 1 + b.size + 1 := by
  simp [ByteArray.size_append]; rfl
theorem cat_list (a b : ByteArray) : (a ++ (⟨#[32]⟩ : ByteArray) ++ b ++ (⟨#[10]⟩ : ByteArray)).data.toList = a.data.toList ++ [32] ++ b.data.toList ++ [10] := by
  simp
/-- What came behind a world, from a block on. -/
structure FromB (w : World) (b : Nat) (w0 : World) : Prop where
  h : Below b w0 w
  le : b ≤ w.heap.size
theorem FromB.later {w w' w0 : World} {b : Nat} (h : FromB w b w0) (hb : Below w.heap.size w w') : FromB w' b w0 := ⟨h.h.trans (hb.mono h.le), Nat.le_trans h.le hb.size⟩
theorem FromB.on {w w' w0 : World} {b : Nat} (h : FromB w b w0) (hb : Below b w w') : FromB w' b w0 := ⟨h.h.trans hb, Nat.le_trans h.le hb.size⟩
theorem dec_len (u : Nat) (h : u < 18446744073709551616) : (Lib.decDigits u).length ≤ 20 := by
  rw [Lib.decDigits_length]
  by_cases h0 : 1 ≤ u
  · have := Lib.numDigits_eq u h0 h; split at this <;> omega
  · obtain rfl : u = 0 := by omega
    have : Lib.nDigits 0 = (Lib.decDigits 0).length := (Lib.decDigits_length 0).symm
    rw [this]; decide +kernel
theorem words_len : ∀ k : Nat, (wordsB[k]?.getD ⟨#[]⟩).size ≤ 8
  | 0 => by decide
  | 1 => by decide
  | 2 => by decide
  | 3 => by decide
  | 4 => by decide
  | 5 => by decide
  | 6 => by decide
  | 7 => by decide
  | 8 => by decide
  | k + 9 => by simp [wordsB, ByteArray.size]
theorem fit_rng {L : Lim} (h : fitB L = true) {k : Nat} (hk : k < 9) : 1 ≤ L.l[k]?.getD 0 ∧ L.l[k]?.getD 0 ≤ 40 := by
  have h1 := List.all_eq_true.1 h k (List.mem_range.2 hk)
  unfold limOk at h1
  rw [Bool.and_eq_true, decide_eq_true_eq, decide_eq_true_eq] at h1
  have h2 : ∀ k, k < 9 → mostL.l[k]?.getD 0 ≤ 40 := by decide
  exact ⟨h1.1, Int.le_trans h1.2 (h2 k hk)⟩
/-- A builder of the call's own: its bytes. -/
structure BufIn (w : World) (b : Nat) (l : List UInt8) : Prop where
  h : Lib.IsBuilderF 70 5 b b (Lib.byteCells l) w
theorem BufIn.later {w w' : World} {b : Nat} {l : List UInt8} (h : BufIn w b l) (hb : Below w.heap.size w w') : BufIn w' b l := by
  refine ⟨?_⟩
  have key : ∀ p, Lib.BuilderAtF 70 5 b b p (Lib.byteCells l) w → Lib.BuilderAtF 70 5 b b p (Lib.byteCells l) w' := fun p h => by
    obtain ⟨hB, v, hbk, hown, hne⟩ := h
    refine ⟨hB, v, (hb.block b (lt_of_block hbk)).trans hbk, ⟨hown.1, ?_⟩, hne⟩
    rcases hown.2 with h2 | ⟨g, cap, cur, fz, hv, hg, hbk2, r⟩
    · exact .inl h2
    · exact .inr ⟨g, cap, cur, fz, hv, hg, (hb.block g (Array.getElem?_eq_some_iff.1 hbk2).1).trans hbk2, r⟩
  rcases h.h with h | h
  · exact .inl (key _ h)
  · exact .inr (key _ h)
theorem BufIn.fresh (w : World) : BufIn (w.alloc (.cells #[.pointer none, .slice none 0 0] 70)) w.heap.size [] := ⟨Lib.IsBuilderF.of (Lib.fresh_isBuilder _ _ w)⟩
/-- WriteString, to a builder of the call's own. -/
theorem write_any (b : Nat) (l : List UInt8) (s : ByteArray) (w : World) (h : BufIn w b l) (hlen : l.length + s.size ≤ 140737488355328) :
    Calls Tryd.prog 32 #[.pointer (some ⟨b, 0, none⟩), .string s] w fun e w' =>
      e = .returned (.tuple #[.int .i64 s.size, .nilIface]) ∧ BufIn w' b (l ++ s.data.toList) ∧ Below b w w' ∧ Lib.OthersKept 5 (some b) w w' := by
  have hb : b ≤ w.heap.size := by
    rcases h.h with ⟨_, v, hbk, _⟩ | ⟨_, v, hbk, _⟩ <;> exact Nat.le_of_lt (lt_of_block hbk)
  refine (write_k b b (Lib.byteCells l) s w h.h (by rw [Lib.byteCells_length]; exact hlen) hb).mono ?_
  rintro e w' ⟨rfl, h1, h2, h3⟩
  refine ⟨rfl, ⟨.inr ?_⟩, h2, h3⟩
  rw [Lib.strCells_eq, ← Lib.byteCells_append] at h1
  exact h1
theorem bufString_any (b : Nat) (l : List UInt8) (w : World) (h : BufIn w b l) :
    Calls Tryd.prog 35 #[.pointer (some ⟨b, 0, none⟩)] w fun e w' =>
      e = .returned (.string ⟨l.toArray⟩) ∧ Below b w w' := by
  have hb : b ≤ w.heap.size := by
    rcases h.h with ⟨_, v, hbk, _⟩ | ⟨_, v, hbk, _⟩ <;> exact Nat.le_of_lt (lt_of_block hbk)
  exact (sh_Builder_String_any_k b b l w h.h hb).mono fun e w' h => ⟨h.1, h.2.2.1⟩
set_option maxHeartbeats 1000000 in
theorem words_any (w : World) :
    Calls Tryd.prog 30 #[] w fun e w' =>
      e = .returned (.agg #[.string ⟨#[119, 111, 114, 107, 101, 114, 115]⟩, .string ⟨#[115, 104, 97, 114, 100, 115]⟩, .string ⟨#[115, 116, 111, 114, 101]⟩, .string ⟨#[112, 101, 110, 100, 105, 110, 103]⟩, .string ⟨#[105, 110, 98, 111, 120]⟩, .string ⟨#[113, 117, 101, 117, 101]⟩, .string ⟨#[115, 117, 98, 115]⟩, .string ⟨#[115, 101, 115, 115, 105, 111, 110, 115]⟩, .string ⟨#[99, 97, 108, 108, 115]⟩]) ∧ Below w.heap.size w w' := by
  go_enter Tryd.func30, Tryd.ntmps30
  have hb0 := Below.refl w.heap.size w
  go_wp2_with fail
  refine bodyPost_ret (v := .agg #[.string ⟨#[119, 111, 114, 107, 101, 114, 115]⟩, .string ⟨#[115, 104, 97, 114, 100, 115]⟩, .string ⟨#[115, 116, 111, 114, 101]⟩, .string ⟨#[112, 101, 110, 100, 105, 110, 103]⟩, .string ⟨#[105, 110, 98, 111, 120]⟩, .string ⟨#[113, 117, 101, 117, 101]⟩, .string ⟨#[115, 117, 98, 115]⟩, .string ⟨#[115, 101, 115, 115, 105, 111, 110, 115]⟩, .string ⟨#[99, 97, 108, 108, 115]⟩]) (by simp [results, Tryd.results30, go_sem, *]) rfl ⟨rfl, (by repeat' (first | with_reducible exact hb0 | with_reducible refine Below.drew ?_ | with_reducible refine below_drewN ?_ _ | with_reducible refine Below.alloc ?_ (by have := hb0.size; first | (simp; done) | (simp; omega) | omega) _ | with_reducible refine Below.setCell ?_ (by first | (simp; done) | (simp; omega) | omega) _))⟩

def textR (E : Int) (L : Lim) (s : Int) (ps : Peers) : ByteArray × Int := if E = 0 then (⟨(textL L s ps).toArray⟩, 0) else (⟨#[]⟩, E)
set_option maxRecDepth 100000 in
set_option maxHeartbeats 8000000 in
theorem Text_any (l0 l1 l2 l3 l4 l5 l6 l7 l8 : Int) (s : Int) (ps : Peers) (a : Option Addr) (c : Nat) (w : World) (hS : SIn w s ps a) (E : Int) (hE : chkS (⟨l0, l1, l2, l3, l4, l5, l6, l7, l8⟩ : Lim) s ps = E) (htab : ∀ W, Below w.heap.size w W → Lib.TabIs Tryd.prog W "internal/strconv.uint64pow10" .u64 Lib.pow10Tab) :
    Calls Tryd.prog 10 #[.agg #[.int .i64 l0, .int .i64 l1, .int .i64 l2, .int .i64 l3, .int .i64 l4, .int .i64 l5, .int .i64 l6, .int .i64 l7, .int .i64 l8, .int .u32 s, .slice a ps.length c]] w fun e w' =>
      RetSI e (textR E (⟨l0, l1, l2, l3, l4, l5, l6, l7, l8⟩ : Lim) s ps) ∧ Below w.heap.size w w' := by
  have hchk := fun W (h : SIn W s ps a) => hE ▸ Check_any l0 l1 l2 l3 l4 l5 l6 l7 l8 s ps a c W h.cells h.s0 h.s4 h.keys h.ml
  by_cases h0 : E = 0
  · subst h0
    have hcv := CV.of hE
    have hwds := fun W => (words_any W).mono fun e w' h => (show e = .returned (.agg #[.string ⟨#[119, 111, 114, 107, 101, 114, 115]⟩, .string ⟨#[115, 104, 97, 114, 100, 115]⟩, .string ⟨#[115, 116, 111, 114, 101]⟩, .string ⟨#[112, 101, 110, 100, 105, 110, 103]⟩, .string ⟨#[105, 110, 98, 111, 120]⟩, .string ⟨#[113, 117, 101, 117, 101]⟩, .string ⟨#[115, 117, 98, 115]⟩, .string ⟨#[115, 101, 115, 115, 105, 111, 110, 115]⟩, .string ⟨#[99, 97, 108, 108, 115]⟩]) ∧ Below W.heap.size W w' ∧ Below W.heap.size W w' from ⟨h.1, h.2, h.2⟩)
    have hrow := fun W => (row_any l0 l1 l2 l3 l4 l5 l6 l7 l8 W).mono fun e w' h => (show e = .returned (.agg #[.int .i64 l0, .int .i64 l1, .int .i64 l2, .int .i64 l3, .int .i64 l4, .int .i64 l5, .int .i64 l6, .int .i64 l7, .int .i64 l8]) ∧ Below W.heap.size W w' ∧ Below W.heap.size W w' from ⟨h.1, h.2, h.2⟩)
    have hs0 := hS.s0
    have hs4 := hS.s4
    have hw64 : IntKind.u64.wrap s = s := by rw [IntKind.wrap_u64]; omega
    have hfu : ∀ W, Below w.heap.size w W → Calls Tryd.prog 34 #[.int .u64 s, .int .i64 10] W fun e w' => e = .returned (.string ⟨(Lib.decDigits s.toNat).toArray⟩) ∧ Below W.heap.size W w' := fun W hb => by
      have := fmtUint_any s.toNat (by omega) W (htab W hb)
      rwa [Int.toNat_of_nonneg hs0] at this
    obtain ⟨L, hL⟩ : ∃ L, L = (⟨l0, l1, l2, l3, l4, l5, l6, l7, l8⟩ : Lim) := ⟨_, rfl⟩
    have hidx : ∀ (k : Nat) W, k < 9 → (Instr.index 73 (.agg #[.int .i64 l0, .int .i64 l1, .int .i64 l2, .int .i64 l3, .int .i64 l4, .int .i64 l5, .int .i64 l6, .int .i64 l7, .int .i64 l8]) (.int .i64 k)).run Tryd.prog W = .ok (.int .i64 (L.l[k]?.getD 0)) W := fun k W h => hL ▸ limIdx l0 l1 l2 l3 l4 l5 l6 l7 l8 W k h
    have hfit : fitB L = true := hL ▸ hcv.fit
    rw [← hL]
    have Hc0 := hid hS.cells
    have hkeys := hS.keys
    have hnm : ∀ k, k < ps.length → (nm ps k).size ≤ 12 := fun k hk => by
      have h1 : vP (nm ps k, pu ps k) = true := by
        cases h2 : vP (nm ps k, pu ps k)
        · have := any_at hk h2
          rw [hcv.ok] at this; cases this
        · rfl
      unfold vP at h1
      rw [Bool.and_eq_true] at h1
      exact okN_le h1.1
    have hfuq : ∀ (q : Int), 0 ≤ q → q < 4294967296 → ∀ W, Below w.heap.size w W → Calls Tryd.prog 34 #[.int .u64 q, .int .i64 10] W fun e w' => e = .returned (.string ⟨(Lib.decDigits q.toNat).toArray⟩) ∧ Below W.heap.size W w' := fun q h0 h4 W hb => by
      have := fmtUint_any q.toNat (by omega) W (htab W hb)
      rwa [Int.toNat_of_nonneg h0] at this
    have hpl8 := hcv.len
    have H_hE := Box.mk hE
    have H_hcv := Box.mk hcv
    have H_hidx := Box.mk hidx
    have H_hfit := Box.mk hfit
    have H_hL := Box.mk hL
    have H_hfu := Box.mk hfu
    have H_hkeys := Box.mk hkeys
    have H_hnm := Box.mk hnm
    have H_hfuq := Box.mk hfuq
    clear hE hcv hidx hfit hL hfu hkeys hnm hfuq
    go_enter Tryd.func10, Tryd.ntmps10
    have hb0 := Below.refl w.heap.size w
    go_wp2_with fail
    with_reducible refine (hchk _ (hS.alloc _)).mono ?_
    rintro e w1 ⟨rfl, hc1⟩
    have hb1 : Below w.heap.size w w1 := bchain (by repeat' (first | with_reducible exact hb0 | with_reducible refine Below.drew ?_ | with_reducible refine below_drewN ?_ _ | with_reducible refine Below.alloc ?_ (by have := hb0.size; first | (simp; done) | (simp; omega) | omega) _ | with_reducible refine Below.setCell ?_ (by first | (simp; done) | (simp; omega) | omega) _)) hc1
    have hst1 : Below w.heap.size w w1 := bchain (by repeat' (first | with_reducible exact Below.refl _ _ | with_reducible refine Below.drew ?_ | with_reducible refine below_drewN ?_ _ | with_reducible refine Below.alloc ?_ (by first | (simp; done) | (simp; omega) | omega) _ | with_reducible refine Below.setCell ?_ (by first | (simp; done) | (simp; omega) | omega) _)) hc1
    have X_0 : w1.cell? ⟨w.heap.size, 0, none⟩ = some (.int .i64 l0) := (hc1.cell (p := ⟨w.heap.size, 0, none⟩) (by first | (simp; done) | (simp; omega))).trans (by first | (simp; done) | go_simp)
    have X_1 : w1.cell? ⟨w.heap.size, 1, none⟩ = some (.int .i64 l1) := (hc1.cell (p := ⟨w.heap.size, 1, none⟩) (by first | (simp; done) | (simp; omega))).trans (by first | (simp; done) | go_simp)
    have X_2 : w1.cell? ⟨w.heap.size, 2, none⟩ = some (.int .i64 l2) := (hc1.cell (p := ⟨w.heap.size, 2, none⟩) (by first | (simp; done) | (simp; omega))).trans (by first | (simp; done) | go_simp)
    have X_3 : w1.cell? ⟨w.heap.size, 3, none⟩ = some (.int .i64 l3) := (hc1.cell (p := ⟨w.heap.size, 3, none⟩) (by first | (simp; done) | (simp; omega))).trans (by first | (simp; done) | go_simp)
    have X_4 : w1.cell? ⟨w.heap.size, 4, none⟩ = some (.int .i64 l4) := (hc1.cell (p := ⟨w.heap.size, 4, none⟩) (by first | (simp; done) | (simp; omega))).trans (by first | (simp; done) | go_simp)
    have X_5 : w1.cell? ⟨w.heap.size, 5, none⟩ = some (.int .i64 l5) := (hc1.cell (p := ⟨w.heap.size, 5, none⟩) (by first | (simp; done) | (simp; omega))).trans (by first | (simp; done) | go_simp)
    have X_6 : w1.cell? ⟨w.heap.size, 6, none⟩ = some (.int .i64 l6) := (hc1.cell (p := ⟨w.heap.size, 6, none⟩) (by first | (simp; done) | (simp; omega))).trans (by first | (simp; done) | go_simp)
    have X_7 : w1.cell? ⟨w.heap.size, 7, none⟩ = some (.int .i64 l7) := (hc1.cell (p := ⟨w.heap.size, 7, none⟩) (by first | (simp; done) | (simp; omega))).trans (by first | (simp; done) | go_simp)
    have X_8 : w1.cell? ⟨w.heap.size, 8, none⟩ = some (.int .i64 l8) := (hc1.cell (p := ⟨w.heap.size, 8, none⟩) (by first | (simp; done) | (simp; omega))).trans (by first | (simp; done) | go_simp)
    have X_9 : w1.cell? ⟨w.heap.size, 9, none⟩ = some (.int .u32 s) := (hc1.cell (p := ⟨w.heap.size, 9, none⟩) (by first | (simp; done) | (simp; omega))).trans (by first | (simp; done) | go_simp)
    have X_10 : w1.cell? ⟨w.heap.size, 10, none⟩ = some (.slice a ps.length c) := (hc1.cell (p := ⟨w.heap.size, 10, none⟩) (by first | (simp; done) | (simp; omega))).trans (by first | (simp; done) | go_simp)
    have X_l : w.heap.size < w1.heap.size := Nat.lt_of_lt_of_le (by first | (simp; done) | (simp; omega)) hc1.size
    replace hS := hS.later hst1
    clear hst1
    clear hc1 hb0
    have hb0' := BufIn.fresh w1
    have H_zX := Box.mk X_l
    go_wp2_with fail
    with_reducible refine (hwds _).mono ?_
    rintro e w2 ⟨rfl, hk2, hc2⟩
    have hb2 : Below w.heap.size w w2 := bchain (by repeat' (first | with_reducible exact hb1 | with_reducible refine Below.drew ?_ | with_reducible refine below_drewN ?_ _ | with_reducible refine Below.alloc ?_ (by have := hb1.size; first | (simp; done) | (simp; omega) | omega) _ | with_reducible refine Below.setCell ?_ (by first | (simp; done) | (simp; omega) | omega) _)) hc2
    have hst2 : Below w1.heap.size w1 w2 := bchain (by repeat' (first | with_reducible exact Below.refl _ _ | with_reducible refine Below.drew ?_ | with_reducible refine below_drewN ?_ _ | with_reducible refine Below.alloc ?_ (by first | (simp; done) | (simp; omega) | omega) _ | with_reducible refine Below.setCell ?_ (by first | (simp; done) | (simp; omega) | omega) _)) hc2
    replace X_0 := cell_later hst2 X_0
    replace X_1 := cell_later hst2 X_1
    replace X_2 := cell_later hst2 X_2
    replace X_3 := cell_later hst2 X_3
    replace X_4 := cell_later hst2 X_4
    replace X_5 := cell_later hst2 X_5
    replace X_6 := cell_later hst2 X_6
    replace X_7 := cell_later hst2 X_7
    replace X_8 := cell_later hst2 X_8
    replace X_9 := cell_later hst2 X_9
    replace X_10 := cell_later hst2 X_10
    replace X_l := Nat.lt_of_lt_of_le X_l hst2.size
    replace hS := hS.later hst2
    clear hst2
    clear hc2 hb1
    have hbuf := hb0'.later hk2
    have H_z2 := Box.mk hk2.size
    clear hb0' hk2
    go_wp2_with fail
    with_reducible refine (hrow _).mono ?_
    rintro e w3 ⟨rfl, hk3, hc3⟩
    have hb3 : Below w.heap.size w w3 := bchain (by repeat' (first | with_reducible exact hb2 | with_reducible refine Below.drew ?_ | with_reducible refine below_drewN ?_ _ | with_reducible refine Below.alloc ?_ (by have := hb2.size; first | (simp; done) | (simp; omega) | omega) _ | with_reducible refine Below.setCell ?_ (by first | (simp; done) | (simp; omega) | omega) _)) hc3
    have hst3 : Below w2.heap.size w2 w3 := bchain (by repeat' (first | with_reducible exact Below.refl _ _ | with_reducible refine Below.drew ?_ | with_reducible refine below_drewN ?_ _ | with_reducible refine Below.alloc ?_ (by first | (simp; done) | (simp; omega) | omega) _ | with_reducible refine Below.setCell ?_ (by first | (simp; done) | (simp; omega) | omega) _)) hc3
    replace X_0 := cell_later hst3 X_0
    replace X_1 := cell_later hst3 X_1
    replace X_2 := cell_later hst3 X_2
    replace X_3 := cell_later hst3 X_3
    replace X_4 := cell_later hst3 X_4
    replace X_5 := cell_later hst3 X_5
    replace X_6 := cell_later hst3 X_6
    replace X_7 := cell_later hst3 X_7
    replace X_8 := cell_later hst3 X_8
    replace X_9 := cell_later hst3 X_9
    replace X_10 := cell_later hst3 X_10
    replace X_l := Nat.lt_of_lt_of_le X_l hst3.size
    have Wd_0 : w3.cell? ⟨w2.heap.size, 0, none⟩ = some (.string ⟨#[119, 111, 114, 107, 101, 114, 115]⟩) := (hc3.cell (p := ⟨w2.heap.size, 0, none⟩) (by first | (simp; done) | (simp; omega))).trans (by first | (simp; done) | go_simp)
    have Wd_1 : w3.cell? ⟨w2.heap.size, 1, none⟩ = some (.string ⟨#[115, 104, 97, 114, 100, 115]⟩) := (hc3.cell (p := ⟨w2.heap.size, 1, none⟩) (by first | (simp; done) | (simp; omega))).trans (by first | (simp; done) | go_simp)
    have Wd_2 : w3.cell? ⟨w2.heap.size, 2, none⟩ = some (.string ⟨#[115, 116, 111, 114, 101]⟩) := (hc3.cell (p := ⟨w2.heap.size, 2, none⟩) (by first | (simp; done) | (simp; omega))).trans (by first | (simp; done) | go_simp)
    have Wd_3 : w3.cell? ⟨w2.heap.size, 3, none⟩ = some (.string ⟨#[112, 101, 110, 100, 105, 110, 103]⟩) := (hc3.cell (p := ⟨w2.heap.size, 3, none⟩) (by first | (simp; done) | (simp; omega))).trans (by first | (simp; done) | go_simp)
    have Wd_4 : w3.cell? ⟨w2.heap.size, 4, none⟩ = some (.string ⟨#[105, 110, 98, 111, 120]⟩) := (hc3.cell (p := ⟨w2.heap.size, 4, none⟩) (by first | (simp; done) | (simp; omega))).trans (by first | (simp; done) | go_simp)
    have Wd_5 : w3.cell? ⟨w2.heap.size, 5, none⟩ = some (.string ⟨#[113, 117, 101, 117, 101]⟩) := (hc3.cell (p := ⟨w2.heap.size, 5, none⟩) (by first | (simp; done) | (simp; omega))).trans (by first | (simp; done) | go_simp)
    have Wd_6 : w3.cell? ⟨w2.heap.size, 6, none⟩ = some (.string ⟨#[115, 117, 98, 115]⟩) := (hc3.cell (p := ⟨w2.heap.size, 6, none⟩) (by first | (simp; done) | (simp; omega))).trans (by first | (simp; done) | go_simp)
    have Wd_7 : w3.cell? ⟨w2.heap.size, 7, none⟩ = some (.string ⟨#[115, 101, 115, 115, 105, 111, 110, 115]⟩) := (hc3.cell (p := ⟨w2.heap.size, 7, none⟩) (by first | (simp; done) | (simp; omega))).trans (by first | (simp; done) | go_simp)
    have Wd_8 : w3.cell? ⟨w2.heap.size, 8, none⟩ = some (.string ⟨#[99, 97, 108, 108, 115]⟩) := (hc3.cell (p := ⟨w2.heap.size, 8, none⟩) (by first | (simp; done) | (simp; omega))).trans (by first | (simp; done) | go_simp)
    have Wd_l : w2.heap.size < w3.heap.size := Nat.lt_of_lt_of_le (by first | (simp; done) | (simp; omega)) hc3.size
    replace hS := hS.later hst3
    clear hst3
    clear hc3 hb2
    replace hbuf := hbuf.later (bchain (by repeat' (first | with_reducible exact Below.refl _ _ | with_reducible refine Below.alloc ?_ (Nat.le_refl _) _)) hk3)
    have hWB : Blk w3 w2.heap.size 71 (wordsB.map Value.string) := (Blk.newA w2 w2.heap.size _ 71 (wordsB.map Value.string) rfl rfl).later hk3
    have H_z3 := Box.mk hk3.size
    clear hk3
    obtain ⟨b, hb⟩ : ∃ b, w1.heap.size = b := ⟨_, rfl⟩
    obtain ⟨d, hd⟩ : ∃ d, w2.heap.size = d := ⟨_, rfl⟩
    have hbd : w.heap.size < b := by rw [← hb]; exact H_zX.out
    have hblt : b < d := by have := H_z2.out; simp at this; omega
    have hne : d ≠ b := by omega
    go_wp2_with fail
    simp only [hb, hd] at *
    go_loopw [20] (fun i wr => ∃ k : Nat, k ≤ 9 ∧ i = .int .i64 k ∧ BufIn wr b (linesL L k) ∧ (linesL L k).length ≤ 100 * k ∧ Blk wr d 71 (wordsB.map Value.string) ∧ FromB wr b w3) (fun i _ => 9 - (intOf i).toNat)
    case atStart => exact ⟨0, Nat.zero_le _, rfl, hbuf, by simp [linesL], hWB, ⟨Below.refl _ _, by have h9 := hWB.lt; omega⟩⟩
    case round =>
      clear hbuf hWB
      obtain ⟨k, hk9, rfl, hbuf, hll, hWB, hbw⟩ := hrel
      by_cases hlt : k < 9
      · have hlt' : (k : Int) < 9 := by omega
        have hix := fun W => H_hidx.out k W hlt
        obtain ⟨n1, n40⟩ := fit_rng H_hfit.out hlt
        obtain ⟨N, hN⟩ : ∃ N : Nat, L.l[k]?.getD 0 = (N : Int) := ⟨(L.l[k]?.getD 0).toNat, by omega⟩
        have hwl := words_len k
        have cw : wr.cell? ⟨d, k, none⟩ = some (.string (wordsB[k]?.getD ⟨#[]⟩)) := hWB.cell (by
          rw [List.getElem?_map]
          have : k < wordsB.length := hlt
          rw [List.getElem?_eq_getElem this]; rfl)
        have hline : lineW L k = (wordsB[k]?.getD ⟨#[]⟩).data.toList ++ [32] ++ Lib.decDigits N ++ [10] := by unfold lineW; rw [hN]; rfl
        obtain ⟨wd, hwd⟩ : ∃ wd, wordsB[k]?.getD ⟨#[]⟩ = wd := ⟨_, rfl⟩
        rw [hwd] at hwl cw hline
        obtain ⟨D, hD⟩ : ∃ D : ByteArray, (⟨(Lib.decDigits N).toArray⟩ : ByteArray) = D := ⟨_, rfl⟩
        have hDl : D.size ≤ 20 := by
          rw [← hD]
          have := dec_len N (by omega)
          simpa [ByteArray.size] using this
        have hcall : ∀ W, Calls Tryd.prog 33 #[.int .i64 N] W fun e w' => e = .returned (.string D) ∧ Below W.heap.size W w' := fun W => hD ▸ itoa_any N (by omega) W
        simp only [hN] at hix
        have hcw : (wordsB.map Value.string)[k]? = some (.string wd) := by
          rw [List.getElem?_map]
          have : k < wordsB.length := hlt
          rw [List.getElem?_eq_getElem this, ← hwd, List.getElem?_eq_getElem this]; rfl
        have hbw2 : Below w.heap.size w wr := hb3.trans (hbw.h.mono (by omega))
        have hlen : (linesL L k ++ lineW L k).length ≤ 100 * (k + 1) := by
          rw [hline]
          have := dec_len N (by omega)
          have h2 : wd.data.toList.length = wd.size := Array.length_toList
          simp only [List.length_append, List.length_cons, List.length_nil]
          omega
        have H_hline := Box.mk hline
        have H_hwd := Box.mk hwd
        have H_hD := Box.mk hD
        have H_hN := Box.mk hN
        have H_hcall := Box.mk hcall
        have H_hcw := Box.mk hcw
        have H_hlen := Box.mk hlen
        clear hline hwd hD hN hcall hcw hlen
        clear cw
        go_wp2_with fail
        refine wp_gen fun w11 hc11 => ?_
        have hb11 : Below w.heap.size w w11 := bchain (by repeat' (first | with_reducible exact hbw2 | with_reducible refine Below.drew ?_ | with_reducible refine below_drewN ?_ _ | with_reducible refine Below.alloc ?_ (by have := hbw2.size; first | (simp; done) | (simp; omega) | omega) _ | with_reducible refine Below.setCell ?_ (by first | (simp; done) | (simp; omega) | omega) _)) hc11
        have hst11 : Below wr.heap.size wr w11 := bchain (by repeat' (first | with_reducible exact Below.refl _ _ | with_reducible refine Below.drew ?_ | with_reducible refine below_drewN ?_ _ | with_reducible refine Below.alloc ?_ (by first | (simp; done) | (simp; omega) | omega) _ | with_reducible refine Below.setCell ?_ (by first | (simp; done) | (simp; omega) | omega) _)) hc11
        replace hbuf := hbuf.later hst11
        replace hWB := hWB.later hst11
        replace hbw := hbw.later hst11
        clear hst11
        have KW := cell_on (hWB.cell H_hcw.out)
        refine wp_region_on_tail 8 (by kernel_rfl) (by kernel_rfl) ?_
        simp only [List.take_succ_cons, List.take_zero, List.drop_succ_cons, List.drop_zero]
        repeat (go_big_quiet_step ((first | (go_at_call 33; with_reducible exact calls_on (H_hcall.out _)))))
        refine wpQuiet_nil ?_
        intro w12 hc12
        have hb12 : Below w.heap.size w w12 := bchain (by repeat' (first | with_reducible exact hb11 | with_reducible refine Below.drew ?_ | with_reducible refine below_drewN ?_ _ | with_reducible refine Below.alloc ?_ (by have := hb11.size; first | (simp; done) | (simp; omega) | omega) _ | with_reducible refine Below.setCell ?_ (by first | (simp; done) | (simp; omega) | omega) _)) hc12
        have hst12 : Below w11.heap.size w11 w12 := bchain (by repeat' (first | with_reducible exact Below.refl _ _ | with_reducible refine Below.drew ?_ | with_reducible refine below_drewN ?_ _ | with_reducible refine Below.alloc ?_ (by first | (simp; done) | (simp; omega) | omega) _ | with_reducible refine Below.setCell ?_ (by first | (simp; done) | (simp; omega) | omega) _)) hc12
        replace hbuf := hbuf.later hst12
        replace hWB := hWB.later hst12
        replace hbw := hbw.later hst12
        clear hst12
        go_wp2_with fail
        refine (write_any b (linesL L k) _ _ hbuf ?_).mono ?_
        · rw [cat_size]; omega
        rintro e w13 ⟨rfl, hbuf2, hbB, hok⟩
        have hWB2 : Blk w13 d 71 (wordsB.map Value.string) := hok d _ hWB (by simpa using hne) (fun c fz h => by simp at h)
        have hbw3 := hbw.on hbB
        rw [cat_list, ← H_hD.out] at hbuf2
        have hl3 : linesL L k ++ (wd.data.toList ++ [32] ++ (⟨(Lib.decDigits N).toArray⟩ : ByteArray).data.toList ++ [10]) = linesL L (k + 1) := by rw [linesL_succ, H_hline.out]
        rw [hl3] at hbuf2
        have hl4 : (linesL L (k + 1)).length ≤ 100 * (k + 1) := by rw [linesL_succ]; exact H_hlen.out
        have hb13 : Below w.heap.size w w13 := hb3.trans (hbw3.h.mono (Nat.le_of_lt hbd))
        clear hl3 hbuf hWB hbw hok
        go_wp2_with fail
        go_roundw
        case rel => exact ⟨k + 1, hlt, by go_num, hbuf2, hl4, hWB2, hbw3⟩
        case measure => simp [intOf]; omega
      · obtain rfl : k = 9 := by omega
        clear hlt hk9 hWB
        have hbk : Below w.heap.size w wr := hb3.trans (hbw.h.mono (Nat.le_of_lt hbd))
        replace X_9 := (hbw.h.cell (p := ⟨w.heap.size, 9, none⟩) hbd).trans X_9
        replace X_10 := (hbw.h.cell (p := ⟨w.heap.size, 10, none⟩) hbd).trans X_10
        obtain ⟨D, hD⟩ : ∃ D : ByteArray, (⟨(Lib.decDigits s.toNat).toArray⟩ : ByteArray) = D := ⟨_, rfl⟩
        have hDl : D.size ≤ 20 := by
          rw [← hD]
          have := dec_len s.toNat (by have := hS.s4; omega)
          simpa [ByteArray.size] using this
        have hfu := H_hfu.out
        rw [hD] at hfu
        have H_hD := Box.mk hD
        clear hD
        go_wp2_with fail
        refine (hfu _ hbk).mono ?_
        rintro e w21 ⟨rfl, hc21⟩
        have hb21 : Below w.heap.size w w21 := bchain hbk hc21
        replace hbuf := hbuf.later hc21
        replace hbw := hbw.later hc21
        replace X_10 := cell_later hc21 X_10
        clear hc21
        go_wp2_with fail
        refine (write_any b (linesL L 9) _ _ hbuf ?_).mono ?_
        · rw [sec_size]; omega
        rintro e w22 ⟨rfl, hbuf2, hbB, -⟩
        replace hbw := hbw.on hbB
        rw [sec_list, ← H_hD.out] at hbuf2
        replace hbuf2 : BufIn w22 b (linesL L 9 ++ secL s) := hbuf2
        obtain ⟨base, hbase⟩ : ∃ base, linesL L 9 ++ secL s = base := ⟨_, rfl⟩
        have hbl : base.length ≤ 2000 := by
          have := dec_len s.toNat (by omega)
          rw [← hbase, List.length_append]
          unfold secL
          simp only [List.length_append, List.length_cons, List.length_nil]
          omega
        rw [hbase] at hbuf2
        replace X_10 := (hbB.cell (p := ⟨w.heap.size, 10, none⟩) hbd).trans X_10
        have hb22 : Below w.heap.size w w22 := hb3.trans (hbw.h.mono (Nat.le_of_lt hbd))
        clear hbuf hbB X_9
        have H_hbase := Box.mk hbase
        clear hbase
        go_wp2_with fail
        go_loopw [44] (fun i wr => ∃ k : Nat, k ≤ ps.length ∧ i = .int .i64 k ∧ BufIn wr b (base ++ (ps.take k).flatMap peerL) ∧ (base ++ (ps.take k).flatMap peerL).length ≤ 2000 + 100 * k ∧ FromB wr b w3) (fun i _ => ps.length - (intOf i).toNat)
        case atStart => exact ⟨0, Nat.zero_le _, rfl, by simpa using hbuf2, by simpa using hbl, hbw⟩
        case round =>
          clear hbuf2 hbw hb22
          obtain ⟨k, hkl, rfl, hbuf, hll, hbw⟩ := hrel
          have hbk : Below w.heap.size w wr := hb3.trans (hbw.h.mono (Nat.le_of_lt hbd))
          have hc := Hc0.out.later hbk
          by_cases hlt : k < ps.length
          · have hlt' : (k : Int) < (ps.length : Int) := by omega
            obtain ⟨b1, o1, rfl, g1, g2, hcell⟩ := hc.peers (by omega)
            obtain ⟨c0, c1⟩ := hcell k hlt
            have hkk := H_hkeys.out k hlt
            have hpl := peers_take hlt
            have hnl := H_hnm.out k hlt
            clear hcell hc
            obtain ⟨n, hn⟩ : ∃ n, nm ps k = n := ⟨_, rfl⟩
            obtain ⟨q, hq⟩ : ∃ q, pu ps k = q := ⟨_, rfl⟩
            rw [hn] at c0 hnl hpl
            rw [hq] at c1 hkk hpl
            obtain ⟨q0, q4⟩ := hkk
            have hw64q : IntKind.u64.wrap q = q := by rw [IntKind.wrap_u64]; omega
            have hfq := H_hfuq.out q q0 q4
            obtain ⟨D2, hD2⟩ : ∃ D : ByteArray, (⟨(Lib.decDigits q.toNat).toArray⟩ : ByteArray) = D := ⟨_, rfl⟩
            rw [hD2] at hfq
            have hDl2 : D2.size ≤ 20 := by
              rw [← hD2]
              have := dec_len q.toNat (by omega)
              simpa [ByteArray.size] using this
            have hlen : (base ++ (ps.take (k + 1)).flatMap peerL).length ≤ 2000 + 100 * (k + 1) := by
              have := dec_len q.toNat (by omega)
              have hll2 := hll
              rw [List.length_append] at hll2
              rw [hpl, List.length_append, List.length_append, peerL_len]
              omega
            have H_hpl := Box.mk hpl
            have H_hD2 := Box.mk hD2
            have H_hn := Box.mk hn
            have H_hq := Box.mk hq
            have H_hfq := Box.mk hfq
            have H_hlen := Box.mk hlen
            clear hpl hD2 hn hq hfq hlen
            go_wp2_with fail
            refine wp_gen fun w31 hc31 => ?_
            have hb31 : Below w.heap.size w w31 := bchain (by repeat' (first | with_reducible exact hbk | with_reducible refine Below.drew ?_ | with_reducible refine below_drewN ?_ _ | with_reducible refine Below.alloc ?_ (by have := hbk.size; first | (simp; done) | (simp; omega) | omega) _ | with_reducible refine Below.setCell ?_ (by first | (simp; done) | (simp; omega) | omega) _)) hc31
            have hst31 : Below wr.heap.size wr w31 := bchain (by repeat' (first | with_reducible exact Below.refl _ _ | with_reducible refine Below.drew ?_ | with_reducible refine below_drewN ?_ _ | with_reducible refine Below.alloc ?_ (by first | (simp; done) | (simp; omega) | omega) _ | with_reducible refine Below.setCell ?_ (by first | (simp; done) | (simp; omega) | omega) _)) hc31
            have Q_0 : w31.cell? ⟨wr.heap.size, 0, none⟩ = some (.string n) := (hc31.cell (p := ⟨wr.heap.size, 0, none⟩) (by first | (simp; done) | (simp; omega))).trans (by first | (simp; done) | go_simp)
            have Q_1 : w31.cell? ⟨wr.heap.size, 1, none⟩ = some (.int .u32 q) := (hc31.cell (p := ⟨wr.heap.size, 1, none⟩) (by first | (simp; done) | (simp; omega))).trans (by first | (simp; done) | go_simp)
            have Q_l : wr.heap.size < w31.heap.size := Nat.lt_of_lt_of_le (by first | (simp; done) | (simp; omega)) hc31.size
            replace hbuf := hbuf.later hst31
            replace hbw := hbw.later hst31
            clear hst31
            have KQ_0 := cell_on Q_0
            have KQ_1 := cell_on Q_1
            refine wp_region_on_tail 10 (by kernel_rfl) (by kernel_rfl) ?_
            simp only [List.take_succ_cons, List.take_zero, List.drop_succ_cons, List.drop_zero]
            repeat (go_big_quiet_step ((first | (go_at_call 34; with_reducible exact calls_on (H_hfq.out _ (bchain hb31 (below_later _ _)))))))
            refine wpQuiet_nil ?_
            intro w32 hc32
            clear KQ_0 KQ_1
            have hb32 : Below w.heap.size w w32 := bchain (by repeat' (first | with_reducible exact hb31 | with_reducible refine Below.drew ?_ | with_reducible refine below_drewN ?_ _ | with_reducible refine Below.alloc ?_ (by have := hb31.size; first | (simp; done) | (simp; omega) | omega) _ | with_reducible refine Below.setCell ?_ (by first | (simp; done) | (simp; omega) | omega) _)) hc32
            have hst32 : Below w31.heap.size w31 w32 := bchain (by repeat' (first | with_reducible exact Below.refl _ _ | with_reducible refine Below.drew ?_ | with_reducible refine below_drewN ?_ _ | with_reducible refine Below.alloc ?_ (by first | (simp; done) | (simp; omega) | omega) _ | with_reducible refine Below.setCell ?_ (by first | (simp; done) | (simp; omega) | omega) _)) hc32
            replace Q_0 := cell_later hst32 Q_0
            replace Q_1 := cell_later hst32 Q_1
            replace Q_l := Nat.lt_of_lt_of_le Q_l hst32.size
            replace hbuf := hbuf.later hst32
            replace hbw := hbw.later hst32
            clear hst32
            go_wp2_with fail
            refine (write_any b (base ++ (ps.take k).flatMap peerL) _ _ hbuf ?_).mono ?_
            · rw [peer_size]; omega
            rintro e w33 ⟨rfl, hbuf2, hbB, -⟩
            replace hbw := hbw.on hbB
            rw [peer_list, ← H_hD2.out, List.append_assoc] at hbuf2
            have hl3 : (ps.take k).flatMap peerL ++ ([112, 101, 101, 114, 32] ++ n.data.toList ++ [32] ++ (⟨(Lib.decDigits q.toNat).toArray⟩ : ByteArray).data.toList ++ [10]) = (ps.take (k + 1)).flatMap peerL := H_hpl.out.symm
            rw [hl3] at hbuf2
            have hb33 : Below w.heap.size w w33 := hb3.trans (hbw.h.mono (Nat.le_of_lt hbd))
            clear hl3 hbuf hbB
            go_wp2_with fail
            go_roundw
            case rel => exact ⟨k + 1, hlt, by go_num, hbuf2, H_hlen.out, hbw⟩
            case measure => simp [intOf]; omega
          · obtain rfl : k = ps.length := by omega
            rw [List.take_length, ← H_hbase.out] at hbuf
            have hr : (⟨(linesL L 9 ++ (secL s ++ ps.flatMap peerL)).toArray⟩, 0) = textR 0 L s ps := by unfold textR textL; rw [if_pos rfl, List.append_assoc]
            have H_hr := Box.mk hr
            clear hr
            go_wp2_with fail
            refine (bufString_any b _ _ hbuf).mono ?_
            rintro e w41 ⟨rfl, hbB⟩
            have hb41 : Below w.heap.size w w41 := hbk.trans (hbB.mono (Nat.le_of_lt hbd))
            go_wp2_with fail
            go_ret2
            exact ⟨by rw [← H_hr.out]; exact rfl, (by repeat' (first | with_reducible exact hb41 | with_reducible refine Below.drew ?_ | with_reducible refine below_drewN ?_ _ | with_reducible refine Below.alloc ?_ (by have := hb41.size; first | (simp; done) | (simp; omega) | omega) _ | with_reducible refine Below.setCell ?_ (by first | (simp; done) | (simp; omega) | omega) _))⟩
  · have hr : (⟨#[]⟩, E) = textR E (⟨l0, l1, l2, l3, l4, l5, l6, l7, l8⟩ : Lim) s ps := by unfold textR; rw [if_neg h0]
    have b1 : (E != 0) = true := bne_iff_ne.2 h0
    have H_hE := Box.mk hE
    have H_hr := Box.mk hr
    clear hE hr
    go_enter Tryd.func10, Tryd.ntmps10
    have hb0 := Below.refl w.heap.size w
    go_wp2_with fail
    with_reducible refine (hchk _ (hS.alloc _)).mono ?_
    rintro e w1 ⟨rfl, hc1⟩
    have hb1 : Below w.heap.size w w1 := bchain (by repeat' (first | with_reducible exact hb0 | with_reducible refine Below.drew ?_ | with_reducible refine below_drewN ?_ _ | with_reducible refine Below.alloc ?_ (by have := hb0.size; first | (simp; done) | (simp; omega) | omega) _ | with_reducible refine Below.setCell ?_ (by first | (simp; done) | (simp; omega) | omega) _)) hc1
    have X_0 : w1.cell? ⟨w.heap.size, 0, none⟩ = some (.int .i64 l0) := (hc1.cell (p := ⟨w.heap.size, 0, none⟩) (by first | (simp; done) | (simp; omega))).trans (by first | (simp; done) | go_simp)
    have X_1 : w1.cell? ⟨w.heap.size, 1, none⟩ = some (.int .i64 l1) := (hc1.cell (p := ⟨w.heap.size, 1, none⟩) (by first | (simp; done) | (simp; omega))).trans (by first | (simp; done) | go_simp)
    have X_2 : w1.cell? ⟨w.heap.size, 2, none⟩ = some (.int .i64 l2) := (hc1.cell (p := ⟨w.heap.size, 2, none⟩) (by first | (simp; done) | (simp; omega))).trans (by first | (simp; done) | go_simp)
    have X_3 : w1.cell? ⟨w.heap.size, 3, none⟩ = some (.int .i64 l3) := (hc1.cell (p := ⟨w.heap.size, 3, none⟩) (by first | (simp; done) | (simp; omega))).trans (by first | (simp; done) | go_simp)
    have X_4 : w1.cell? ⟨w.heap.size, 4, none⟩ = some (.int .i64 l4) := (hc1.cell (p := ⟨w.heap.size, 4, none⟩) (by first | (simp; done) | (simp; omega))).trans (by first | (simp; done) | go_simp)
    have X_5 : w1.cell? ⟨w.heap.size, 5, none⟩ = some (.int .i64 l5) := (hc1.cell (p := ⟨w.heap.size, 5, none⟩) (by first | (simp; done) | (simp; omega))).trans (by first | (simp; done) | go_simp)
    have X_6 : w1.cell? ⟨w.heap.size, 6, none⟩ = some (.int .i64 l6) := (hc1.cell (p := ⟨w.heap.size, 6, none⟩) (by first | (simp; done) | (simp; omega))).trans (by first | (simp; done) | go_simp)
    have X_7 : w1.cell? ⟨w.heap.size, 7, none⟩ = some (.int .i64 l7) := (hc1.cell (p := ⟨w.heap.size, 7, none⟩) (by first | (simp; done) | (simp; omega))).trans (by first | (simp; done) | go_simp)
    have X_8 : w1.cell? ⟨w.heap.size, 8, none⟩ = some (.int .i64 l8) := (hc1.cell (p := ⟨w.heap.size, 8, none⟩) (by first | (simp; done) | (simp; omega))).trans (by first | (simp; done) | go_simp)
    have X_9 : w1.cell? ⟨w.heap.size, 9, none⟩ = some (.int .u32 s) := (hc1.cell (p := ⟨w.heap.size, 9, none⟩) (by first | (simp; done) | (simp; omega))).trans (by first | (simp; done) | go_simp)
    have X_10 : w1.cell? ⟨w.heap.size, 10, none⟩ = some (.slice a ps.length c) := (hc1.cell (p := ⟨w.heap.size, 10, none⟩) (by first | (simp; done) | (simp; omega))).trans (by first | (simp; done) | go_simp)
    have X_l : w.heap.size < w1.heap.size := Nat.lt_of_lt_of_le (by first | (simp; done) | (simp; omega)) hc1.size
    clear hc1 hb0
    go_wp2_with fail
    go_ret2
    exact ⟨by rw [← H_hr.out]; exact rfl, (by repeat' (first | with_reducible exact hb1 | with_reducible refine Below.drew ?_ | with_reducible refine below_drewN ?_ _ | with_reducible refine Below.alloc ?_ (by have := hb1.size; first | (simp; done) | (simp; omega) | omega) _ | with_reducible refine Below.setCell ?_ (by first | (simp; done) | (simp; omega) | omega) _))⟩
end Go.Proofs.YthdldmkeoglflaaDoor

/- The chapter's examples: alive. -/
namespace Go.Proofs.YthdldmkeoglflaaDoor
set_option linter.unusedSimpArgs false
set_option linter.unusedVariables false
set_option linter.unnecessarySimpa false
open Go.RowKit

set_option maxHeartbeats 1000000 in
theorem given_any (a : Option Addr) (n c : Nat) (w : World) :
    Calls Tryd.prog 18 #[.slice a n c] w fun e w' =>
      e = .returned (.agg #[.int .i64 2, .int .i64 2, .int .i64 2, .int .i64 2, .int .i64 2, .int .i64 2, .int .i64 2, .int .i64 2, .int .i64 2, .int .u32 5, .slice a n c]) ∧ Below w.heap.size w w' := by
  go_enter Tryd.func18, Tryd.ntmps18
  have hb0 := Below.refl w.heap.size w
  go_wp2_with fail
  refine bodyPost_ret (v := .agg #[.int .i64 2, .int .i64 2, .int .i64 2, .int .i64 2, .int .i64 2, .int .i64 2, .int .i64 2, .int .i64 2, .int .i64 2, .int .u32 5, .slice a n c]) (by simp [results, Tryd.results18, go_sem, *]) rfl ⟨rfl, (by repeat' (first | with_reducible exact hb0 | with_reducible refine Below.drew ?_ | with_reducible refine below_drewN ?_ _ | with_reducible refine Below.alloc ?_ (by have := hb0.size; first | (simp; done) | (simp; omega) | omega) _ | with_reducible refine Below.setCell ?_ (by first | (simp; done) | (simp; omega) | omega) _))⟩
def L2 : Lim := ⟨2, 2, 2, 2, 2, 2, 2, 2, 2⟩
theorem is_16 : isB 16 = true := isC 16 (by omega) (by omega) true (by decide +kernel)
theorem is_1024 : isB 1024 = true := isC 1024 (by omega) (by omega) true (by decide +kernel)
theorem pub_5 : pubK 5 = 1024 := by decide +kernel
theorem any_ok {n : ByteArray} {q : Int} (h1 : okN n = true) (h2 : isB q = true) : ([(n, q)].any fun p => !vP p) = false := by simp [vP, h1, h2]
theorem any_bad {n : ByteArray} {q : Int} (h2 : isB q = false) : ([(n, q)].any fun p => !vP p) = true := by simp [vP, h2]
theorem chk_1 : chkS ⟨2, 2, 2, 2, 2, 2, 2, 2, 2⟩ 5 [(⟨#[98]⟩, 16)] = 0 := chk_ok (by decide) (by decide) (by decide) (any_ok (by decide +kernel) is_16) (by decide) (by rw [pub_5]; decide)
theorem chk_2 : chkS ⟨2, 2, 2, 2, 2, 2, 2, 2, 2⟩ 5 [(⟨#[98]⟩, 1024)] = 14 := chk_dist (by decide) (by decide) (by decide) (any_ok (by decide +kernel) is_1024) (by decide) (by rw [pub_5]; decide)
theorem chk_3 : chkS ⟨2, 2, 2, 2, 2, 2, 2, 2, 2⟩ 5 [(⟨#[97]⟩, 1000000006)] = 8 := chk_bad (by decide) (by decide) (by decide) (any_bad is_m)
theorem cellsAt_two {w : World} {B : Nat} {u v : Value} (h0 : w.cell? ⟨B, 0, none⟩ = some u) (h1 : w.cell? ⟨B, 1, none⟩ = some v) : CellsAt w (some ⟨B, 0, none⟩) [u, v] :=
  .inr ⟨B, 0, rfl, fun j x hj => match j, hj with
    | 0, rfl => h0
    | 1, rfl => h1
    | j + 2, hj => by simp at hj⟩
theorem SIn.one (w : World) (b c : Nat) (n : ByteArray) (q : Int) (h0 : 0 ≤ q) (h4 : q < 4294967296) (hc : CellsAt w (some ⟨b, 0, none⟩) [.string n, .int .u32 q]) : SIn w 5 [(n, q)] (some ⟨b, 0, none⟩) :=
  ⟨by decide, by decide, hc, fun i hi => by
    obtain rfl : i = 0 := by simp at hi; omega
    exact ⟨h0, h4⟩, by simp⟩
set_option maxRecDepth 100000 in
set_option maxHeartbeats 8000000 in
theorem alive_any (w : World) (htab : ∀ W, Below w.heap.size w W → Lib.TabIs Tryd.prog W "internal/strconv.uint64pow10" .u64 Lib.pow10Tab) :
    Calls Tryd.prog 8 #[] w fun e w' =>
      e = .returned (.bool true) ∧ Below w.heap.size w w' := by
  obtain ⟨T, hT⟩ : ∃ T : ByteArray, (⟨(textL ⟨2, 2, 2, 2, 2, 2, 2, 2, 2⟩ 5 [(⟨#[98]⟩, 16)]).toArray⟩ : ByteArray) = T := ⟨_, rfl⟩
  have htx : ∀ W b c, Below w.heap.size w W → CellsAt W (some ⟨b, 0, none⟩) [.string ⟨#[98]⟩, .int .u32 16] → Calls Tryd.prog 10 #[.agg #[.int .i64 2, .int .i64 2, .int .i64 2, .int .i64 2, .int .i64 2, .int .i64 2, .int .i64 2, .int .i64 2, .int .i64 2, .int .u32 5, .slice (some ⟨b, 0, none⟩) 1 c]] W fun e w' => e = .returned (.tuple #[.string T, .int .i64 0]) ∧ Below W.heap.size W w' := fun W b c hb hc => by
    have := Text_any 2 2 2 2 2 2 2 2 2 5 [(⟨#[98]⟩, 16)] (some ⟨b, 0, none⟩) c W (SIn.one W b c _ _ (by omega) (by omega) hc) 0 chk_1 (fun W' hb' => htab W' (bchain hb hb'))
    unfold RetSI textR at this
    rw [if_pos rfl, hT] at this
    exact this
  have hpb : ∀ W b c, CellsAt W (some ⟨b, 0, none⟩) [.string ⟨#[98]⟩, .int .u32 16] → Calls Tryd.prog 23 #[.agg #[.int .i64 2, .int .i64 2, .int .i64 2, .int .i64 2, .int .i64 2, .int .i64 2, .int .i64 2, .int .i64 2, .int .i64 2, .int .u32 5, .slice (some ⟨b, 0, none⟩) 1 c]] W fun e w' => e = .returned (.tuple #[.int .u32 1024, .int .i64 0]) ∧ Below W.heap.size W w' := fun W b c hc => by
    have := Public_any 2 2 2 2 2 2 2 2 2 5 [(⟨#[98]⟩, 16)] (some ⟨b, 0, none⟩) c W (SIn.one W b c _ _ (by omega) (by omega) hc) 0 chk_1
    unfold pubR at this
    rw [if_pos rfl, pub_5] at this
    exact this
  have hc2 : ∀ W b c, CellsAt W (some ⟨b, 0, none⟩) [.string ⟨#[98]⟩, .int .u32 1024] → Calls Tryd.prog 11 #[.agg #[.int .i64 2, .int .i64 2, .int .i64 2, .int .i64 2, .int .i64 2, .int .i64 2, .int .i64 2, .int .i64 2, .int .i64 2, .int .u32 5, .slice (some ⟨b, 0, none⟩) 1 c]] W fun e w' => e = .returned (.int .i64 14) ∧ Below W.heap.size W w' := fun W b c hc => by
    have h := SIn.one W b c _ _ (by omega : (0 : Int) ≤ 1024) (by omega) hc
    have := Check_any 2 2 2 2 2 2 2 2 2 5 [(⟨#[98]⟩, 1024)] (some ⟨b, 0, none⟩) c W h.cells h.s0 h.s4 h.keys h.ml
    rw [chk_2] at this
    exact this
  have hc3 : ∀ W b c, CellsAt W (some ⟨b, 0, none⟩) [.string ⟨#[97]⟩, .int .u32 1000000006] → Calls Tryd.prog 11 #[.agg #[.int .i64 2, .int .i64 2, .int .i64 2, .int .i64 2, .int .i64 2, .int .i64 2, .int .i64 2, .int .i64 2, .int .i64 2, .int .u32 5, .slice (some ⟨b, 0, none⟩) 1 c]] W fun e w' => e = .returned (.int .i64 8) ∧ Below W.heap.size W w' := fun W b c hc => by
    have h := SIn.one W b c _ _ (by omega : (0 : Int) ≤ 1000000006) (by omega) hc
    have := Check_any 2 2 2 2 2 2 2 2 2 5 [(⟨#[97]⟩, 1000000006)] (some ⟨b, 0, none⟩) c W h.cells h.s0 h.s4 h.keys h.ml
    rw [chk_3] at this
    exact this
  have hTl : (T.toList == [119, 111, 114, 107, 101, 114, 115, 32, 50, 10, 115, 104, 97, 114, 100, 115, 32, 50, 10, 115, 116, 111, 114, 101, 32, 50, 10, 112, 101, 110, 100, 105, 110, 103, 32, 50, 10, 105, 110, 98, 111, 120, 32, 50, 10, 113, 117, 101, 117, 101, 32, 50, 10, 115, 117, 98, 115, 32, 50, 10, 115, 101, 115, 115, 105, 111, 110, 115, 32, 50, 10, 99, 97, 108, 108, 115, 32, 50, 10, 115, 101, 99, 114, 101, 116, 32, 53, 10, 112, 101, 101, 114, 32, 98, 32, 49, 54, 10]) = true := by
    rw [← hT, toList_d]
    decide +kernel
  have H_htx := Box.mk htx
  have H_hpb := Box.mk hpb
  have H_hc2 := Box.mk hc2
  have H_hc3 := Box.mk hc3
  have H_hT := Box.mk hT
  clear htx hpb hc2 hc3 hT
  go_enter Tryd.func8, Tryd.ntmps8
  have hb0 := Below.refl w.heap.size w
  go_wp2_with fail
  with_reducible refine (given_any (some ⟨w.heap.size, 0, none⟩) 1 1 _).mono ?_
  rintro e w1 ⟨rfl, hc1⟩
  have hb1 : Below w.heap.size w w1 := bchain (by repeat' (first | with_reducible exact hb0 | with_reducible refine Below.drew ?_ | with_reducible refine below_drewN ?_ _ | with_reducible refine Below.alloc ?_ (by have := hb0.size; first | (simp; done) | (simp; omega) | omega) _ | with_reducible refine Below.setCell ?_ (by first | (simp; done) | (simp; omega) | omega) _)) hc1
  have P_0 : w1.cell? ⟨w.heap.size, 0, none⟩ = some (.string ⟨#[98]⟩) := (hc1.cell (p := ⟨w.heap.size, 0, none⟩) (by first | (simp; done) | (simp; omega))).trans (by first | (simp; done) | go_simp)
  have P_1 : w1.cell? ⟨w.heap.size, 1, none⟩ = some (.int .u32 16) := (hc1.cell (p := ⟨w.heap.size, 1, none⟩) (by first | (simp; done) | (simp; omega))).trans (by first | (simp; done) | go_simp)
  have P_l : w.heap.size < w1.heap.size := Nat.lt_of_lt_of_le (by first | (simp; done) | (simp; omega)) hc1.size
  clear hc1 hb0
  have k1 := cellsAt_two P_0 P_1
  go_wp2_with fail
  with_reducible refine (H_htx.out _ _ _ (bchain hb1 ((Below.refl _ w1).alloc (Nat.le_refl _) _)) (k1.alloc _)).mono ?_
  rintro e w2 ⟨rfl, hc2⟩
  have hb2 : Below w.heap.size w w2 := bchain (by repeat' (first | with_reducible exact hb1 | with_reducible refine Below.drew ?_ | with_reducible refine below_drewN ?_ _ | with_reducible refine Below.alloc ?_ (by have := hb1.size; first | (simp; done) | (simp; omega) | omega) _ | with_reducible refine Below.setCell ?_ (by first | (simp; done) | (simp; omega) | omega) _)) hc2
  have hst2 : Below w1.heap.size w1 w2 := bchain (by repeat' (first | with_reducible exact Below.refl _ _ | with_reducible refine Below.drew ?_ | with_reducible refine below_drewN ?_ _ | with_reducible refine Below.alloc ?_ (by first | (simp; done) | (simp; omega) | omega) _ | with_reducible refine Below.setCell ?_ (by first | (simp; done) | (simp; omega) | omega) _)) hc2
  replace P_0 := cell_later hst2 P_0
  replace P_1 := cell_later hst2 P_1
  replace P_l := Nat.lt_of_lt_of_le P_l hst2.size
  have X_0 : w2.cell? ⟨w1.heap.size, 0, none⟩ = some (.int .i64 2) := (hc2.cell (p := ⟨w1.heap.size, 0, none⟩) (by first | (simp; done) | (simp; omega))).trans (by first | (simp; done) | go_simp)
  have X_1 : w2.cell? ⟨w1.heap.size, 1, none⟩ = some (.int .i64 2) := (hc2.cell (p := ⟨w1.heap.size, 1, none⟩) (by first | (simp; done) | (simp; omega))).trans (by first | (simp; done) | go_simp)
  have X_2 : w2.cell? ⟨w1.heap.size, 2, none⟩ = some (.int .i64 2) := (hc2.cell (p := ⟨w1.heap.size, 2, none⟩) (by first | (simp; done) | (simp; omega))).trans (by first | (simp; done) | go_simp)
  have X_3 : w2.cell? ⟨w1.heap.size, 3, none⟩ = some (.int .i64 2) := (hc2.cell (p := ⟨w1.heap.size, 3, none⟩) (by first | (simp; done) | (simp; omega))).trans (by first | (simp; done) | go_simp)
  have X_4 : w2.cell? ⟨w1.heap.size, 4, none⟩ = some (.int .i64 2) := (hc2.cell (p := ⟨w1.heap.size, 4, none⟩) (by first | (simp; done) | (simp; omega))).trans (by first | (simp; done) | go_simp)
  have X_5 : w2.cell? ⟨w1.heap.size, 5, none⟩ = some (.int .i64 2) := (hc2.cell (p := ⟨w1.heap.size, 5, none⟩) (by first | (simp; done) | (simp; omega))).trans (by first | (simp; done) | go_simp)
  have X_6 : w2.cell? ⟨w1.heap.size, 6, none⟩ = some (.int .i64 2) := (hc2.cell (p := ⟨w1.heap.size, 6, none⟩) (by first | (simp; done) | (simp; omega))).trans (by first | (simp; done) | go_simp)
  have X_7 : w2.cell? ⟨w1.heap.size, 7, none⟩ = some (.int .i64 2) := (hc2.cell (p := ⟨w1.heap.size, 7, none⟩) (by first | (simp; done) | (simp; omega))).trans (by first | (simp; done) | go_simp)
  have X_8 : w2.cell? ⟨w1.heap.size, 8, none⟩ = some (.int .i64 2) := (hc2.cell (p := ⟨w1.heap.size, 8, none⟩) (by first | (simp; done) | (simp; omega))).trans (by first | (simp; done) | go_simp)
  have X_9 : w2.cell? ⟨w1.heap.size, 9, none⟩ = some (.int .u32 5) := (hc2.cell (p := ⟨w1.heap.size, 9, none⟩) (by first | (simp; done) | (simp; omega))).trans (by first | (simp; done) | go_simp)
  have X_10 : w2.cell? ⟨w1.heap.size, 10, none⟩ = some (.slice (some ⟨w.heap.size, 0, none⟩) 1 1) := (hc2.cell (p := ⟨w1.heap.size, 10, none⟩) (by first | (simp; done) | (simp; omega))).trans (by first | (simp; done) | go_simp)
  have X_l : w1.heap.size < w2.heap.size := Nat.lt_of_lt_of_le (by first | (simp; done) | (simp; omega)) hc2.size
  replace k1 := k1.later hst2
  clear hst2
  clear hc2 hb1
  go_wp2_with fail
  with_reducible refine (H_hpb.out _ _ _ k1).mono ?_
  rintro e w3 ⟨rfl, hc3⟩
  have hb3 : Below w.heap.size w w3 := bchain (by repeat' (first | with_reducible exact hb2 | with_reducible refine Below.drew ?_ | with_reducible refine below_drewN ?_ _ | with_reducible refine Below.alloc ?_ (by have := hb2.size; first | (simp; done) | (simp; omega) | omega) _ | with_reducible refine Below.setCell ?_ (by first | (simp; done) | (simp; omega) | omega) _)) hc3
  have hst3 : Below w2.heap.size w2 w3 := bchain (by repeat' (first | with_reducible exact Below.refl _ _ | with_reducible refine Below.drew ?_ | with_reducible refine below_drewN ?_ _ | with_reducible refine Below.alloc ?_ (by first | (simp; done) | (simp; omega) | omega) _ | with_reducible refine Below.setCell ?_ (by first | (simp; done) | (simp; omega) | omega) _)) hc3
  replace P_0 := cell_later hst3 P_0
  replace P_1 := cell_later hst3 P_1
  replace P_l := Nat.lt_of_lt_of_le P_l hst3.size
  replace X_0 := cell_later hst3 X_0
  replace X_1 := cell_later hst3 X_1
  replace X_2 := cell_later hst3 X_2
  replace X_3 := cell_later hst3 X_3
  replace X_4 := cell_later hst3 X_4
  replace X_5 := cell_later hst3 X_5
  replace X_6 := cell_later hst3 X_6
  replace X_7 := cell_later hst3 X_7
  replace X_8 := cell_later hst3 X_8
  replace X_9 := cell_later hst3 X_9
  replace X_10 := cell_later hst3 X_10
  replace X_l := Nat.lt_of_lt_of_le X_l hst3.size
  replace k1 := k1.later hst3
  clear hst3
  clear hc3 hb2
  go_wp2_with fail
  with_reducible refine (given_any (some ⟨w3.heap.size, 0, none⟩) 1 1 _).mono ?_
  rintro e w4 ⟨rfl, hc4⟩
  have hb4 : Below w.heap.size w w4 := bchain (by repeat' (first | with_reducible exact hb3 | with_reducible refine Below.drew ?_ | with_reducible refine below_drewN ?_ _ | with_reducible refine Below.alloc ?_ (by have := hb3.size; first | (simp; done) | (simp; omega) | omega) _ | with_reducible refine Below.setCell ?_ (by first | (simp; done) | (simp; omega) | omega) _)) hc4
  have hst4 : Below w3.heap.size w3 w4 := bchain (by repeat' (first | with_reducible exact Below.refl _ _ | with_reducible refine Below.drew ?_ | with_reducible refine below_drewN ?_ _ | with_reducible refine Below.alloc ?_ (by first | (simp; done) | (simp; omega) | omega) _ | with_reducible refine Below.setCell ?_ (by first | (simp; done) | (simp; omega) | omega) _)) hc4
  replace P_0 := cell_later hst4 P_0
  replace P_1 := cell_later hst4 P_1
  replace P_l := Nat.lt_of_lt_of_le P_l hst4.size
  replace X_0 := cell_later hst4 X_0
  replace X_1 := cell_later hst4 X_1
  replace X_2 := cell_later hst4 X_2
  replace X_3 := cell_later hst4 X_3
  replace X_4 := cell_later hst4 X_4
  replace X_5 := cell_later hst4 X_5
  replace X_6 := cell_later hst4 X_6
  replace X_7 := cell_later hst4 X_7
  replace X_8 := cell_later hst4 X_8
  replace X_9 := cell_later hst4 X_9
  replace X_10 := cell_later hst4 X_10
  replace X_l := Nat.lt_of_lt_of_le X_l hst4.size
  have P2_0 : w4.cell? ⟨w3.heap.size, 0, none⟩ = some (.string ⟨#[98]⟩) := (hc4.cell (p := ⟨w3.heap.size, 0, none⟩) (by first | (simp; done) | (simp; omega))).trans (by first | (simp; done) | go_simp)
  have P2_1 : w4.cell? ⟨w3.heap.size, 1, none⟩ = some (.int .u32 1024) := (hc4.cell (p := ⟨w3.heap.size, 1, none⟩) (by first | (simp; done) | (simp; omega))).trans (by first | (simp; done) | go_simp)
  have P2_l : w3.heap.size < w4.heap.size := Nat.lt_of_lt_of_le (by first | (simp; done) | (simp; omega)) hc4.size
  replace k1 := k1.later hst4
  clear hst4
  clear hc4 hb3
  have k2 := cellsAt_two P2_0 P2_1
  go_wp2_with fail
  with_reducible refine (H_hc2.out _ _ _ k2).mono ?_
  rintro e w5 ⟨rfl, hc5⟩
  have hb5 : Below w.heap.size w w5 := bchain (by repeat' (first | with_reducible exact hb4 | with_reducible refine Below.drew ?_ | with_reducible refine below_drewN ?_ _ | with_reducible refine Below.alloc ?_ (by have := hb4.size; first | (simp; done) | (simp; omega) | omega) _ | with_reducible refine Below.setCell ?_ (by first | (simp; done) | (simp; omega) | omega) _)) hc5
  have hst5 : Below w4.heap.size w4 w5 := bchain (by repeat' (first | with_reducible exact Below.refl _ _ | with_reducible refine Below.drew ?_ | with_reducible refine below_drewN ?_ _ | with_reducible refine Below.alloc ?_ (by first | (simp; done) | (simp; omega) | omega) _ | with_reducible refine Below.setCell ?_ (by first | (simp; done) | (simp; omega) | omega) _)) hc5
  replace P_0 := cell_later hst5 P_0
  replace P_1 := cell_later hst5 P_1
  replace P_l := Nat.lt_of_lt_of_le P_l hst5.size
  replace X_0 := cell_later hst5 X_0
  replace X_1 := cell_later hst5 X_1
  replace X_2 := cell_later hst5 X_2
  replace X_3 := cell_later hst5 X_3
  replace X_4 := cell_later hst5 X_4
  replace X_5 := cell_later hst5 X_5
  replace X_6 := cell_later hst5 X_6
  replace X_7 := cell_later hst5 X_7
  replace X_8 := cell_later hst5 X_8
  replace X_9 := cell_later hst5 X_9
  replace X_10 := cell_later hst5 X_10
  replace X_l := Nat.lt_of_lt_of_le X_l hst5.size
  replace P2_0 := cell_later hst5 P2_0
  replace P2_1 := cell_later hst5 P2_1
  replace P2_l := Nat.lt_of_lt_of_le P2_l hst5.size
  replace k1 := k1.later hst5
  clear hst5
  clear hc5 hb4
  go_wp2_with fail
  with_reducible refine (given_any (some ⟨w5.heap.size, 0, none⟩) 1 1 _).mono ?_
  rintro e w6 ⟨rfl, hc6⟩
  have hb6 : Below w.heap.size w w6 := bchain (by repeat' (first | with_reducible exact hb5 | with_reducible refine Below.drew ?_ | with_reducible refine below_drewN ?_ _ | with_reducible refine Below.alloc ?_ (by have := hb5.size; first | (simp; done) | (simp; omega) | omega) _ | with_reducible refine Below.setCell ?_ (by first | (simp; done) | (simp; omega) | omega) _)) hc6
  have hst6 : Below w5.heap.size w5 w6 := bchain (by repeat' (first | with_reducible exact Below.refl _ _ | with_reducible refine Below.drew ?_ | with_reducible refine below_drewN ?_ _ | with_reducible refine Below.alloc ?_ (by first | (simp; done) | (simp; omega) | omega) _ | with_reducible refine Below.setCell ?_ (by first | (simp; done) | (simp; omega) | omega) _)) hc6
  replace P_0 := cell_later hst6 P_0
  replace P_1 := cell_later hst6 P_1
  replace P_l := Nat.lt_of_lt_of_le P_l hst6.size
  replace X_0 := cell_later hst6 X_0
  replace X_1 := cell_later hst6 X_1
  replace X_2 := cell_later hst6 X_2
  replace X_3 := cell_later hst6 X_3
  replace X_4 := cell_later hst6 X_4
  replace X_5 := cell_later hst6 X_5
  replace X_6 := cell_later hst6 X_6
  replace X_7 := cell_later hst6 X_7
  replace X_8 := cell_later hst6 X_8
  replace X_9 := cell_later hst6 X_9
  replace X_10 := cell_later hst6 X_10
  replace X_l := Nat.lt_of_lt_of_le X_l hst6.size
  replace P2_0 := cell_later hst6 P2_0
  replace P2_1 := cell_later hst6 P2_1
  replace P2_l := Nat.lt_of_lt_of_le P2_l hst6.size
  have P3_0 : w6.cell? ⟨w5.heap.size, 0, none⟩ = some (.string ⟨#[97]⟩) := (hc6.cell (p := ⟨w5.heap.size, 0, none⟩) (by first | (simp; done) | (simp; omega))).trans (by first | (simp; done) | go_simp)
  have P3_1 : w6.cell? ⟨w5.heap.size, 1, none⟩ = some (.int .u32 1000000006) := (hc6.cell (p := ⟨w5.heap.size, 1, none⟩) (by first | (simp; done) | (simp; omega))).trans (by first | (simp; done) | go_simp)
  have P3_l : w5.heap.size < w6.heap.size := Nat.lt_of_lt_of_le (by first | (simp; done) | (simp; omega)) hc6.size
  replace k1 := k1.later hst6
  clear hst6
  clear hc6 hb5
  have k3 := cellsAt_two P3_0 P3_1
  go_wp2_with fail
  with_reducible refine (H_hc3.out _ _ _ k3).mono ?_
  rintro e w7 ⟨rfl, hc7⟩
  have hb7 : Below w.heap.size w w7 := bchain (by repeat' (first | with_reducible exact hb6 | with_reducible refine Below.drew ?_ | with_reducible refine below_drewN ?_ _ | with_reducible refine Below.alloc ?_ (by have := hb6.size; first | (simp; done) | (simp; omega) | omega) _ | with_reducible refine Below.setCell ?_ (by first | (simp; done) | (simp; omega) | omega) _)) hc7
  have hst7 : Below w6.heap.size w6 w7 := bchain (by repeat' (first | with_reducible exact Below.refl _ _ | with_reducible refine Below.drew ?_ | with_reducible refine below_drewN ?_ _ | with_reducible refine Below.alloc ?_ (by first | (simp; done) | (simp; omega) | omega) _ | with_reducible refine Below.setCell ?_ (by first | (simp; done) | (simp; omega) | omega) _)) hc7
  replace P_0 := cell_later hst7 P_0
  replace P_1 := cell_later hst7 P_1
  replace P_l := Nat.lt_of_lt_of_le P_l hst7.size
  replace X_0 := cell_later hst7 X_0
  replace X_1 := cell_later hst7 X_1
  replace X_2 := cell_later hst7 X_2
  replace X_3 := cell_later hst7 X_3
  replace X_4 := cell_later hst7 X_4
  replace X_5 := cell_later hst7 X_5
  replace X_6 := cell_later hst7 X_6
  replace X_7 := cell_later hst7 X_7
  replace X_8 := cell_later hst7 X_8
  replace X_9 := cell_later hst7 X_9
  replace X_10 := cell_later hst7 X_10
  replace X_l := Nat.lt_of_lt_of_le X_l hst7.size
  replace P2_0 := cell_later hst7 P2_0
  replace P2_1 := cell_later hst7 P2_1
  replace P2_l := Nat.lt_of_lt_of_le P2_l hst7.size
  replace P3_0 := cell_later hst7 P3_0
  replace P3_1 := cell_later hst7 P3_1
  replace P3_l := Nat.lt_of_lt_of_le P3_l hst7.size
  replace k1 := k1.later hst7
  clear hst7
  clear hc7 hb6
  go_wp2_with fail
  go_ret
  exact ⟨rfl, (by repeat' (first | with_reducible exact hb7 | with_reducible refine Below.drew ?_ | with_reducible refine below_drewN ?_ _ | with_reducible refine Below.alloc ?_ (by have := hb7.size; first | (simp; done) | (simp; omega) | omega) _ | with_reducible refine Below.setCell ?_ (by first | (simp; done) | (simp; omega) | omega) _))⟩
end Go.Proofs.YthdldmkeoglflaaDoor
