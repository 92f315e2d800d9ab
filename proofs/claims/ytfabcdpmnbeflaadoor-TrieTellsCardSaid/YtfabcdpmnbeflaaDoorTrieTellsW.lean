/- TrieTells: Check, Bit, Root, Split and Prove return what the reference returns. -/
import Derived.Test.YtfabcdpmnbeflaaDoorTrieE
namespace Go.Proofs.YtfabcdpmnbeflaaDoor
set_option linter.unusedSimpArgs false
set_option linter.unusedVariables false
set_option linter.unnecessarySimpa false
open Go.RowKit Go.Sort
set_option maxRecDepth 100000

theorem provP_facts (id : List Int) : ∀ (m : Nat) (l : List (List Int)), l.length ≤ m → IncL l → 0 < l.length → (provP l id).bits.length = (provP l id).beside.length ∧ (provP l id).bits.length < l.length ∧ (provP l id).only ∈ l := by
  intro m
  induction m with
  | zero => intro l hm _ h0; omega
  | succ m ih =>
    intro l hm hinc h0
    by_cases h1 : l.length = 1
    · match l, h1 with
      | [x], _ => rw [provP_one]; simp
    · have hC := hinc.cutF (by omega)
      rw [provP_two hC rfl]
      obtain ⟨hN, cat, ez, eo, zl, ol, sum, iz, io, ap, root⟩ := hC
      have hz := ih (zerosL l (splitN l)) (by omega) iz zl
      have ho := ih (onesL l (splitN l)) (by omega) io ol
      split
      · refine ⟨by simp [ho.1], by simp; omega, ?_⟩
        exact (List.mem_filter.1 ho.2.2).1
      · refine ⟨by simp [hz.1], by simp; omega, ?_⟩
        exact (List.mem_filter.1 hz.2.2).1
theorem proveZ_facts (l : List (List Int)) (id : List Int) (h : ∀ x ∈ l, IdIn x) : (proveZ l id).pr.bits.length ≤ 60 ∧ (proveZ l id).pr.beside.length ≤ 60 ∧ IdIn (proveZ l id).pr.only := by
  unfold proveZ
  by_cases hz : chkZ l = 0
  · rw [if_neg (by omega)]
    obtain ⟨hinc, hl⟩ := inc_of_chk h hz
    split
    · exact ⟨by simp [proofE], by simp [proofE], zeroIdIn⟩
    · obtain ⟨h1, h2, h3⟩ := provP_facts id l.length l (Nat.le_refl _) hinc (by omega)
      exact ⟨by simp; omega, by simp; omega, h _ h3⟩
  · rw [if_pos hz]
    exact ⟨by simp [proof0], by simp [proof0], zeroIdIn⟩
theorem splitZ_facts (l : List (List Int)) : (splitZ l).z.length ≤ l.length ∧ (splitZ l).o.length ≤ l.length := by
  unfold splitZ
  split
  · simp
  · split
    · simp
    · exact ⟨List.length_filter_le .., List.length_filter_le ..⟩
set_option maxHeartbeats 4000000 in
theorem tells_walk (l : List (List Int)) (a : Option Addr) (c : Nat) (id : List Int) (k : Int) (w : World) (h : IdsIn w a c l) (hm : l.length ≤ maxLen) (hid : IdIn id) (hk : (Lit.int .i64 k).wf = true) (hT : TabK w) :
    Calls Tryd.prog 3 #[.slice a l.length c, .agg (idC id).toArray, .int .i64 k] w fun e w' =>
      e = .returned (.bool true) ∧ Below w.heap.size w w' := by
  obtain ⟨j0, jif, jz0, jz1, jz2⟩ := info_parts info_id32
  obtain ⟨n, hn⟩ : ∃ n, n = l.length := ⟨_, rfl⟩
  rw [← hn]
  obtain ⟨ids, hids⟩ : ∃ v, v = idC (id) := ⟨_, rfl⟩
  have hidsl := idC_len hid
  have hidsi := idC_info hid
  have hidso := idC_one (id)
  rw [← hids] at hidsl hidsi hidso
  have hidsr : ids.length = (List.replicate 32 (Value.int .u8 0)).length := by rw [hidsl]; rfl
  cases hlg : longZ n with
  | true =>
    have hL := fun W => long_any a n c W
    simp only [hlg] at hL
    rw [← hids]
    have H_hL := Box.mk hL
    have H_hn := Box.mk hn
    have H_h := Box.mk h
    have H_hlg := Box.mk hlg
    have H_hids := Box.mk hids
    have H_hidsl := Box.mk hidsl
    have H_hidsi := Box.mk hidsi
    have H_hidso := Box.mk hidso
    have H_hidsr := Box.mk hidsr
    have H_hid := Box.mk hid
    have H_hT := Box.mk hT
    have H_jif := Box.mk jif
    have H_jz0 := Box.mk jz0
    have H_jz1 := Box.mk jz1
    have H_jz2 := Box.mk jz2
    clear hL hn h hlg hids hidsl hidsi hidso hidsr hid hT jif jz0 jz1 jz2
    clear hm
    go_enter Tryd.func3, Tryd.ntmps3
    have hb0 := Below.refl w.heap.size w
    go_wp2_with fail
    with_reducible refine (H_hL.out _).mono ?_
    rintro e w1 ⟨rfl, hc1⟩
    have hb1 : Below w.heap.size w w1 := bchain (by repeat' (first | with_reducible exact hb0 | with_reducible refine Below.drew ?_ | with_reducible refine below_drewN ?_ _ | with_reducible refine Below.alloc ?_ (by have := hb0.size; first | (simp; done) | (simp; omega) | omega) _ | with_reducible refine Below.setCell ?_ (by first | (simp; done) | (simp; omega) | omega) _)) hc1
    clear hc1 hb0
    go_wp2_with fail
    go_ret
    exact ⟨rfl, by repeat' (first | with_reducible exact hb1 | with_reducible refine Below.drew ?_ | with_reducible refine below_drewN ?_ _ | with_reducible refine Below.alloc ?_ (by have := hb1.size; first | (simp; done) | (simp; omega) | omega) _ | with_reducible refine Below.setCell ?_ (by first | (simp; done) | (simp; omega) | omega) _)⟩
  | false =>
    have hL := fun W => long_any a n c W
    simp only [hlg] at hL
    have hn80 : n ≤ 80 := by unfold longZ at hlg; simp at hlg; omega
    have c1 := fun W => Bit_any id k W hid hk
    have c2 := fun W => rBit_any id k W hid hk
    have c3 := fun W (hI : IdsIn W a c l) hT => Root_any l a n c W hI hn (by unfold maxLen; omega) hT
    have c4 := fun W (hI : IdsIn W a c l) => rRoot_any l a n c W hI hn (by unfold maxLen; omega)
    have c5 := fun W (hI : IdsIn W a c l) => Split_any l a n c W hI hn (by unfold maxLen; omega)
    have c6 := fun W (hI : IdsIn W a c l) => rSplit_any l a n c W hI hn (by unfold maxLen; omega)
    have c7 := fun W (hI : IdsIn W a c l) hT => prove_any l id a n c W hI hn (by unfold maxLen; omega) hid hT
    have c8 := fun W (hI : IdsIn W a c l) => rprove_any l id a n c W hI hn (by unfold maxLen; omega) hid
    have c9 := fun W (hI : IdsIn W a c l) => check_any l a n c W hI hn (by unfold maxLen; omega)
    have c10 := fun W (hI : IdsIn W a c l) => rcheck_any l a n c W hI hn (by unfold maxLen; omega)
    have hsf := splitZ_facts l
    have hpf := proveZ_facts l id h.ids
    have hri := rootZ_id l
    obtain ⟨B, hB⟩ : ∃ B, bitZ id k = B := ⟨_, rfl⟩
    obtain ⟨bb, be⟩ := B
    obtain ⟨R, hR⟩ : ∃ R, rootZ l = R := ⟨_, rfl⟩
    obtain ⟨rd, re⟩ := R
    obtain ⟨S, hS⟩ : ∃ S, splitZ l = S := ⟨_, rfl⟩
    obtain ⟨A, hA⟩ : ∃ A, proveZ l id = A := ⟨_, rfl⟩
    obtain ⟨ch, hch⟩ : ∃ ch, chkZ l = ch := ⟨_, rfl⟩
    simp only [hB] at c1 c2
    rw [hR] at hri
    simp only [hR] at c3 c4
    rw [hS] at hsf
    simp only [hS] at c5 c6
    rw [hA] at hpf
    simp only [hA] at c7 c8
    simp only [hch] at c9 c10
    obtain ⟨hsz, hso⟩ := hsf
    obtain ⟨hpb, hpd, hpo⟩ := hpf
    have c11 := fun W (a1 : Option Addr) (c1 : Nat) (a2 : Option Addr) (c2 : Nat) (h1 : IdsIn W a1 c1 S.z) (h2 : IdsIn W a2 c2 S.z) => sameIds_any S.z S.z a1 a2 _ _ c1 c2 W h1 h2 rfl rfl (by unfold maxLen; omega) (by unfold maxLen; omega)
    have c12 := fun W (a1 : Option Addr) (c1 : Nat) (a2 : Option Addr) (c2 : Nat) (h1 : IdsIn W a1 c1 S.o) (h2 : IdsIn W a2 c2 S.o) => sameIds_any S.o S.o a1 a2 _ _ c1 c2 W h1 h2 rfl rfl (by unfold maxLen; omega) (by unfold maxLen; omega)
    have c13 := fun W (a1 : Option Addr) (c1 : Nat) (a2 : Option Addr) (c2 : Nat) (h1 : IdsIn W a1 c1 l) (h2 : IdsIn W a2 c2 l) => sameIds_any l l a1 a2 n n c1 c2 W h1 h2 hn hn (by unfold maxLen; omega) (by unfold maxLen; omega)
    have c14 := fun W ba bc da dc ba' bc' da' dc' (h1 : ProofIn W A.pr ba bc da dc) (h2 : ProofIn W A.pr ba' bc' da' dc') => sameProof_self A.pr ba ba' bc bc' da da' dc dc' W h1 h2 hpo (by omega) (by omega)
    simp only [decide_true] at c11 c12 c13
    have hil := idsC_len h.ids
    rw [← hn] at hil
    have heq := fun w => eq_ids rd rd hri.len hri.len w
    obtain ⟨rs, hrs⟩ : ∃ v, v = idC (rd) := ⟨_, rfl⟩
    have hrsl := idC_len hri
    have hrsi := idC_info hri
    have hrso := idC_one (rd)
    rw [← hrs] at hrsl hrsi hrso
    have hrsr : rs.length = (List.replicate 32 (Value.int .u8 0)).length := by rw [hrsl]; rfl
    have heq' : ∀ w, (Op.equalIn 10000 24 (.agg rs.toArray) (.agg rs.toArray)).run Tryd.prog w = .ok true w := fun w => by
      have := heq w
      rw [hrs]; unfold idC; simpa using this
    simp only [← hrs] at c3 c4
    simp only [← hids] at c1 c2 c7 c8
    rw [← hids]
    have hI0 := Blk.newA w w.heap.size _ 24 ids rfl rfl
    have H_hL := Box.mk hL
    have H_hn := Box.mk hn
    have H_h := Box.mk h
    have H_hlg := Box.mk hlg
    have H_hids := Box.mk hids
    have H_hidsl := Box.mk hidsl
    have H_hidsi := Box.mk hidsi
    have H_hidso := Box.mk hidso
    have H_hidsr := Box.mk hidsr
    have H_hid := Box.mk hid
    have H_hT := Box.mk hT
    have H_jif := Box.mk jif
    have H_jz0 := Box.mk jz0
    have H_jz1 := Box.mk jz1
    have H_jz2 := Box.mk jz2
    have H_c1 := Box.mk c1
    have H_c2 := Box.mk c2
    have H_c3 := Box.mk c3
    have H_c4 := Box.mk c4
    have H_c5 := Box.mk c5
    have H_c6 := Box.mk c6
    have H_c7 := Box.mk c7
    have H_c8 := Box.mk c8
    have H_c9 := Box.mk c9
    have H_c10 := Box.mk c10
    have H_c11 := Box.mk c11
    have H_c12 := Box.mk c12
    have H_c13 := Box.mk c13
    have H_c14 := Box.mk c14
    have H_hB := Box.mk hB
    have H_hR := Box.mk hR
    have H_hS := Box.mk hS
    have H_hA := Box.mk hA
    have H_hch := Box.mk hch
    have H_hsz := Box.mk hsz
    have H_hso := Box.mk hso
    have H_hpb := Box.mk hpb
    have H_hpd := Box.mk hpd
    have H_hpo := Box.mk hpo
    have H_hil := Box.mk hil
    have H_heq := Box.mk heq
    have H_hri := Box.mk hri
    have H_hrs := Box.mk hrs
    have H_hrsl := Box.mk hrsl
    have H_hrsi := Box.mk hrsi
    have H_hrso := Box.mk hrso
    have H_hrsr := Box.mk hrsr
    clear hL hn h hlg hids hidsl hidsi hidso hidsr hid hT jif jz0 jz1 jz2 c1 c2 c3 c4 c5 c6 c7 c8 c9 c10 c11 c12 c13 c14 hB hR hS hA hch hsz hso hpb hpd hpo hil heq hri hrs hrsl hrsi hrso hrsr
    clear hm
    go_enter Tryd.func3, Tryd.ntmps3
    have hb0 := Below.refl w.heap.size w
    go_wp2_with fail
    with_reducible refine (H_hL.out _).mono ?_
    rintro e w1 ⟨rfl, hc1⟩
    have hI1 := hI0.later hc1
    have hb1 : Below w.heap.size w w1 := bchain (by repeat' (first | with_reducible exact hb0 | with_reducible refine Below.drew ?_ | with_reducible refine below_drewN ?_ _ | with_reducible refine Below.alloc ?_ (by have := hb0.size; first | (simp; done) | (simp; omega) | omega) _ | with_reducible refine Below.setCell ?_ (by first | (simp; done) | (simp; omega) | omega) _)) hc1
    clear hc1 hI0
    have hl1 := H_h.out.later hb1
    go_wp2_with (at_builtin; refine stop ?_)
    refine Stop.go ?_
    refine wpList_append_x _ rfl _ _ 22 rfl w1.heap.size 24 j0 _ 32 32 Tryd.underlying22 H_jif.out H_jz0.out H_jz1.out H_jz2.out oneCell_idz (by decide) _ 0 [] rfl (OwnX.made _ [] _ _ 0 _ (Nat.le_refl _) (by simp [maxLen]) rfl) a n c (idsC l) rfl H_hil.out (hl1.cells.alloc _) (idsC_one _) (by unfold maxLen; omega) (by omega) (by simp) ?_
    intro a2 c2 w2 o2 hg _
    rw [Nat.zero_add, List.nil_append] at o2
    have hc2 : Below w1.heap.size w1 w2 := below_grownX ((Below.refl w1.heap.size w1).alloc (Nat.le_refl _) _) hg (by simp) (fun k hk => ((OwnX.made w1 [] _ 0 0 32 (Nat.le_refl _) (by simp [maxLen]) rfl).lt k hk).1)
    have hI2 := hI1.later hc2
    have hwas : IdsIn w2 a2 c2 l := o2.idsIn H_hn.out H_h.out.ids
    have hb2 : Below w.heap.size w w2 := bchain (by repeat' (first | with_reducible exact hb1 | with_reducible refine Below.drew ?_ | with_reducible refine below_drewN ?_ _ | with_reducible refine Below.alloc ?_ (by have := hb1.size; first | (simp; done) | (simp; omega) | omega) _ | with_reducible refine Below.setCell ?_ (by first | (simp; done) | (simp; omega) | omega) _)) hc2
    clear hc2 hI1 hg o2 hl1
    go_wp2_with (refine wpList_load_blk rfl 24 _ rfl w.heap.size (by rfl) 24 ids _ hI2 Tryd.underlying24 rfl H_hidsi.out ?_)
    with_reducible refine (H_c1.out _).mono ?_
    rintro e w3 ⟨rfl, hc3⟩
    have hI3 := hI2.later hc3
    have hwas := hwas.later hc3
    have hb3 : Below w.heap.size w w3 := bchain (by repeat' (first | with_reducible exact hb2 | with_reducible refine Below.drew ?_ | with_reducible refine below_drewN ?_ _ | with_reducible refine Below.alloc ?_ (by have := hb2.size; first | (simp; done) | (simp; omega) | omega) _ | with_reducible refine Below.setCell ?_ (by first | (simp; done) | (simp; omega) | omega) _)) hc3
    clear hc3 hI2
    go_wp2_with (refine wpList_load_blk rfl 24 _ rfl w.heap.size (by rfl) 24 ids _ hI3 Tryd.underlying24 rfl H_hidsi.out ?_)
    with_reducible refine (H_c2.out _).mono ?_
    rintro e w4 ⟨rfl, hc4⟩
    have hI4 := hI3.later hc4
    have hwas := hwas.later hc4
    have hb4 : Below w.heap.size w w4 := bchain (by repeat' (first | with_reducible exact hb3 | with_reducible refine Below.drew ?_ | with_reducible refine below_drewN ?_ _ | with_reducible refine Below.alloc ?_ (by have := hb3.size; first | (simp; done) | (simp; omega) | omega) _ | with_reducible refine Below.setCell ?_ (by first | (simp; done) | (simp; omega) | omega) _)) hc4
    clear hc4 hI3
    go_wp2_with fail
    with_reducible refine (H_c3.out _ (H_h.out.later hb4) (H_hT.out.later hb4)).mono ?_
    rintro e w5 ⟨rfl, hc5⟩
    have hI5 := hI4.later hc5
    have hwas := hwas.later hc5
    have hb5 : Below w.heap.size w w5 := bchain (by repeat' (first | with_reducible exact hb4 | with_reducible refine Below.drew ?_ | with_reducible refine below_drewN ?_ _ | with_reducible refine Below.alloc ?_ (by have := hb4.size; first | (simp; done) | (simp; omega) | omega) _ | with_reducible refine Below.setCell ?_ (by first | (simp; done) | (simp; omega) | omega) _)) hc5
    clear hc5 hI4
    have hN5 := Blk.newA w5 w5.heap.size _ 24 (List.replicate 32 (Value.int .u8 0)) rfl rfl
    go_upto_region 7 with (refine wpList_store_blk rfl 24 _ _ rfl w5.heap.size (by rfl) 24 _ rs (by rfl) hN5 H_hrsr.out H_hrsi.out H_hrso.out ?_; intro w6 hX6 he6; have H6 := Box.mk he6; clear he6)
    have hc6 : Below w5.heap.size w5 w6 := H6.out ▸ below_setCells (Nat.le_refl _) _ _ _ ((Below.refl _ _).alloc (Nat.le_refl _) _)
    have hI6 := hI5.later hc6
    have hwas := hwas.later hc6
    have hb6 : Below w.heap.size w w6 := bchain (by repeat' (first | with_reducible exact hb5 | with_reducible refine Below.drew ?_ | with_reducible refine below_drewN ?_ _ | with_reducible refine Below.alloc ?_ (by have := hb5.size; first | (simp; done) | (simp; omega) | omega) _ | with_reducible refine Below.setCell ?_ (by first | (simp; done) | (simp; omega) | omega) _)) hc6
    clear hc6 hI5 hN5 H6
    go_wp2_with fail
    with_reducible refine (H_c4.out _ (H_h.out.later hb6)).mono ?_
    rintro e w7 ⟨rfl, hc7⟩
    have hI7 := hI6.later hc7
    have hX7 := hX6.later hc7
    have hwas := hwas.later hc7
    have hb7 : Below w.heap.size w w7 := bchain (by repeat' (first | with_reducible exact hb6 | with_reducible refine Below.drew ?_ | with_reducible refine below_drewN ?_ _ | with_reducible refine Below.alloc ?_ (by have := hb6.size; first | (simp; done) | (simp; omega) | omega) _ | with_reducible refine Below.setCell ?_ (by first | (simp; done) | (simp; omega) | omega) _)) hc7
    clear hc7 hI6 hX6
    have hN7 := Blk.newA w7 w7.heap.size _ 24 (List.replicate 32 (Value.int .u8 0)) rfl rfl
    go_upto_region 8 with (refine wpList_store_blk rfl 24 _ _ rfl w7.heap.size (by rfl) 24 _ rs (by rfl) hN7 H_hrsr.out H_hrsi.out H_hrso.out ?_; intro w8 hY8 he8; have H8 := Box.mk he8; clear he8)
    have hc8 : Below w7.heap.size w7 w8 := H8.out ▸ below_setCells (Nat.le_refl _) _ _ _ ((Below.refl _ _).alloc (Nat.le_refl _) _)
    have hI8 := hI7.later hc8
    have hX8 := hX7.later hc8
    have hwas := hwas.later hc8
    have hb8 : Below w.heap.size w w8 := bchain (by repeat' (first | with_reducible exact hb7 | with_reducible refine Below.drew ?_ | with_reducible refine below_drewN ?_ _ | with_reducible refine Below.alloc ?_ (by have := hb7.size; first | (simp; done) | (simp; omega) | omega) _ | with_reducible refine Below.setCell ?_ (by first | (simp; done) | (simp; omega) | omega) _)) hc8
    clear hc8 hI7 hX7 hN7 H8
    go_wp2_with fail
    with_reducible refine (H_c5.out _ (H_h.out.later hb8)).mono ?_
    rintro e w9 ⟨⟨s1, sc1, s2, sc2, rfl, hs1, hs2⟩, hc9⟩
    have hI9 := hI8.later hc9
    have hX9 := hX8.later hc9
    have hY9 := hY8.later hc9
    have hwas := hwas.later hc9
    have hb9 : Below w.heap.size w w9 := bchain (by repeat' (first | with_reducible exact hb8 | with_reducible refine Below.drew ?_ | with_reducible refine below_drewN ?_ _ | with_reducible refine Below.alloc ?_ (by have := hb8.size; first | (simp; done) | (simp; omega) | omega) _ | with_reducible refine Below.setCell ?_ (by first | (simp; done) | (simp; omega) | omega) _)) hc9
    clear hc9 hI8 hX8 hY8
    go_wp2_with fail
    with_reducible refine (H_c6.out _ (H_h.out.later hb9)).mono ?_
    rintro e w10 ⟨⟨t1, tc1, t2, tc2, rfl, ht1, ht2⟩, hc10⟩
    have hI10 := hI9.later hc10
    have hX10 := hX9.later hc10
    have hY10 := hY9.later hc10
    have hwas := hwas.later hc10
    have hs1 := hs1.later hc10
    have hs2 := hs2.later hc10
    have hb10 : Below w.heap.size w w10 := bchain (by repeat' (first | with_reducible exact hb9 | with_reducible refine Below.drew ?_ | with_reducible refine below_drewN ?_ _ | with_reducible refine Below.alloc ?_ (by have := hb9.size; first | (simp; done) | (simp; omega) | omega) _ | with_reducible refine Below.setCell ?_ (by first | (simp; done) | (simp; omega) | omega) _)) hc10
    clear hc10 hI9 hX9 hY9
    go_wp2_with (refine wpList_load_blk rfl 24 _ rfl w.heap.size (by rfl) 24 ids _ hI10 Tryd.underlying24 rfl H_hidsi.out ?_)
    with_reducible refine (H_c7.out _ (H_h.out.later hb10) (H_hT.out.later hb10)).mono ?_
    rintro e w11 ⟨⟨ba, bc, da, dc, rfl, hp⟩, hc11⟩
    have hI11 := hI10.later hc11
    have hX11 := hX10.later hc11
    have hY11 := hY10.later hc11
    have hwas := hwas.later hc11
    have hs1 := hs1.later hc11
    have hs2 := hs2.later hc11
    have ht1 := ht1.later hc11
    have ht2 := ht2.later hc11
    have hb11 : Below w.heap.size w w11 := bchain (by repeat' (first | with_reducible exact hb10 | with_reducible refine Below.drew ?_ | with_reducible refine below_drewN ?_ _ | with_reducible refine Below.alloc ?_ (by have := hb10.size; first | (simp; done) | (simp; omega) | omega) _ | with_reducible refine Below.setCell ?_ (by first | (simp; done) | (simp; omega) | omega) _)) hc11
    clear hc11 hI10 hX10 hY10
    obtain ⟨PV, hPV⟩ : ∃ PV, PV = prC ba A.pr.bits.length bc da A.pr.beside.length dc A.pr.only A.pr.empty := ⟨_, rfl⟩
    have hPVl : PV.length = 35 := by rw [hPV]; exact prC_len H_hpo.out
    have hPVi : (Tryd.prog.info? 41).map (·.size) = some PV.length := by rw [hPVl]; exact info35
    have hPV1 : ∀ u ∈ PV, u.oneCell' = true := by rw [hPV]; exact prC_one _ _ _ _ _ _ _ _
    rw [← hPV]
    have H_hPV := Box.mk hPV
    have H_hPVl := Box.mk hPVl
    have H_hPVi := Box.mk hPVi
    have H_hPV1 := Box.mk hPV1
    clear hPV hPVl hPVi hPV1
    have hN11 := newPr w11 w11.heap.size rfl
    go_upto_region 11 with (refine wpList_store_blk rfl 41 _ _ rfl w11.heap.size (by rfl) 41 _ PV (by rfl) hN11 (by rw [H_hPVl.out]; rfl) H_hPVi.out H_hPV1.out ?_; intro w12 hP12 he12; have H12 := Box.mk he12; clear he12)
    have hc12 : Below w11.heap.size w11 w12 := H12.out ▸ below_setCells (Nat.le_refl _) _ _ _ ((Below.refl _ _).alloc (Nat.le_refl _) _)
    have hI12 := hI11.later hc12
    have hX12 := hX11.later hc12
    have hY12 := hY11.later hc12
    have hwas := hwas.later hc12
    have hs1 := hs1.later hc12
    have hs2 := hs2.later hc12
    have ht1 := ht1.later hc12
    have ht2 := ht2.later hc12
    have hp := hp.later hc12
    have hb12 : Below w.heap.size w w12 := bchain (by repeat' (first | with_reducible exact hb11 | with_reducible refine Below.drew ?_ | with_reducible refine below_drewN ?_ _ | with_reducible refine Below.alloc ?_ (by have := hb11.size; first | (simp; done) | (simp; omega) | omega) _ | with_reducible refine Below.setCell ?_ (by first | (simp; done) | (simp; omega) | omega) _)) hc12
    clear hc12 hI11 hX11 hY11 hN11 H12
    go_wp2_with (refine wpList_load_blk rfl 24 _ rfl w.heap.size (by rfl) 24 ids _ hI12 Tryd.underlying24 rfl H_hidsi.out ?_)
    with_reducible refine (H_c8.out _ (H_h.out.later hb12)).mono ?_
    rintro e w13 ⟨⟨ba', bc', da', dc', rfl, hq⟩, hc13⟩
    have hX13 := hX12.later hc13
    have hY13 := hY12.later hc13
    have hP13 := hP12.later hc13
    have hwas := hwas.later hc13
    have hs1 := hs1.later hc13
    have hs2 := hs2.later hc13
    have ht1 := ht1.later hc13
    have ht2 := ht2.later hc13
    have hp := hp.later hc13
    have hb13 : Below w.heap.size w w13 := bchain (by repeat' (first | with_reducible exact hb12 | with_reducible refine Below.drew ?_ | with_reducible refine below_drewN ?_ _ | with_reducible refine Below.alloc ?_ (by have := hb12.size; first | (simp; done) | (simp; omega) | omega) _ | with_reducible refine Below.setCell ?_ (by first | (simp; done) | (simp; omega) | omega) _)) hc13
    clear hc13 hI12 hX12 hY12 hP12
    obtain ⟨QV, hQV⟩ : ∃ QV, QV = prC ba' A.pr.bits.length bc' da' A.pr.beside.length dc' A.pr.only A.pr.empty := ⟨_, rfl⟩
    have hQVl : QV.length = 35 := by rw [hQV]; exact prC_len H_hpo.out
    have hQVi : (Tryd.prog.info? 41).map (·.size) = some QV.length := by rw [hQVl]; exact info35
    have hQV1 : ∀ u ∈ QV, u.oneCell' = true := by rw [hQV]; exact prC_one _ _ _ _ _ _ _ _
    rw [← hQV]
    have c14' : ∀ W, ProofIn W A.pr ba bc da dc → ProofIn W A.pr ba' bc' da' dc' → Calls Tryd.prog 20 #[.agg PV.toArray, .agg QV.toArray] W fun e w' => e = .returned (.bool true) ∧ Below W.heap.size W w' := fun W h1 h2 => by rw [H_hPV.out, hQV]; exact H_c14.out W _ _ _ _ _ _ _ _ h1 h2
    have H_hQV := Box.mk hQV
    have H_hQVl := Box.mk hQVl
    have H_hQVi := Box.mk hQVi
    have H_hQV1 := Box.mk hQV1
    have H_c14' := Box.mk c14'
    clear hQV hQVl hQVi hQV1 c14'
    have hN13 := newPr w13 w13.heap.size rfl
    go_upto_region 12 with (refine wpList_store_blk rfl 41 _ _ rfl w13.heap.size (by rfl) 41 _ QV (by rfl) hN13 (by rw [H_hQVl.out]; rfl) H_hQVi.out H_hQV1.out ?_; intro w14 hQ14 he14; have H14 := Box.mk he14; clear he14)
    have hc14 : Below w13.heap.size w13 w14 := H14.out ▸ below_setCells (Nat.le_refl _) _ _ _ ((Below.refl _ _).alloc (Nat.le_refl _) _)
    have hX14 := hX13.later hc14
    have hY14 := hY13.later hc14
    have hP14 := hP13.later hc14
    have hwas := hwas.later hc14
    have hs1 := hs1.later hc14
    have hs2 := hs2.later hc14
    have ht1 := ht1.later hc14
    have ht2 := ht2.later hc14
    have hp := hp.later hc14
    have hq := hq.later hc14
    have hb14 : Below w.heap.size w w14 := bchain (by repeat' (first | with_reducible exact hb13 | with_reducible refine Below.drew ?_ | with_reducible refine below_drewN ?_ _ | with_reducible refine Below.alloc ?_ (by have := hb13.size; first | (simp; done) | (simp; omega) | omega) _ | with_reducible refine Below.setCell ?_ (by first | (simp; done) | (simp; omega) | omega) _)) hc14
    clear hc14 hX13 hY13 hP13 hN13 H14
    simp only [List.append]
    go_wp2_with fail
    with_reducible refine (H_c9.out _ (H_h.out.later hb14)).mono ?_
    rintro e w15 ⟨rfl, hc15⟩
    have hX15 := hX14.later hc15
    have hY15 := hY14.later hc15
    have hP15 := hP14.later hc15
    have hQ15 := hQ14.later hc15
    have hwas := hwas.later hc15
    have hs1 := hs1.later hc15
    have hs2 := hs2.later hc15
    have ht1 := ht1.later hc15
    have ht2 := ht2.later hc15
    have hp := hp.later hc15
    have hq := hq.later hc15
    have hb15 : Below w.heap.size w w15 := bchain (by repeat' (first | with_reducible exact hb14 | with_reducible refine Below.drew ?_ | with_reducible refine below_drewN ?_ _ | with_reducible refine Below.alloc ?_ (by have := hb14.size; first | (simp; done) | (simp; omega) | omega) _ | with_reducible refine Below.setCell ?_ (by first | (simp; done) | (simp; omega) | omega) _)) hc15
    clear hc15 hX14 hY14 hP14 hQ14
    go_wp2_with fail
    with_reducible refine (H_c10.out _ (H_h.out.later hb15)).mono ?_
    rintro e w16 ⟨rfl, hc16⟩
    have hX16 := hX15.later hc16
    have hY16 := hY15.later hc16
    have hP16 := hP15.later hc16
    have hQ16 := hQ15.later hc16
    have hwas := hwas.later hc16
    have hs1 := hs1.later hc16
    have hs2 := hs2.later hc16
    have ht1 := ht1.later hc16
    have ht2 := ht2.later hc16
    have hp := hp.later hc16
    have hq := hq.later hc16
    have hb16 : Below w.heap.size w w16 := bchain (by repeat' (first | with_reducible exact hb15 | with_reducible refine Below.drew ?_ | with_reducible refine below_drewN ?_ _ | with_reducible refine Below.alloc ?_ (by have := hb15.size; first | (simp; done) | (simp; omega) | omega) _ | with_reducible refine Below.setCell ?_ (by first | (simp; done) | (simp; omega) | omega) _)) hc16
    clear hc16 hX15 hY15 hP15 hQ15
    go_wp2_with (first | (refine wpList_load_blkG (by first | rfl | (simp [Region.wanted]; done)) 24 _ rfl w5.heap.size (by rfl) 24 rs _ hX16 Tryd.underlying24 rfl H_hrsi.out ?_) | (refine wpList_load_blkG (by first | rfl | (simp [Region.wanted]; done)) 24 _ rfl w7.heap.size (by rfl) 24 rs _ hY16 Tryd.underlying24 rfl H_hrsi.out ?_))
    with_reducible refine (H_c11.out _ _ _ _ _ hs1 ht1).mono ?_
    rintro e w17 ⟨rfl, hc17⟩
    have hP17 := hP16.later hc17
    have hQ17 := hQ16.later hc17
    have hwas := hwas.later hc17
    have hs2 := hs2.later hc17
    have ht2 := ht2.later hc17
    have hp := hp.later hc17
    have hq := hq.later hc17
    have hb17 : Below w.heap.size w w17 := bchain (by repeat' (first | with_reducible exact hb16 | with_reducible refine Below.drew ?_ | with_reducible refine below_drewN ?_ _ | with_reducible refine Below.alloc ?_ (by have := hb16.size; first | (simp; done) | (simp; omega) | omega) _ | with_reducible refine Below.setCell ?_ (by first | (simp; done) | (simp; omega) | omega) _)) hc17
    clear hc17 hX16 hY16 hP16 hQ16 hs1 ht1
    go_wp2_with fail
    with_reducible refine (H_c12.out _ _ _ _ _ hs2 ht2).mono ?_
    rintro e w18 ⟨rfl, hc18⟩
    have hP18 := hP17.later hc18
    have hQ18 := hQ17.later hc18
    have hwas := hwas.later hc18
    have hp := hp.later hc18
    have hq := hq.later hc18
    have hb18 : Below w.heap.size w w18 := bchain (by repeat' (first | with_reducible exact hb17 | with_reducible refine Below.drew ?_ | with_reducible refine below_drewN ?_ _ | with_reducible refine Below.alloc ?_ (by have := hb17.size; first | (simp; done) | (simp; omega) | omega) _ | with_reducible refine Below.setCell ?_ (by first | (simp; done) | (simp; omega) | omega) _)) hc18
    clear hc18 hP17 hQ17 hs2 ht2
    go_wp2_with (first | (refine wpList_load_blkG (by first | rfl | (simp [Region.wanted]; done)) 41 _ rfl w11.heap.size (by rfl) 41 PV _ hP18 Tryd.underlying41 rfl H_hPVi.out ?_) | (refine wpList_load_blkG (by first | rfl | (simp [Region.wanted]; done)) 41 _ rfl w13.heap.size (by rfl) 41 QV _ hQ18 Tryd.underlying41 rfl H_hQVi.out ?_))
    with_reducible refine (H_c14'.out _ hp hq).mono ?_
    rintro e w19 ⟨rfl, hc19⟩
    have hwas := hwas.later hc19
    have hb19 : Below w.heap.size w w19 := bchain (by repeat' (first | with_reducible exact hb18 | with_reducible refine Below.drew ?_ | with_reducible refine below_drewN ?_ _ | with_reducible refine Below.alloc ?_ (by have := hb18.size; first | (simp; done) | (simp; omega) | omega) _ | with_reducible refine Below.setCell ?_ (by first | (simp; done) | (simp; omega) | omega) _)) hc19
    clear hc19 hP18 hQ18 hp hq
    go_wp2_with fail
    with_reducible refine (H_c13.out _ _ _ _ _ (H_h.out.later hb19) hwas).mono ?_
    rintro e w20 ⟨rfl, hc20⟩
    have hb20 : Below w.heap.size w w20 := bchain (by repeat' (first | with_reducible exact hb19 | with_reducible refine Below.drew ?_ | with_reducible refine below_drewN ?_ _ | with_reducible refine Below.alloc ?_ (by have := hb19.size; first | (simp; done) | (simp; omega) | omega) _ | with_reducible refine Below.setCell ?_ (by first | (simp; done) | (simp; omega) | omega) _)) hc20
    clear hc20 hwas
    go_wp2_with fail
    go_ret
    exact ⟨rfl, hb20⟩

theorem tells_full (l : List (List Int)) (a : Option Addr) (c : Nat) (id : List Int) (k : Int) (w : World) (h : IdsIn w a c l ∧ l.length ≤ maxLen) (hid : IdIn id) (hk : (Lit.int .i64 k).wf = true) (hK : CellsAt w (some ⟨1, 0, none⟩) (kcs.map (Value.int .u32)) ∧ 1 < w.heap.size) :
    Calls Tryd.prog 3 #[.slice a l.length c, .agg (id.map (Value.int .u8)).toArray, .int .i64 k] w fun e w' =>
      e = .returned (.bool true) ∧ Below w.heap.size w w' := tells_walk l a c id k w h.1 h.2 hid hk ⟨hK.1, hK.2⟩

end Go.Proofs.YtfabcdpmnbeflaaDoor
