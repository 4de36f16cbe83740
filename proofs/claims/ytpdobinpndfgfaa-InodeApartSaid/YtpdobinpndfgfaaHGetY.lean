/- What inode.Get does with an inode's bytes. -/
import Derived.Test.YtpdobinpndfgfaaHGet
namespace Go.Proofs.Ytpdobinpndfgfaa.Q
open Go.RowKit Go.Proofs.YtpdobinpndfgfaaW.PrintWords Go.Proofs.YtpdobinpndfgfaaW.PrintLast Go.Proofs.YtpdobinpndfgfaaW.PrintMore Go.Proofs.Ytpdobinpndfgfaa.Pure
attribute [local go_sem] max2_int min2_int max_two min_two max_three min_three max_four min_four
set_option linter.unusedVariables false
set_option linter.unusedSimpArgs false
theorem build_ino3 (a b c : Int) : ∀ W : World, (Instr.build 26 #[(0, .int .u8 a), (1, .int .u16 b), (2, .int .u32 c)]).run Try.prog W = .ok (.agg (InoV.mk a b c 0 0 0 0 0).cells) W := fun W => by kernel_rfl
set_option maxHeartbeats 4000000 in
set_option maxRecDepth 100000 in
theorem inode_Get_yes (ad : Addr) (c0 : Nat) (l : List Int) (w : World) (hr : Kd.C (Kd.int .u8) w (some ad) 32 l) (hc0 : 32 ≤ c0) (hu : u8s l) (hok : okI l) :
    Calls Try.prog 10 #[.slice (some ad) 32 c0] w fun e w' => e = .returned (.tuple #[.agg (getI l).cells, .int .i64 0]) ∧ Below w.heap.size w w' := by
  obtain ⟨hl, hk3, hk1, hany⟩ := hok
  obtain ⟨ad', e1, hcell⟩ := (Kd.reads_of_C (enc := Value.int .u8) (d := (0 : Int)) (h1 := fun _ => rfl) hr).2.2 (by decide)
  injection e1 with e1
  subst e1
  have HR := Aside0.mk hr
  obtain ⟨z0, hz0⟩ : ∃ z, rd l 0 = z := ⟨_, rfl⟩
  rw [hz0] at hk3
  have HZ0 := Aside0.mk hz0
  have HC0 := Aside0.mk (fun (w' : World) (hb : Below w.heap.size w w') => show w'.cell? ad = some (.int .u8 z0) from by rw [← hz0]; exact pw_cell_below hb (hcell 0 (by decide)))
  have HC1 := Aside0.mk (fun (w' : World) (hb : Below w.heap.size w w') => show w'.cell? ⟨ad.block, ad.off + 1, none⟩ = some (.int .u8 0) from by
    have h2 : l.getD 1 0 = 0 := hk1
    rw [← h2]
    exact pw_cell_below hb (hcell 1 (by decide)))
  have HCON := Aside0.mk (fun (w' : World) (hb : Below w.heap.size w w') => show Calls Try.prog 19 #[.slice (some ⟨ad.block, ad.off + 18, none⟩) 14 (c0 - 18), .func (.func 20) #[] #[]] w' (fun e w2 => e = .returned (.bool false) ∧ Drawn0 w' w2) from by
    have h1 := slices_ContainsFunc_byte_byte_at_inode_Get_lit1.calls 15 (some ⟨ad.block, ad.off + 18, none⟩) (c0 - 18) (l.drop 18) _ w' (by have := drop18_C (Kd.C_below hr hb) hl; rw [show (l.drop 18).length = 14 by rw [List.length_drop, hl]]; exact this) (by rw [List.length_drop, hl]; omega) (any_eq 15 (l.drop 18) (by rw [List.length_drop, hl]; decide) (by rw [List.length_drop, hl]; decide))
    rw [show (l.drop 18).length = 14 by rw [List.length_drop, hl], hany] at h1
    exact h1)
  have N2 := Aside0.mk (numI_range l hu hl 2 2 (by decide) (by decide) (by decide))
  have N4 := Aside0.mk (numI_range l hu hl 4 4 (by decide) (by decide) (by decide))
  have NI := Aside0.mk (fun (p : Int) (h0 : 0 ≤ p) (h : p + 2 ≤ 32) => numI_range l hu hl p 2 h0 (by decide) h)
  have hwr : ∀ v : Int, 0 ≤ v ∧ v < 256 ^ (2 : Int).toNat → IntKind.u16.wrap v = v := by
    intro v hv
    have h2 : v < 65536 := by simpa using hv.2
    simp [IntKind.wrap, IntKind.bits, IntKind.signed]
    omega
  have hwr4 : ∀ v : Int, 0 ≤ v ∧ v < 256 ^ (4 : Int).toNat → IntKind.u32.wrap v = v := by
    intro v hv
    have h2 : v < 4294967296 := by simpa using hv.2
    simp [IntKind.wrap, IntKind.bits, IntKind.signed]
    omega
  have HWR := Aside0.mk hwr
  have HWR4 := Aside0.mk hwr4
  have HATT := Aside0.mk (fun (g1 : Nat) (p n : Int) (W : World) (hb : Below w.heap.size w W) (hg : W.heap[g1]? = some (.cells (Value.slice (some ad) 32 c0).cells 27 (0, 0))) (h0 : 0 ≤ p) (h1 : 1 ≤ n) (h8 : n ≤ 8) (hpn : p + n ≤ 32) => show Calls Try.prog 21 #[.int .i64 p, .int .i64 n, .pointer (some ⟨g1, 0, none⟩)] W (fun e w' => e = .returned (.int .u64 (numI l p n)) ∧ Drawn0 W w') from
    inode_at.calls (some ad) c0 l g1 p n W (by rw [hl]; exact Kd.C_below hr hb) (by rw [hl]; exact hc0) hu hl (by rw [hl]; exact cell_of_row W g1 0 _ _ _ hg) h0 h1 h8 hpn)
  have HL := Aside0.mk hl
  have hd : decide (3 < z0) = false := decide_eq_false (by omega)
  have h32 : (32 : Int) ≤ (c0 : Int) := by omega
  clear hr hl hu hcell hz0 hk1 hany hwr hwr4
  go_enter Try.func10, Try.ntmps10
  go_wp2_with (first | ((with_reducible refine gate_op (N := .box 27 (.tmp 0)) rfl ?_); refine wl_box rfl 27 _ rfl (.slice (some ad) 32 c0) rfl ?_; intro g1 hg w1 hblk hb hsz; have HG1 := Aside0.mk (show w.heap.size ≤ g1 by rw [hg]; exact Nat.le_refl _); have hc1 : w1.cell? ⟨g1, 0, none⟩ = some (.slice (some ad) 32 c0) := cell_of_row w1 g1 0 _ _ _ hblk; have HK1 := Aside0.mk hblk; have HB := Aside0.mk hb; clear hg hblk hb hsz) | ((with_reducible refine gate_dst (N := 2) rfl ?_); refine wl_alloc rfl 26 rfl _ zero_ino ?_; intro g2 hg w2 hblk hb hsz; have HNE := Aside0.mk (show g1 ≠ g2 by have := blk_lt HK1.out; omega); have HG2 := Aside0.mk (show w.heap.size ≤ g2 by rw [hg]; exact HB.out.size); have HK2 := Aside0.mk (show InoAt 26 w2 g2 InoV.nought from hblk); have n0_ := Aside0.mk (blk_below HK1.out hb); have n1_ := Aside0.mk (HB.out.trans (hb.mono HB.out.size)); clear hg hblk hb hsz HK1 HB hc1; have HK1 := n0_; have HB := n1_; clear n0_ n1_; have hc1 : w2.cell? ⟨g1, 0, none⟩ = some (.slice (some ad) 32 c0) := cell_of_row w2 g1 0 _ _ _ HK1.out; have hcA := HC0.out _ HB.out; have hcB := HC1.out _ HB.out) | (go_at_call 19; (with_reducible refine (HCON.out _ HB.out).mono ?_); rintro e w4 ⟨rfl, hdr⟩; have hb := hdr.below; have n0_ := Aside0.mk (blk_below HK1.out hb); have n1_ := Aside0.mk (HB.out.trans (hb.mono HB.out.size)); have n2_ := Aside0.mk (show InoAt 26 w4 g2 InoV.nought from blk_below HK2.out.blk hb); clear hb hdr HK1 HK2 HB hc1 hcA hcB; have HK1 := n0_; have HB := n1_; have HK2 := n2_; clear n0_ n1_ n2_))
  have HAT := Aside0.mk (HATT.out g1)
  clear HATT HCON
  refine mono_sink (T := _) (B := [0, 1, 3, 0, 8, 24, 0, 88, 216, 511, 0, 2047]) (n := 12) (s := 11) [(0, 29, VP.is (Value.slice (some ad) 32 c0)), (1, 30, VP.is (Value.pointer (some ad))), (2, 31, VP.is (Value.int .u8 z0)), (3, 32, VP.is (Value.func (.func 21) #[] #[.pointer (some ⟨g1, 0, none⟩)])), (4, 33, VP.is (Value.int .u64 (numI l 2 2))), (5, 34, VP.is (Value.int .u16 (numI l 2 2))), (6, 35, VP.is (Value.func (.func 21) #[] #[.pointer (some ⟨g1, 0, none⟩)])), (7, 36, VP.is (Value.int .u64 (numI l 4 4))), (8, 37, VP.is (Value.int .u32 (numI l 4 4))), (9, 38, VP.is (Value.agg (InoV.mk z0 (numI l 2 2) (numI l 4 4) 0 0 0 0 0).cells)), (10, 5, VP.blk w4.heap.size InoV.nought.cells 26)] rfl (by kernel_rfl) (by kernel_rfl) rfl (by kernel_rfl) (by kernel_rfl) (by kernel_rfl) (by kernel_rfl) (by kernel_rfl) ?_ ?_
  · refine ms_cons ?_ <| ms_cons ?_ <| ms_cons ?_ <| ms_cons ?_ <| ms_cons ?_ <| ms_cons ?_ <| ms_cons ?_ <| ms_cons ?_ <| ms_cons ?_ <| ms_cons ?_ <| ms_cons ?_ <| ms_nil
    · intro act_ w' H
      have e1 := H.tmp (t := 1) rfl (by kernel_rfl)
      have ev1 := eval_of e1
      have hcc : w'.cell? ⟨g1, 0, none⟩ = some (.slice (some ad) 32 c0) := cell_of_row w' g1 0 _ _ _ (blk_below HK1.out H.below)
      refine ms_val rfl rfl rfl (Value.slice (some ad) 32 c0) w' ?_ (Below.refl _ _) rfl
      · go_simp
        try rfl
    · intro act_ w' H
      obtain ⟨_, e29, rfl⟩ := H.on 0 rfl (by kernel_rfl)
      have ev29 := eval_of e29
      refine ms_val rfl rfl rfl (Value.pointer (some ad)) w' ?_ (Below.refl _ _) rfl
      · go_simp
        try rfl
    · intro act_ w' H
      obtain ⟨_, e30, rfl⟩ := H.on 1 rfl (by kernel_rfl)
      have ev30 := eval_of e30
      have hcc := HC0.out w' (HB.out.trans (H.below.mono HB.out.size))
      refine ms_val rfl rfl rfl (Value.int .u8 z0) w' ?_ (Below.refl _ _) rfl
      · go_simp
        try rfl
    · intro act_ w' H
      have e4 := H.tmp (t := 4) rfl (by kernel_rfl)
      have ev4 := eval_of e4
      refine ms_val rfl rfl rfl (Value.func (.func 21) #[] #[.pointer (some ⟨g1, 0, none⟩)]) w' ?_ (Below.refl _ _) rfl
      · go_simp
        try rfl
    · intro act_ w' H
      obtain ⟨_, e32, rfl⟩ := H.on 3 rfl (by kernel_rfl)
      have ev32 := eval_of e32
      exact ms_callv rfl rfl rfl Try.func21 (by kernel_rfl) rfl _ #[.pointer (some ⟨g1, 0, none⟩)] #[.int .i64 2, .int .i64 2, .pointer (some ⟨g1, 0, none⟩)] rfl ev32 (by simp [Act.eval]) ((HAT.out 2 2 w' (HB.out.trans (H.below.mono HB.out.size)) (blk_below HK1.out H.below) (by decide) (by decide) (by decide) (by decide)).mono fun e w1 ⟨he, hdr⟩ => ⟨_, he, hdr.below, rfl⟩)
    · intro act_ w' H
      obtain ⟨_, e33, rfl⟩ := H.on 4 rfl (by kernel_rfl)
      have ev33 := eval_of e33
      have hw := HWR.out _ N2.out
      refine ms_val rfl rfl rfl (Value.int .u16 (numI l 2 2)) w' ?_ (Below.refl _ _) rfl
      · go_simp
        try rfl
    · intro act_ w' H
      have e4 := H.tmp (t := 4) rfl (by kernel_rfl)
      have ev4 := eval_of e4
      refine ms_val rfl rfl rfl (Value.func (.func 21) #[] #[.pointer (some ⟨g1, 0, none⟩)]) w' ?_ (Below.refl _ _) rfl
      · go_simp
        try rfl
    · intro act_ w' H
      obtain ⟨_, e35, rfl⟩ := H.on 6 rfl (by kernel_rfl)
      have ev35 := eval_of e35
      exact ms_callv rfl rfl rfl Try.func21 (by kernel_rfl) rfl _ #[.pointer (some ⟨g1, 0, none⟩)] #[.int .i64 4, .int .i64 4, .pointer (some ⟨g1, 0, none⟩)] rfl ev35 (by simp [Act.eval]) ((HAT.out 4 4 w' (HB.out.trans (H.below.mono HB.out.size)) (blk_below HK1.out H.below) (by decide) (by decide) (by decide) (by decide)).mono fun e w1 ⟨he, hdr⟩ => ⟨_, he, hdr.below, rfl⟩)
    · intro act_ w' H
      obtain ⟨_, e36, rfl⟩ := H.on 7 rfl (by kernel_rfl)
      have ev36 := eval_of e36
      have hw := HWR4.out _ N4.out
      refine ms_val rfl rfl rfl (Value.int .u32 (numI l 4 4)) w' ?_ (Below.refl _ _) rfl
      · go_simp
        try rfl
    · intro act_ w' H
      obtain ⟨_, e31, rfl⟩ := H.on 2 rfl (by kernel_rfl)
      have ev31 := eval_of e31
      obtain ⟨_, e34, rfl⟩ := H.on 5 rfl (by kernel_rfl)
      have ev34 := eval_of e34
      obtain ⟨_, e37, rfl⟩ := H.on 8 rfl (by kernel_rfl)
      have ev37 := eval_of e37
      refine ms_val rfl rfl rfl (Value.agg (InoV.mk z0 (numI l 2 2) (numI l 4 4) 0 0 0 0 0).cells) w' ?_ (Below.refl _ _) rfl
      unfold execOp
      simp [ev31, ev34, ev37, build_ino3]
    · intro act_ w' H
      exact ms_val rfl rfl rfl _ _ (ex_alloc w' _ rfl _ zero_ino) (below_alloc (Below.refl _ _) _) ⟨_, rfl, H.below.size, blk_new _ _⟩
  intro w5 hb5
  rintro _ rfl _ rfl _ rfl _ rfl _ rfl _ rfl _ rfl _ rfl _ rfl _ rfl v5 ⟨g5, rfl, hg5, hk5⟩
  simp only [Act.put, List.setIfInBounds_toArray, List.set_cons_zero, List.set_cons_succ]
  refine ⟨_, rfl, fun K hK => ?_⟩
  refine sink_store_all rfl rfl 26 _ _ rfl g5 rfl _ _ hk5 (.agg (InoV.mk z0 (numI l 2 2) (numI l 4 4) 0 0 0 0 0).cells) rfl rfl InoV.one info_ino ?_
  intro w6 hk6 hg6 hs6
  refine hK _ _ ?_
  have HN15 := Aside0.mk (show g1 ≠ g5 by have := blk_lt HK1.out; omega)
  have HN25 := Aside0.mk (show g2 ≠ g5 by have := blk_lt HK2.out.blk; omega)
  have HG5 := Aside0.mk (Nat.le_trans HB.out.size hg5)
  have n0_ := Aside0.mk (show w6.heap[g1]? = some (.cells (Value.slice (some ad) 32 c0).cells 27 (0, 0)) from grown_blk hg6 (blk_below HK1.out hb5) (fun e => HN15.out (by injection e)))
  have n1_ := Aside0.mk (show Below w.heap.size w w6 from grown_below (HB.out.trans (hb5.mono HB.out.size)) hg6 (Nat.le_trans HB.out.size hb5.size) HG5.out)
  have n2_ := Aside0.mk (show InoAt 26 w6 g2 InoV.nought from grown_blk hg6 (blk_below HK2.out.blk hb5) (fun e => HN25.out (by injection e)))
  have HK5 := Aside0.mk (show InoAt 26 w6 g5 (fillI l 0) from by rw [InoAt, fillI, HZ0.out]; exact hk6)
  clear hk6 hg6 hs6 hk5 hg5 hb5 hK HK1 HK2 HB
  have HK1 := n0_
  have HB := n1_
  have HK2 := n2_
  clear n0_ n1_ n2_
  go_wp2
  go_loopg [39] 3 (fun gk v39 w' => ∃ i : Nat, v39 = .int .i64 i ∧ Aside0 (gk + i = 3) ∧ Aside0 (w'.heap[g1]? = some (.cells (Value.slice (some ad) 32 c0).cells 27 (0, 0))) ∧ Aside0 (InoAt 26 w' g2 InoV.nought) ∧ Aside0 (InoAt 26 w' g5 (fillI l i)) ∧ Aside0 (Below w.heap.size w w'))
  case atStart => exact ⟨0, rfl, ⟨rfl⟩, HK1, HK2, HK5, HB⟩
  case round =>
    clear HK1 HK2 HK5 HB
    obtain ⟨i, rfl, HI, HK1, HK2, HK5, HB⟩ := hrel
    by_cases hi : i < 3
    · have hil : (i : Int) < 3 := by omega
      have hib : decide ((i : Int) < 3) = true := decide_eq_true hil
      have HIL := Aside0.mk (show i < 5 by omega)
      have HIL3 := Aside0.mk hi
      have hw := HWR.out _ (NI.out (8 + 2 * (i : Int)) (by omega) (by omega))
      clear hi
      go_wp2_with (first | (go_at_call 21; (with_reducible refine (HAT.out (8 + 2 * (i : Int)) 2 _ HB.out HK1.out (by omega) (by omega) (by omega) (by omega)).mono ?_); rintro e w6 ⟨rfl, hdr⟩; have hb := hdr.below; have n0_ := Aside0.mk (blk_below HK1.out hb); have n1_ := Aside0.mk (HB.out.trans (hb.mono HB.out.size)); have n2_ := Aside0.mk (show InoAt 26 w6 g2 InoV.nought from blk_below HK2.out.blk hb); have n3_ := Aside0.mk (show InoAt 26 w6 g5 _ from blk_below HK5.out.blk hb); clear HK1 HK2 HB HK5; have HK1 := n0_; have HB := n1_; have HK2 := n2_; have HK5 := n3_; clear n0_ n1_ n2_ n3_; clear hb hdr) | ((with_reducible refine gate_store (t := 22) (p := 50) rfl ?_); refine wl_store_cell rfl rfl 22 _ _ rfl g5 (3 + i) rfl _ 26 HK5.out.blk (.int .u16 (numI l (8 + 2 * (i : Int)) 2)) rfl rfl ?side1 rfl info_u16 ?_; (case side1 => show (3 + i) < 8; have := HIL.out; omega); intro w7 hk7 hg7 hs7; have n0_ := Aside0.mk (grown_blk hg7 HK1.out (fun e => HN15.out (by injection e))); have n1_ := Aside0.mk (show Below w.heap.size w w7 from grown_below HB.out hg7 HB.out.size HG5.out); have n2_ := Aside0.mk (show InoAt 26 w7 g2 InoV.nought from grown_blk hg7 HK2.out.blk (fun e => HN25.out (by injection e))); have n3_ := Aside0.mk (show InoAt 26 w7 g5 (fillI l (i + 1)) from by rw [InoAt, ← fillI_put l i HIL.out]; exact hk7); clear hk7 hg7 hs7 HK1 HK2 HB HK5; have HK1 := n0_; have HB := n1_; have HK2 := n2_; have HK5 := n3_; clear n0_ n1_ n2_ n3_))
      go_roundg (gk - 1)
      case measure => have := HI.out; have := HIL3.out; omega
      case rel => exact ⟨i + 1, by go_num, ⟨by have := HI.out; have := HIL3.out; omega⟩, HK1, HK2, HK5, HB⟩
    · have h3 : i = 3 := by have := HI.out; omega
      subst h3
      have hib : decide (((3 : Nat) : Int) < 3) = false := by decide
      have hw14 := HWR.out _ (NI.out 14 (by decide) (by decide))
      have hw16 := HWR.out _ (NI.out 16 (by decide) (by decide))
      clear hi
      go_wp2_with (first | (go_at_call 21; (with_reducible refine (HAT.out 14 2 _ HB.out HK1.out (by omega) (by omega) (by omega) (by omega)).mono ?_); rintro e w6 ⟨rfl, hdr⟩; have hb := hdr.below; have n0_ := Aside0.mk (blk_below HK1.out hb); have n1_ := Aside0.mk (HB.out.trans (hb.mono HB.out.size)); have n2_ := Aside0.mk (show InoAt 26 w6 g2 InoV.nought from blk_below HK2.out.blk hb); have n3_ := Aside0.mk (show InoAt 26 w6 g5 _ from blk_below HK5.out.blk hb); clear HK1 HK2 HB HK5; have HK1 := n0_; have HB := n1_; have HK2 := n2_; have HK5 := n3_; clear n0_ n1_ n2_ n3_; clear hb hdr) | (go_at_call 21; (with_reducible refine (HAT.out 16 2 _ HB.out HK1.out (by omega) (by omega) (by omega) (by omega)).mono ?_); rintro e w6 ⟨rfl, hdr⟩; have hb := hdr.below; have n0_ := Aside0.mk (blk_below HK1.out hb); have n1_ := Aside0.mk (HB.out.trans (hb.mono HB.out.size)); have n2_ := Aside0.mk (show InoAt 26 w6 g2 InoV.nought from blk_below HK2.out.blk hb); have n3_ := Aside0.mk (show InoAt 26 w6 g5 _ from blk_below HK5.out.blk hb); clear HK1 HK2 HB HK5; have HK1 := n0_; have HB := n1_; have HK2 := n2_; have HK5 := n3_; clear n0_ n1_ n2_ n3_; clear hb hdr) | ((with_reducible refine gate_store (t := 22) (p := 58) rfl ?_); refine wl_store_cell rfl rfl 22 _ _ rfl g5 6 rfl _ 26 HK5.out.blk (.int .u16 (numI l 14 2)) rfl rfl ?side1 rfl info_u16 ?_; (case side1 => show 6 < 8; omega); intro w7 hk7 hg7 hs7; have n0_ := Aside0.mk (grown_blk hg7 HK1.out (fun e => HN15.out (by injection e))); have n1_ := Aside0.mk (show Below w.heap.size w w7 from grown_below HB.out hg7 HB.out.size HG5.out); have n2_ := Aside0.mk (show InoAt 26 w7 g2 InoV.nought from grown_blk hg7 HK2.out.blk (fun e => HN25.out (by injection e))); have n3_ := Aside0.mk (show InoAt 26 w7 g5 (fillI l (3 + 1)) from by rw [InoAt, ← fillI_put l 3 (by decide)]; exact hk7); clear hk7 hg7 hs7 HK1 HK2 HB HK5; have HK1 := n0_; have HB := n1_; have HK2 := n2_; have HK5 := n3_; clear n0_ n1_ n2_ n3_) | ((with_reducible refine gate_store (t := 22) (p := 59) rfl ?_); refine wl_store_cell rfl rfl 22 _ _ rfl g5 7 rfl _ 26 HK5.out.blk (.int .u16 (numI l 16 2)) rfl rfl ?side1 rfl info_u16 ?_; (case side1 => show 7 < 8; omega); intro w7 hk7 hg7 hs7; have n0_ := Aside0.mk (grown_blk hg7 HK1.out (fun e => HN15.out (by injection e))); have n1_ := Aside0.mk (show Below w.heap.size w w7 from grown_below HB.out hg7 HB.out.size HG5.out); have n2_ := Aside0.mk (show InoAt 26 w7 g2 InoV.nought from grown_blk hg7 HK2.out.blk (fun e => HN25.out (by injection e))); have n3_ := Aside0.mk (show InoAt 26 w7 g5 (fillI l (4 + 1)) from by rw [InoAt, ← fillI_put l 4 (by decide)]; exact hk7); clear hk7 hg7 hs7 HK1 HK2 HB HK5; have HK1 := n0_; have HB := n1_; have HK2 := n2_; have HK5 := n3_; clear n0_ n1_ n2_ n3_) | ((with_reducible refine gate_op (N := .load 26 (.tmp 5)) rfl ?_); refine wl_load_blk rfl _ _ rfl g5 rfl (fillI l 5).cells 26 _ HK5.out.blk Try.underlying26 rfl info_ino ?_) | ((with_reducible refine gate_store (t := 26) (p := 2) rfl ?_); refine wl_store_all rfl rfl 26 _ _ rfl g2 rfl _ _ HK2.out.blk (.agg (fillI l 5).cells) rfl rfl InoV.one info_ino ?_; intro w8 hk8 hg8 hs8; have HK8 := Aside0.mk (show InoAt 26 w8 g2 (getI l) from hk8); have n1_ := Aside0.mk (show Below w.heap.size w w8 from grown_below HB.out hg8 HB.out.size HG2.out); clear hk8 hg8 hs8 HB HK2; have HB := n1_; clear n1_))
      exact bodyPost_ret (results_cell2 rfl _ _ g2 26 (getI l).cells _ rfl HK8.out.blk Try.underlying26 rfl info_ino) rfl ⟨rfl, HB.out⟩
/-- inode.Get. -/
theorem inode_Get.calls (A0 : Option Addr) (c0 : Nat) (l : List Int) (w : World) (hr : Kd.C (Kd.int .u8) w A0 l.length l) (hc0 : l.length ≤ c0) (hu : u8s l) :
    Calls Try.prog 10 #[.slice A0 l.length c0] w fun e w' => e = .returned (.tuple #[.agg (formI l).1.cells, .int .i64 (formI l).2]) ∧ Below w.heap.size w w' := by
  by_cases hl : l.length = 32
  · rw [hl] at hr hc0 ⊢
    obtain ⟨ad, rfl, _⟩ := (Kd.reads_of_C (enc := Value.int .u8) (d := (0 : Int)) (h1 := fun _ => rfl) hr).2.2 (by decide)
    by_cases h : okI l
    · have : formI l = (getI l, 0) := by unfold formI; rw [if_pos h]
      rw [this]
      exact inode_Get_yes ad c0 l w hr hc0 hu h
    · have : formI l = (InoV.nought, 11) := by unfold formI; rw [if_neg h]
      rw [this]
      exact inode_Get_no ad c0 l w hr hl hc0 hu h
  · have : formI l = (InoV.nought, 11) := by unfold formI; rw [if_neg (fun h => hl h.1)]
    rw [this]
    exact inode_Get_len A0 _ c0 hl w
end Go.Proofs.Ytpdobinpndfgfaa.Q
