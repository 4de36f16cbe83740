/- The statement InodeBytes, walked. -/
import Derived.Test.YtpdobinpndfgfaaHAwake
namespace Go.Proofs.Ytpdobinpndfgfaa.Q
open Go.RowKit Go.Proofs.YtpdobinpndfgfaaW.PrintWords Go.Proofs.YtpdobinpndfgfaaW.PrintLast Go.Proofs.YtpdobinpndfgfaaW.PrintMore Go.Proofs.Ytpdobinpndfgfaa.Pure
attribute [local go_sem] max2_int min2_int max_two min_two max_three min_three max_four min_four
set_option linter.unusedVariables false
set_option linter.unusedSimpArgs false
/-- What stays through InodeBytes. -/
structure IB (w w' : World) (g2 : Nat) (c : InoV) (ad6 : Addr) : Prop where
  below : Below w.heap.size w w'
  k2 : InoAt 26 w' g2 c
  row : Kd.C (Kd.int .u8) w' (some ad6) 32 c.bytes
theorem IB.go {w w1 w2 : World} {g2 : Nat} {c : InoV} {ad6 : Addr} (h : IB w w1 g2 c ad6) (hb : Below w1.heap.size w1 w2) : IB w w2 g2 c ad6 :=
  ⟨h.below.trans (hb.mono h.below.size), blk_below h.k2.blk hb, Kd.C_below h.row hb⟩
set_option maxHeartbeats 4000000 in
set_option maxRecDepth 100000 in
theorem InodeBytes.walk (w : World) (c : InoV) (hc : c.Ok) (A1 : Option Addr) (c1 : Nat) (l : List Int) (hr : Kd.C (Kd.int .u8) w A1 l.length l) (hcap : l.length ≤ c1) (hu : u8s l) (hsz : l.length ≤ 140737488351232) :
    Calls Try.prog 3 #[.agg c.cells, .slice A1 l.length c1] w fun e w' => e = .returned (.bool true) ∧ Below w.heap.size w w' := by
  have HC := Aside0.mk hc
  have HU := Aside0.mk hu
  have HR := Aside0.mk hr
  have HCAP := Aside0.mk hcap
  obtain ⟨z, hz⟩ : ∃ z : InoV, z = (formI l).1 := ⟨_, rfl⟩
  obtain ⟨q, hq⟩ : ∃ q : Int, q = (formI l).2 := ⟨_, rfl⟩
  obtain ⟨y, hy⟩ : ∃ y : InoV, y = (formI c.bytes).1 := ⟨_, rfl⟩
  obtain ⟨p, hp⟩ : ∃ p : Int, p = (formI c.bytes).2 := ⟨_, rfl⟩
  have hzo : z.Ok := by rw [hz]; exact formI_ok l hu
  have HZO := Aside0.mk hzo
  have HGET := Aside0.mk (fun (W : World) (h : Kd.C (Kd.int .u8) W A1 l.length l) => show Calls Try.prog 10 #[.slice A1 l.length c1] W (fun e w' => e = .returned (.tuple #[.agg z.cells, .int .i64 q]) ∧ Below W.heap.size W w') from by rw [hz, hq]; exact inode_Get.calls A1 c1 l W h hcap hu)
  have HGETC := Aside0.mk (fun (ad : Addr) (cc : Nat) (W : World) (h : Kd.C (Kd.int .u8) W (some ad) 32 c.bytes) (hcc : 32 ≤ cc) => show Calls Try.prog 10 #[.slice (some ad) 32 cc] W (fun e w' => e = .returned (.tuple #[.agg y.cells, .int .i64 p]) ∧ Below W.heap.size W w') from by rw [hy, hp]; exact inode_Get_at c.bytes (c.bytes_u8s hc) ad 32 cc c.bytes_length W h hcc)
  have HRGET := Aside0.mk (fun (h200 : l.length ≤ 200) (W : World) => show Calls Try.prog 11 #[.string (strOfNums l)] W (fun e w' => e = .returned (.tuple #[.agg z.cells, .int .i64 q]) ∧ Below W.heap.size W w') from by
    have h1 := ref_Get.calls (strOfNums l) W (by rw [strOfNums_size]; exact h200)
    rw [bytesOf_str hu] at h1
    rw [hz, hq]
    exact h1)
  have HEND := Aside0.mk (show (q = 0 ∧ z.bytes = l) ∨ q = 11 from by
    by_cases h : okI l
    · exact .inl ⟨by rw [hq]; unfold formI; rw [if_pos h], by rw [hz]; unfold formI; rw [if_pos h]; exact bytes_getI l hu h⟩
    · exact .inr (by rw [hq]; unfold formI; rw [if_neg h]))
  have HY := Aside0.mk (show (c.k ≤ 3 ∧ y = c ∧ p = 0) ∨ (3 < c.k ∧ p = 11) from by
    have h1 := formI_bytes hc
    by_cases h : c.k ≤ 3
    · rw [if_pos h] at h1
      exact .inl ⟨h, by rw [hy, h1], by rw [hp, h1]⟩
    · rw [if_neg h] at h1
      exact .inr ⟨by omega, by rw [hp, h1]⟩)
  have HNN := Aside0.mk (fun W : World => neq_N z z W)
  clear hc hr hcap hz hq hzo hu hy hp
  by_cases h300 : (200 : Int) < (l.length : Int)
  · have hd : decide ((200 : Int) < (l.length : Int)) = true := decide_eq_true h300
    have hd2 : decide (200 < l.length) = true := decide_eq_true (by omega)
    go_enter Try.func3, Try.ntmps3
    go_wp2_with (first | ((with_reducible refine gate_op (N := .box 26 (.tmp 0)) rfl ?_); refine wl_box rfl 26 _ rfl (.agg c.cells) rfl ?_; intro g1 hg w1 hblk hb hsz; have HB1 := Aside0.mk hb; clear hg hblk hb hsz) | (go_at_call 8; (with_reducible refine (awake19.calls _).mono ?_); rintro e w3 ⟨rfl, hb⟩; have HB := Aside0.mk (HB1.out.trans (hb.mono HB1.out.size)); clear hb HB1))
    go_ret
    exact ⟨rfl, HB.out⟩
  · have hd : decide ((200 : Int) < (l.length : Int)) = false := decide_eq_false h300
    have hd2 : decide (200 < l.length) = false := decide_eq_false (by omega)
    have hle : (l.length : Int) ≤ 200 := by omega
    have HLE := Aside0.mk (show l.length ≤ 200 by omega)
    clear h300
    go_enter Try.func3, Try.ntmps3
    go_wp2_with (first | ((with_reducible refine gate_op (N := .box 26 (.tmp 0)) rfl ?_); refine wl_box rfl 26 _ rfl (.agg c.cells) rfl ?_; intro g2 hg w1 hblk hb hsz; have HK2 := Aside0.mk (show InoAt 26 w1 g2 c from hblk); have HB := Aside0.mk hb; clear hg hblk hb hsz) | (go_at_call 8; (with_reducible refine (awake19.calls _).mono ?_); rintro e w3 ⟨rfl, hb⟩; have n0_ := Aside0.mk (show InoAt 26 w3 g2 c from blk_below HK2.out.blk hb); have n2_ := Aside0.mk (HB.out.trans (hb.mono HB.out.size)); clear hb HK2 HB; have HK2 := n0_; have HB := n2_; clear n0_ n2_) | ((with_reducible refine gate_op (N := .load 26 (.tmp 2)) rfl ?_); refine wl_load_blk rfl _ _ rfl g2 rfl c.cells 26 _ HK2.out.blk Try.underlying26 rfl info_ino ?_) | (go_at_call 9; (with_reducible refine (inode_Put_reads c HC.out _).mono ?_); rintro e w4 ⟨ad6, c6, rfl, hl4, hc4, hb⟩; have HLC6 := Aside0.mk hl4; have HI := Aside0.mk (show IB w w4 g2 c ad6 from ⟨HB.out.trans (hb.mono HB.out.size), blk_below HK2.out.blk hb, hc4⟩); clear hb hl4 hc4 HK2 HB; have tokA : True := trivial) | (go_at_call 10; have _t := tokA; (with_reducible refine (HGETC.out _ _ _ HI.out.row HLC6.out).mono ?_); rintro e w5 ⟨rfl, hb⟩; have n0_ := Aside0.mk (HI.out.go hb); clear hb HI tokA; have HI := n0_; clear n0_; have tokB : True := trivial) | (go_at_call 10; have _t := tokB; (with_reducible refine (HGET.out _ (Kd.C_below HR.out HI.out.below)).mono ?_); rintro e w5 ⟨rfl, hb⟩; have n0_ := Aside0.mk (HI.out.go hb); have n3_ := Aside0.mk (show InoAt 26 w5 g7 y from blk_below HK7.out.blk hb); clear hb HI HK7 tokB; have HI := n0_; have HK7 := n3_; clear n0_ n3_) | ((with_reducible refine gate_dst (N := 33) rfl ?_); refine wl_val rfl (.string (strOfNums l)) (ex_string_row _ _ _ _ _ rfl Try.underlying27 Try.underlying5 Try.underlying9 A1 c1 _ rfl (Kd.C_below HR.out HI.out.below)) ?_) | (go_at_call 11; (with_reducible refine (HRGET.out HLE.out _).mono ?_); rintro e w5 ⟨rfl, hb⟩; have n0_ := Aside0.mk (HI.out.go hb); have n3_ := Aside0.mk (show InoAt 26 w5 g7 y from blk_below HK7.out.blk hb); have n4_ := Aside0.mk (show InoAt 26 w5 g9 z from blk_below HK9.out.blk hb); clear hb HI HK7 HK9; have HI := n0_; have HK7 := n3_; have HK9 := n4_; clear n0_ n3_ n4_) | ((with_reducible refine gate_dst (N := 7) rfl ?_); refine wl_alloc rfl 26 rfl _ zero_ino ?_; intro g7 hg w6 hblk hb hsz; have HGE := Aside0.mk hg; have HAL := Aside0.mk hb; have HZE := Aside0.mk hblk; clear hg hblk hb hsz) | ((with_reducible refine gate_dst (N := 9) rfl ?_); refine wl_alloc rfl 26 rfl _ zero_ino ?_; intro g9 hg w6 hblk hb hsz; have HGE := Aside0.mk hg; have HAL := Aside0.mk hb; have HZE := Aside0.mk hblk; clear hg hblk hb hsz) | ((with_reducible refine gate_dst (N := 11) rfl ?_); refine wl_alloc rfl 35 rfl _ zero_N ?_; intro g11 hg w6 hblk hb hsz; have HGE := Aside0.mk hg; have HAL := Aside0.mk hb; have HZE := Aside0.mk hblk; clear hg hblk hb hsz) | ((with_reducible refine gate_store (t := 26) (p := 7) rfl ?_); refine wl_store_all rfl rfl 26 _ _ rfl g7 rfl _ _ HZE.out (.agg y.cells) rfl rfl InoV.one info_ino ?_; intro w7 hk7 hg7 hs7; have hbx := grown_below HAL.out hg7 HAL.out.size (by rw [HGE.out]; exact Nat.le_refl _); have HK7 := Aside0.mk (show InoAt 26 w7 g7 y from hk7); have m0_ := Aside0.mk (HI.out.go hbx); clear HI; have HI := m0_; clear m0_; clear hbx hk7 hg7 hs7 HAL HGE HZE) | ((with_reducible refine gate_store (t := 26) (p := 9) rfl ?_); refine wl_store_all rfl rfl 26 _ _ rfl g9 rfl _ _ HZE.out (.agg z.cells) rfl rfl InoV.one info_ino ?_; intro w7 hk7 hg7 hs7; have hbx := grown_below HAL.out hg7 HAL.out.size (by rw [HGE.out]; exact Nat.le_refl _); have HK9 := Aside0.mk (show InoAt 26 w7 g9 z from hk7); have m0_ := Aside0.mk (HI.out.go hbx); have m3_ := Aside0.mk (show InoAt 26 w7 g7 y from blk_below HK7.out.blk hbx); clear HI HK7; have HI := m0_; have HK7 := m3_; clear m0_ m3_; clear hbx hk7 hg7 hs7 HAL HGE HZE) | ((with_reducible refine gate_store (t := 35) (p := 11) rfl ?_); refine wl_store_all rfl rfl 35 _ _ rfl g11 rfl _ _ HZE.out (.agg z.cells) rfl rfl InoV.one info_N ?_; intro w7 hk7 hg7 hs7; have hbx := grown_below HAL.out hg7 HAL.out.size (by rw [HGE.out]; exact Nat.le_refl _); have HK11 := Aside0.mk (show InoAt 35 w7 g11 z from hk7); have m0_ := Aside0.mk (HI.out.go hbx); have m3_ := Aside0.mk (show InoAt 26 w7 g7 y from blk_below HK7.out.blk hbx); have m4_ := Aside0.mk (show InoAt 26 w7 g9 z from blk_below HK9.out.blk hbx); clear HI HK7 HK9; have HI := m0_; have HK7 := m3_; have HK9 := m4_; clear m0_ m3_ m4_; clear hbx hk7 hg7 hs7 HAL HGE HZE))
    refine mono_region (T := _) (B := [0, 1, 0, 4, 12, 31, 63, 127, 255, 127, 1023, 2047, 4095, 8191, 8191, 32767, 65535]) (n := 17) [(0, 37, VP.is (Value.slice (some ad6) 32 c6)), (1, 38, VP.is (Value.string (strOfNums c.bytes))), (2, 39, VP.is (Value.agg c.cells)), (3, 40, VP.is (Value.agg c.cells)), (4, 41, VP.is (Value.string (strOfNums c.bytes))), (5, 42, VP.is (Value.bool false)), (6, 43, VP.is (Value.bool false)), (7, 44, VP.is (Value.agg z.cells)), (8, 45, VP.is (Value.agg z.cells)), (9, 46, VP.is (Value.agg z.cells)), (10, 47, VP.is (Value.bool false)), (11, 48, VP.is (Value.bool false)), (12, 49, VP.is (Value.bool false)), (13, 50, VP.is (Value.int .i64 q)), (14, 51, VP.is (Value.int .i64 q)), (15, 52, VP.is (Value.bool false)), (16, 53, VP.is (Value.bool false))] rfl (by kernel_rfl) (by kernel_rfl) rfl (by kernel_rfl) (by kernel_rfl) (by kernel_rfl) (by kernel_rfl) (by kernel_rfl) ?_ ?_
    · refine ms_cons ?_ <| ms_cons ?_ <| ms_cons ?_ <| ms_cons ?_ <| ms_cons ?_ <| ms_cons ?_ <| ms_cons ?_ <| ms_cons ?_ <| ms_cons ?_ <| ms_cons ?_ <| ms_cons ?_ <| ms_cons ?_ <| ms_cons ?_ <| ms_cons ?_ <| ms_cons ?_ <| ms_cons ?_ <| ms_cons ?_ <| ms_nil
      · intro act_ w' H
        have e6 := H.tmp (t := 6) rfl (by kernel_rfl)
        have ev6 := eval_of e6
        refine ms_val rfl rfl rfl (Value.slice (some ad6) 32 c6) w' ?_ (Below.refl _ _) rfl
        · go_simp
          try rfl
      · intro act_ w' H
        obtain ⟨_, e37, rfl⟩ := H.on 0 rfl (by kernel_rfl)
        have ev37 := eval_of e37
        refine ms_val rfl rfl rfl (Value.string (strOfNums c.bytes)) w' ?_ (Below.refl _ _) rfl
        exact ex_string_row w' _ _ _ _ rfl Try.underlying27 Try.underlying5 Try.underlying9 (some ad6) c6 _ (by rw [c.bytes_length]; exact ev37) (by rw [c.bytes_length]; exact Kd.C_below HI.out.row H.below)
      · intro act_ w' H
        have e2 := H.tmp (t := 2) rfl (by kernel_rfl)
        have ev2 := eval_of e2
        refine ms_val rfl rfl rfl (Value.agg c.cells) w' ?_ (Below.refl _ _) rfl
        exact ex_load_blk w' _ _ rfl g2 ev2 c.cells _ _ (blk_below HI.out.k2.blk H.below) Try.underlying26 rfl info_ino
      · intro act_ w' H
        obtain ⟨_, e39, rfl⟩ := H.on 2 rfl (by kernel_rfl)
        have ev39 := eval_of e39
        exact ms_call rfl rfl rfl Try.func13 (by kernel_rfl) rfl #[.agg c.cells] rfl (by simp [ev39]) ((modelOf.calls c _).mono fun e w1 ⟨he, hb⟩ => ⟨_, he, hb, rfl⟩)
      · intro act_ w' H
        obtain ⟨_, e40, rfl⟩ := H.on 3 rfl (by kernel_rfl)
        have ev40 := eval_of e40
        exact ms_call rfl rfl rfl Try.func12 (by kernel_rfl) rfl #[.agg c.cells] rfl (by simp [ev40]) ((ref_Put.calls c HC.out _).mono fun e w1 ⟨he, hb⟩ => ⟨_, he, hb, rfl⟩)
      · intro act_ w' H
        obtain ⟨_, e38, rfl⟩ := H.on 1 rfl (by kernel_rfl)
        have ev38 := eval_of e38
        obtain ⟨_, e41, rfl⟩ := H.on 4 rfl (by kernel_rfl)
        have ev41 := eval_of e41
        refine ms_val rfl rfl rfl (Value.bool false) w' ?_ (Below.refl _ _) rfl
        · go_simp
          try rfl
      · intro act_ w' H
        obtain ⟨_, e42, rfl⟩ := H.on 5 rfl (by kernel_rfl)
        have ev42 := eval_of e42
        refine ms_val rfl rfl rfl (Value.bool false) w' ?_ (Below.refl _ _) rfl
        · go_simp
          try rfl
      · intro act_ w' H
        have e9 := H.tmp (t := 9) rfl (by kernel_rfl)
        have ev9 := eval_of e9
        obtain ⟨_, e43, rfl⟩ := H.on 6 rfl (by kernel_rfl)
        have ev43 := eval_of e43
        refine ms_val rfl rfl (wanted_on rfl rfl rfl e43) (Value.agg z.cells) w' ?_ (Below.refl _ _) rfl
        exact ex_load_blk w' _ _ rfl g9 ev9 z.cells _ _ (blk_below HK9.out.blk H.below) Try.underlying26 rfl info_ino
      · intro act_ w' H
        obtain ⟨_, e44, rfl⟩ := H.on 7 rfl (by kernel_rfl)
        have ev44 := eval_of e44
        obtain ⟨_, e43, rfl⟩ := H.on 6 rfl (by kernel_rfl)
        have ev43 := eval_of e43
        exact ms_call rfl rfl (wanted_on rfl rfl rfl e43) Try.func13 (by kernel_rfl) rfl #[.agg z.cells] rfl (by simp [ev44]) ((modelOf.calls z _).mono fun e w1 ⟨he, hb⟩ => ⟨_, he, hb, rfl⟩)
      · intro act_ w' H
        have e11 := H.tmp (t := 11) rfl (by kernel_rfl)
        have ev11 := eval_of e11
        obtain ⟨_, e43, rfl⟩ := H.on 6 rfl (by kernel_rfl)
        have ev43 := eval_of e43
        refine ms_val rfl rfl (wanted_on rfl rfl rfl e43) (Value.agg z.cells) w' ?_ (Below.refl _ _) rfl
        exact ex_load_blk w' _ _ rfl g11 ev11 z.cells _ _ (blk_below HK11.out.blk H.below) Try.underlying35 rfl info_N
      · intro act_ w' H
        obtain ⟨_, e45, rfl⟩ := H.on 8 rfl (by kernel_rfl)
        have ev45 := eval_of e45
        obtain ⟨_, e46, rfl⟩ := H.on 9 rfl (by kernel_rfl)
        have ev46 := eval_of e46
        obtain ⟨_, e43, rfl⟩ := H.on 6 rfl (by kernel_rfl)
        have ev43 := eval_of e43
        refine ms_val rfl rfl (wanted_on rfl rfl rfl e43) (Value.bool false) w' ?_ (Below.refl _ _) rfl
        exact ex_binop w' _ _ _ _ _ rfl _ _ ev45 ev46 (guard_N _ _ _ _ _ w') _ (by rw [neq_N z z w', z.sameN_self]; rfl)
      · intro act_ w' H
        obtain ⟨_, e43, rfl⟩ := H.on 6 rfl (by kernel_rfl)
        have ev43 := eval_of e43
        obtain ⟨_, e47, rfl⟩ := H.on 10 rfl (by kernel_rfl)
        have ev47 := eval_of e47
        refine ms_val rfl rfl rfl (Value.bool false) w' ?_ (Below.refl _ _) rfl
        · go_simp
          try rfl
      · intro act_ w' H
        obtain ⟨_, e48, rfl⟩ := H.on 11 rfl (by kernel_rfl)
        have ev48 := eval_of e48
        refine ms_val rfl rfl rfl (Value.bool false) w' ?_ (Below.refl _ _) rfl
        · go_simp
          try rfl
      · intro act_ w' H
        have e10 := H.tmp (t := 10) rfl (by kernel_rfl)
        have ev10 := eval_of e10
        obtain ⟨_, e49, rfl⟩ := H.on 12 rfl (by kernel_rfl)
        have ev49 := eval_of e49
        refine ms_val rfl rfl (wanted_on rfl rfl rfl e49) (Value.int .i64 q) w' ?_ (Below.refl _ _) rfl
        · go_simp
          try rfl
      · intro act_ w' H
        have e12 := H.tmp (t := 12) rfl (by kernel_rfl)
        have ev12 := eval_of e12
        obtain ⟨_, e49, rfl⟩ := H.on 12 rfl (by kernel_rfl)
        have ev49 := eval_of e49
        refine ms_val rfl rfl (wanted_on rfl rfl rfl e49) (Value.int .i64 q) w' ?_ (Below.refl _ _) rfl
        · go_simp
          try rfl
      · intro act_ w' H
        obtain ⟨_, e50, rfl⟩ := H.on 13 rfl (by kernel_rfl)
        have ev50 := eval_of e50
        obtain ⟨_, e51, rfl⟩ := H.on 14 rfl (by kernel_rfl)
        have ev51 := eval_of e51
        obtain ⟨_, e49, rfl⟩ := H.on 12 rfl (by kernel_rfl)
        have ev49 := eval_of e49
        refine ms_val rfl rfl (wanted_on rfl rfl rfl e49) (Value.bool false) w' ?_ (Below.refl _ _) rfl
        · go_simp
          try rfl
      · intro act_ w' H
        obtain ⟨_, e49, rfl⟩ := H.on 12 rfl (by kernel_rfl)
        have ev49 := eval_of e49
        obtain ⟨_, e52, rfl⟩ := H.on 15 rfl (by kernel_rfl)
        have ev52 := eval_of e52
        refine ms_val rfl rfl rfl (Value.bool false) w' ?_ (Below.refl _ _) rfl
        · go_simp
          try rfl
    intro w6 hb6
    rintro _ rfl _ rfl _ rfl _ rfl _ rfl _ rfl _ rfl _ rfl _ rfl _ rfl _ rfl _ rfl _ rfl _ rfl _ rfl _ rfl _ rfl
    simp only [Ends, Act.put, List.setIfInBounds_toArray, List.set_cons_zero, List.set_cons_succ]
    have n0_ := Aside0.mk (show InoAt 26 w6 g9 z from blk_below HK9.out.blk hb6)
    have n1_ := Aside0.mk (HI.out.go hb6)
    have n2_ := Aside0.mk (show InoAt 26 w6 g7 y from blk_below HK7.out.blk hb6)
    clear hb6 HK9 HK7 HK11 HI
    have HK9 := n0_
    have HI := n1_
    have HK7 := n2_
    clear n0_ n1_ n2_
    have HB := Aside0.mk HI.out.below
    rcases HY.out with ⟨h3, rfl, hp0⟩ | ⟨h3, hp11⟩
    · have hd3 : decide (3 < y.k) = false := decide_eq_false (by omega)
      have hd4 : decide (y.k ≤ 3) = true := decide_eq_true h3
      subst hp0
      obtain ⟨a0, a1, a2, a3, a4, a5, a6, a7⟩ := HI.out.k2.all
      obtain ⟨b0, b1, b2, b3, b4, b5, b6, b7⟩ := HK7.out.all
      have hne : ∀ W : World, (binOp .neq 26 (.agg #[.int .u8 y.k, .int .u16 y.li, .int .u32 y.sz, .int .u16 y.b0, .int .u16 y.b1, .int .u16 y.b2, .int .u16 y.s, .int .u16 y.d]) (.agg #[.int .u8 y.k, .int .u16 y.li, .int .u32 y.sz, .int .u16 y.b0, .int .u16 y.b1, .int .u16 y.b2, .int .u16 y.s, .int .u16 y.d])).run Try.prog W = .ok (.bool false) W := fun W => by
        have := neq_ino y y W
        rw [y.same_self] at this
        exact this
      clear h3
      go_wp2
      rcases HEND.out with ⟨hq0, hzb⟩ | hq11
      · subst hq0
        have HZB := Aside0.mk hzb
        clear hzb
        refine mono_region (T := _) (B := [0, 1, 3, 7, 15, 31, 7, 71, 255, 511, 1023]) (n := 11) [(0, 75, VP.is (Value.int .i64 0)), (1, 76, VP.is (Value.bool false)), (2, 77, VP.is (Value.bool false)), (3, 78, VP.is (Value.agg z.cells)), (4, 79, VP.row (Kd.int .u8) z.bytes), (5, 80, VP.is (Value.string (strOfNums l))), (6, 81, VP.is (Value.slice A1 l.length c1)), (7, 82, VP.is (Value.string (strOfNums l))), (8, 83, VP.is (Value.bool true)), (9, 84, VP.is (Value.bool true)), (10, 4, VP.is (Value.bool true))] rfl (by kernel_rfl) (by kernel_rfl) rfl (by kernel_rfl) (by kernel_rfl) (by kernel_rfl) (by kernel_rfl) (by kernel_rfl) ?_ ?_
        · refine ms_cons ?_ <| ms_cons ?_ <| ms_cons ?_ <| ms_cons ?_ <| ms_cons ?_ <| ms_cons ?_ <| ms_cons ?_ <| ms_cons ?_ <| ms_cons ?_ <| ms_cons ?_ <| ms_cons ?_ <| ms_nil
          · intro act_ w' H
            have e10 := H.tmp (t := 10) rfl (by kernel_rfl)
            have ev10 := eval_of e10
            refine ms_val rfl rfl rfl (Value.int .i64 0) w' ?_ (Below.refl _ _) rfl
            · go_simp
              try rfl
          · intro act_ w' H
            obtain ⟨_, e75, rfl⟩ := H.on 0 rfl (by kernel_rfl)
            have ev75 := eval_of e75
            refine ms_val rfl rfl rfl (Value.bool false) w' ?_ (Below.refl _ _) rfl
            · go_simp
              try rfl
          · intro act_ w' H
            obtain ⟨_, e76, rfl⟩ := H.on 1 rfl (by kernel_rfl)
            have ev76 := eval_of e76
            refine ms_val rfl rfl rfl (Value.bool false) w' ?_ (Below.refl _ _) rfl
            · go_simp
              try rfl
          · intro act_ w' H
            have e9 := H.tmp (t := 9) rfl (by kernel_rfl)
            have ev9 := eval_of e9
            obtain ⟨_, e77, rfl⟩ := H.on 2 rfl (by kernel_rfl)
            have ev77 := eval_of e77
            refine ms_val rfl rfl (wanted_on rfl rfl rfl e77) (Value.agg z.cells) w' ?_ (Below.refl _ _) rfl
            exact ex_load_blk w' _ _ rfl g9 ev9 z.cells _ _ (blk_below HK9.out.blk H.below) Try.underlying26 rfl info_ino
          · intro act_ w' H
            obtain ⟨_, e78, rfl⟩ := H.on 3 rfl (by kernel_rfl)
            have ev78 := eval_of e78
            obtain ⟨_, e77, rfl⟩ := H.on 2 rfl (by kernel_rfl)
            have ev77 := eval_of e77
            exact ms_call rfl rfl (wanted_on rfl rfl rfl e77) Try.func9 (by kernel_rfl) rfl #[.agg z.cells] rfl (by simp [ev78]) ((inode_Put.calls z HZO.out _).mono fun e w1 ⟨v, he, ho, hb⟩ => ⟨v, he, hb, Kd.R_reads ho⟩)
          · intro act_ w' H
            obtain ⟨v79, e79, A79, c79, rfl, hl79, hr79⟩ := H.on 4 rfl (by kernel_rfl)
            have ev79 := eval_of e79
            obtain ⟨_, e77, rfl⟩ := H.on 2 rfl (by kernel_rfl)
            have ev77 := eval_of e77
            refine ms_val rfl rfl (wanted_on rfl rfl rfl e77) (Value.string (strOfNums l)) w' ?_ (Below.refl _ _) rfl
            rw [← HZB.out]
            exact ex_string_row w' _ _ _ _ rfl Try.underlying27 Try.underlying5 Try.underlying9 A79 c79 _ ev79 hr79
          · intro act_ w' H
            have e1 := H.tmp (t := 1) rfl (by kernel_rfl)
            have ev1 := eval_of e1
            obtain ⟨_, e77, rfl⟩ := H.on 2 rfl (by kernel_rfl)
            have ev77 := eval_of e77
            refine ms_val rfl rfl (wanted_on rfl rfl rfl e77) (Value.slice A1 l.length c1) w' ?_ (Below.refl _ _) rfl
            · go_simp
              try rfl
          · intro act_ w' H
            obtain ⟨_, e81, rfl⟩ := H.on 6 rfl (by kernel_rfl)
            have ev81 := eval_of e81
            obtain ⟨_, e77, rfl⟩ := H.on 2 rfl (by kernel_rfl)
            have ev77 := eval_of e77
            refine ms_val rfl rfl (wanted_on rfl rfl rfl e77) (Value.string (strOfNums l)) w' ?_ (Below.refl _ _) rfl
            exact ex_string_row w' _ _ _ _ rfl Try.underlying27 Try.underlying5 Try.underlying9 A1 c1 _ ev81 (Kd.C_below HR.out (HB.out.trans (H.below.mono HB.out.size)))
          · intro act_ w' H
            obtain ⟨_, e80, rfl⟩ := H.on 5 rfl (by kernel_rfl)
            have ev80 := eval_of e80
            obtain ⟨_, e82, rfl⟩ := H.on 7 rfl (by kernel_rfl)
            have ev82 := eval_of e82
            obtain ⟨_, e77, rfl⟩ := H.on 2 rfl (by kernel_rfl)
            have ev77 := eval_of e77
            refine ms_val rfl rfl (wanted_on rfl rfl rfl e77) (Value.bool true) w' ?_ (Below.refl _ _) rfl
            · go_simp
              try rfl
          · intro act_ w' H
            obtain ⟨_, e77, rfl⟩ := H.on 2 rfl (by kernel_rfl)
            have ev77 := eval_of e77
            obtain ⟨_, e83, rfl⟩ := H.on 8 rfl (by kernel_rfl)
            have ev83 := eval_of e83
            refine ms_val rfl rfl rfl (Value.bool true) w' ?_ (Below.refl _ _) rfl
            · go_simp
              try rfl
          · intro act_ w' H
            obtain ⟨_, e84, rfl⟩ := H.on 9 rfl (by kernel_rfl)
            have ev84 := eval_of e84
            refine ms_val rfl rfl rfl (Value.bool true) w' ?_ (Below.refl _ _) rfl
            · go_simp
              try rfl
        intro w8 hb8
        rintro _ rfl _ rfl _ rfl _ rfl v79 - _ rfl _ rfl _ rfl _ rfl _ rfl _ rfl
        simp only [Ends, Act.put, List.setIfInBounds_toArray, List.set_cons_zero, List.set_cons_succ]
        have HB8 := Aside0.mk (HB.out.trans (hb8.mono HB.out.size))
        clear hb8
        go_wp2
        go_ret
        exact ⟨rfl, HB8.out⟩
      · subst hq11
        refine mono_region (T := _) (B := [0, 1, 3, 7, 15, 31, 7, 71, 255, 511, 1023]) (n := 11) [(0, 75, VP.is (Value.int .i64 11)), (1, 76, VP.is (Value.bool true)), (2, 77, VP.is (Value.bool true)), (3, 78, VP.is undef), (4, 79, VP.is undef), (5, 80, VP.is undef), (6, 81, VP.is undef), (7, 82, VP.is undef), (8, 83, VP.is undef), (9, 84, VP.is (Value.bool true)), (10, 4, VP.is (Value.bool true))] rfl (by kernel_rfl) (by kernel_rfl) rfl (by kernel_rfl) (by kernel_rfl) (by kernel_rfl) (by kernel_rfl) (by kernel_rfl) ?_ ?_
        · refine ms_cons ?_ <| ms_cons ?_ <| ms_cons ?_ <| ms_cons ?_ <| ms_cons ?_ <| ms_cons ?_ <| ms_cons ?_ <| ms_cons ?_ <| ms_cons ?_ <| ms_cons ?_ <| ms_cons ?_ <| ms_nil
          · intro act_ w' H
            have e10 := H.tmp (t := 10) rfl (by kernel_rfl)
            have ev10 := eval_of e10
            refine ms_val rfl rfl rfl (Value.int .i64 11) w' ?_ (Below.refl _ _) rfl
            · go_simp
              try rfl
          · intro act_ w' H
            obtain ⟨_, e75, rfl⟩ := H.on 0 rfl (by kernel_rfl)
            have ev75 := eval_of e75
            refine ms_val rfl rfl rfl (Value.bool true) w' ?_ (Below.refl _ _) rfl
            · go_simp
              try rfl
          · intro act_ w' H
            obtain ⟨_, e76, rfl⟩ := H.on 1 rfl (by kernel_rfl)
            have ev76 := eval_of e76
            refine ms_val rfl rfl rfl (Value.bool true) w' ?_ (Below.refl _ _) rfl
            · go_simp
              try rfl
          · intro act_ w' H
            obtain ⟨_, e77, rfl⟩ := H.on 2 rfl (by kernel_rfl)
            have ev77 := eval_of e77
            exact ms_off rfl rfl (wanted_off rfl rfl rfl e77) rfl
          · intro act_ w' H
            obtain ⟨_, e77, rfl⟩ := H.on 2 rfl (by kernel_rfl)
            have ev77 := eval_of e77
            exact ms_off rfl rfl (wanted_off rfl rfl rfl e77) rfl
          · intro act_ w' H
            obtain ⟨_, e77, rfl⟩ := H.on 2 rfl (by kernel_rfl)
            have ev77 := eval_of e77
            exact ms_off rfl rfl (wanted_off rfl rfl rfl e77) rfl
          · intro act_ w' H
            obtain ⟨_, e77, rfl⟩ := H.on 2 rfl (by kernel_rfl)
            have ev77 := eval_of e77
            exact ms_off rfl rfl (wanted_off rfl rfl rfl e77) rfl
          · intro act_ w' H
            obtain ⟨_, e77, rfl⟩ := H.on 2 rfl (by kernel_rfl)
            have ev77 := eval_of e77
            exact ms_off rfl rfl (wanted_off rfl rfl rfl e77) rfl
          · intro act_ w' H
            obtain ⟨_, e77, rfl⟩ := H.on 2 rfl (by kernel_rfl)
            have ev77 := eval_of e77
            exact ms_off rfl rfl (wanted_off rfl rfl rfl e77) rfl
          · intro act_ w' H
            obtain ⟨_, e77, rfl⟩ := H.on 2 rfl (by kernel_rfl)
            have ev77 := eval_of e77
            obtain ⟨_, e83, rfl⟩ := H.on 8 rfl (by kernel_rfl)
            have ev83 := eval_of e83
            refine ms_val rfl rfl rfl (Value.bool true) w' ?_ (Below.refl _ _) rfl
            · go_simp
              try rfl
          · intro act_ w' H
            obtain ⟨_, e84, rfl⟩ := H.on 9 rfl (by kernel_rfl)
            have ev84 := eval_of e84
            refine ms_val rfl rfl rfl (Value.bool true) w' ?_ (Below.refl _ _) rfl
            · go_simp
              try rfl
        intro w8 hb8
        rintro _ rfl _ rfl _ rfl _ rfl _ rfl _ rfl _ rfl _ rfl _ rfl _ rfl _ rfl
        simp only [Ends, Act.put, List.setIfInBounds_toArray, List.set_cons_zero, List.set_cons_succ]
        have HB8 := Aside0.mk (HB.out.trans (hb8.mono HB.out.size))
        clear hb8
        go_wp2
        go_ret
        exact ⟨rfl, HB8.out⟩
    · have hd3 : decide (3 < c.k) = true := decide_eq_true h3
      have hd4 : decide (c.k ≤ 3) = false := decide_eq_false (by omega)
      subst hp11
      have a0 := HI.out.k2.all.1
      clear h3
      go_wp2
      rcases HEND.out with ⟨hq0, hzb⟩ | hq11
      · subst hq0
        have HZB := Aside0.mk hzb
        clear hzb
        refine mono_region (T := _) (B := [0, 1, 3, 7, 15, 31, 7, 71, 255, 511, 1023]) (n := 11) [(0, 75, VP.is (Value.int .i64 0)), (1, 76, VP.is (Value.bool false)), (2, 77, VP.is (Value.bool false)), (3, 78, VP.is (Value.agg z.cells)), (4, 79, VP.row (Kd.int .u8) z.bytes), (5, 80, VP.is (Value.string (strOfNums l))), (6, 81, VP.is (Value.slice A1 l.length c1)), (7, 82, VP.is (Value.string (strOfNums l))), (8, 83, VP.is (Value.bool true)), (9, 84, VP.is (Value.bool true)), (10, 4, VP.is (Value.bool true))] rfl (by kernel_rfl) (by kernel_rfl) rfl (by kernel_rfl) (by kernel_rfl) (by kernel_rfl) (by kernel_rfl) (by kernel_rfl) ?_ ?_
        · refine ms_cons ?_ <| ms_cons ?_ <| ms_cons ?_ <| ms_cons ?_ <| ms_cons ?_ <| ms_cons ?_ <| ms_cons ?_ <| ms_cons ?_ <| ms_cons ?_ <| ms_cons ?_ <| ms_cons ?_ <| ms_nil
          · intro act_ w' H
            have e10 := H.tmp (t := 10) rfl (by kernel_rfl)
            have ev10 := eval_of e10
            refine ms_val rfl rfl rfl (Value.int .i64 0) w' ?_ (Below.refl _ _) rfl
            · go_simp
              try rfl
          · intro act_ w' H
            obtain ⟨_, e75, rfl⟩ := H.on 0 rfl (by kernel_rfl)
            have ev75 := eval_of e75
            refine ms_val rfl rfl rfl (Value.bool false) w' ?_ (Below.refl _ _) rfl
            · go_simp
              try rfl
          · intro act_ w' H
            obtain ⟨_, e76, rfl⟩ := H.on 1 rfl (by kernel_rfl)
            have ev76 := eval_of e76
            refine ms_val rfl rfl rfl (Value.bool false) w' ?_ (Below.refl _ _) rfl
            · go_simp
              try rfl
          · intro act_ w' H
            have e9 := H.tmp (t := 9) rfl (by kernel_rfl)
            have ev9 := eval_of e9
            obtain ⟨_, e77, rfl⟩ := H.on 2 rfl (by kernel_rfl)
            have ev77 := eval_of e77
            refine ms_val rfl rfl (wanted_on rfl rfl rfl e77) (Value.agg z.cells) w' ?_ (Below.refl _ _) rfl
            exact ex_load_blk w' _ _ rfl g9 ev9 z.cells _ _ (blk_below HK9.out.blk H.below) Try.underlying26 rfl info_ino
          · intro act_ w' H
            obtain ⟨_, e78, rfl⟩ := H.on 3 rfl (by kernel_rfl)
            have ev78 := eval_of e78
            obtain ⟨_, e77, rfl⟩ := H.on 2 rfl (by kernel_rfl)
            have ev77 := eval_of e77
            exact ms_call rfl rfl (wanted_on rfl rfl rfl e77) Try.func9 (by kernel_rfl) rfl #[.agg z.cells] rfl (by simp [ev78]) ((inode_Put.calls z HZO.out _).mono fun e w1 ⟨v, he, ho, hb⟩ => ⟨v, he, hb, Kd.R_reads ho⟩)
          · intro act_ w' H
            obtain ⟨v79, e79, A79, c79, rfl, hl79, hr79⟩ := H.on 4 rfl (by kernel_rfl)
            have ev79 := eval_of e79
            obtain ⟨_, e77, rfl⟩ := H.on 2 rfl (by kernel_rfl)
            have ev77 := eval_of e77
            refine ms_val rfl rfl (wanted_on rfl rfl rfl e77) (Value.string (strOfNums l)) w' ?_ (Below.refl _ _) rfl
            rw [← HZB.out]
            exact ex_string_row w' _ _ _ _ rfl Try.underlying27 Try.underlying5 Try.underlying9 A79 c79 _ ev79 hr79
          · intro act_ w' H
            have e1 := H.tmp (t := 1) rfl (by kernel_rfl)
            have ev1 := eval_of e1
            obtain ⟨_, e77, rfl⟩ := H.on 2 rfl (by kernel_rfl)
            have ev77 := eval_of e77
            refine ms_val rfl rfl (wanted_on rfl rfl rfl e77) (Value.slice A1 l.length c1) w' ?_ (Below.refl _ _) rfl
            · go_simp
              try rfl
          · intro act_ w' H
            obtain ⟨_, e81, rfl⟩ := H.on 6 rfl (by kernel_rfl)
            have ev81 := eval_of e81
            obtain ⟨_, e77, rfl⟩ := H.on 2 rfl (by kernel_rfl)
            have ev77 := eval_of e77
            refine ms_val rfl rfl (wanted_on rfl rfl rfl e77) (Value.string (strOfNums l)) w' ?_ (Below.refl _ _) rfl
            exact ex_string_row w' _ _ _ _ rfl Try.underlying27 Try.underlying5 Try.underlying9 A1 c1 _ ev81 (Kd.C_below HR.out (HB.out.trans (H.below.mono HB.out.size)))
          · intro act_ w' H
            obtain ⟨_, e80, rfl⟩ := H.on 5 rfl (by kernel_rfl)
            have ev80 := eval_of e80
            obtain ⟨_, e82, rfl⟩ := H.on 7 rfl (by kernel_rfl)
            have ev82 := eval_of e82
            obtain ⟨_, e77, rfl⟩ := H.on 2 rfl (by kernel_rfl)
            have ev77 := eval_of e77
            refine ms_val rfl rfl (wanted_on rfl rfl rfl e77) (Value.bool true) w' ?_ (Below.refl _ _) rfl
            · go_simp
              try rfl
          · intro act_ w' H
            obtain ⟨_, e77, rfl⟩ := H.on 2 rfl (by kernel_rfl)
            have ev77 := eval_of e77
            obtain ⟨_, e83, rfl⟩ := H.on 8 rfl (by kernel_rfl)
            have ev83 := eval_of e83
            refine ms_val rfl rfl rfl (Value.bool true) w' ?_ (Below.refl _ _) rfl
            · go_simp
              try rfl
          · intro act_ w' H
            obtain ⟨_, e84, rfl⟩ := H.on 9 rfl (by kernel_rfl)
            have ev84 := eval_of e84
            refine ms_val rfl rfl rfl (Value.bool true) w' ?_ (Below.refl _ _) rfl
            · go_simp
              try rfl
        intro w8 hb8
        rintro _ rfl _ rfl _ rfl _ rfl v79 - _ rfl _ rfl _ rfl _ rfl _ rfl _ rfl
        simp only [Ends, Act.put, List.setIfInBounds_toArray, List.set_cons_zero, List.set_cons_succ]
        have HB8 := Aside0.mk (HB.out.trans (hb8.mono HB.out.size))
        clear hb8
        go_wp2
        go_ret
        exact ⟨rfl, HB8.out⟩
      · subst hq11
        refine mono_region (T := _) (B := [0, 1, 3, 7, 15, 31, 7, 71, 255, 511, 1023]) (n := 11) [(0, 75, VP.is (Value.int .i64 11)), (1, 76, VP.is (Value.bool true)), (2, 77, VP.is (Value.bool true)), (3, 78, VP.is undef), (4, 79, VP.is undef), (5, 80, VP.is undef), (6, 81, VP.is undef), (7, 82, VP.is undef), (8, 83, VP.is undef), (9, 84, VP.is (Value.bool true)), (10, 4, VP.is (Value.bool true))] rfl (by kernel_rfl) (by kernel_rfl) rfl (by kernel_rfl) (by kernel_rfl) (by kernel_rfl) (by kernel_rfl) (by kernel_rfl) ?_ ?_
        · refine ms_cons ?_ <| ms_cons ?_ <| ms_cons ?_ <| ms_cons ?_ <| ms_cons ?_ <| ms_cons ?_ <| ms_cons ?_ <| ms_cons ?_ <| ms_cons ?_ <| ms_cons ?_ <| ms_cons ?_ <| ms_nil
          · intro act_ w' H
            have e10 := H.tmp (t := 10) rfl (by kernel_rfl)
            have ev10 := eval_of e10
            refine ms_val rfl rfl rfl (Value.int .i64 11) w' ?_ (Below.refl _ _) rfl
            · go_simp
              try rfl
          · intro act_ w' H
            obtain ⟨_, e75, rfl⟩ := H.on 0 rfl (by kernel_rfl)
            have ev75 := eval_of e75
            refine ms_val rfl rfl rfl (Value.bool true) w' ?_ (Below.refl _ _) rfl
            · go_simp
              try rfl
          · intro act_ w' H
            obtain ⟨_, e76, rfl⟩ := H.on 1 rfl (by kernel_rfl)
            have ev76 := eval_of e76
            refine ms_val rfl rfl rfl (Value.bool true) w' ?_ (Below.refl _ _) rfl
            · go_simp
              try rfl
          · intro act_ w' H
            obtain ⟨_, e77, rfl⟩ := H.on 2 rfl (by kernel_rfl)
            have ev77 := eval_of e77
            exact ms_off rfl rfl (wanted_off rfl rfl rfl e77) rfl
          · intro act_ w' H
            obtain ⟨_, e77, rfl⟩ := H.on 2 rfl (by kernel_rfl)
            have ev77 := eval_of e77
            exact ms_off rfl rfl (wanted_off rfl rfl rfl e77) rfl
          · intro act_ w' H
            obtain ⟨_, e77, rfl⟩ := H.on 2 rfl (by kernel_rfl)
            have ev77 := eval_of e77
            exact ms_off rfl rfl (wanted_off rfl rfl rfl e77) rfl
          · intro act_ w' H
            obtain ⟨_, e77, rfl⟩ := H.on 2 rfl (by kernel_rfl)
            have ev77 := eval_of e77
            exact ms_off rfl rfl (wanted_off rfl rfl rfl e77) rfl
          · intro act_ w' H
            obtain ⟨_, e77, rfl⟩ := H.on 2 rfl (by kernel_rfl)
            have ev77 := eval_of e77
            exact ms_off rfl rfl (wanted_off rfl rfl rfl e77) rfl
          · intro act_ w' H
            obtain ⟨_, e77, rfl⟩ := H.on 2 rfl (by kernel_rfl)
            have ev77 := eval_of e77
            exact ms_off rfl rfl (wanted_off rfl rfl rfl e77) rfl
          · intro act_ w' H
            obtain ⟨_, e77, rfl⟩ := H.on 2 rfl (by kernel_rfl)
            have ev77 := eval_of e77
            obtain ⟨_, e83, rfl⟩ := H.on 8 rfl (by kernel_rfl)
            have ev83 := eval_of e83
            refine ms_val rfl rfl rfl (Value.bool true) w' ?_ (Below.refl _ _) rfl
            · go_simp
              try rfl
          · intro act_ w' H
            obtain ⟨_, e84, rfl⟩ := H.on 9 rfl (by kernel_rfl)
            have ev84 := eval_of e84
            refine ms_val rfl rfl rfl (Value.bool true) w' ?_ (Below.refl _ _) rfl
            · go_simp
              try rfl
        intro w8 hb8
        rintro _ rfl _ rfl _ rfl _ rfl _ rfl _ rfl _ rfl _ rfl _ rfl _ rfl _ rfl
        simp only [Ends, Act.put, List.setIfInBounds_toArray, List.set_cons_zero, List.set_cons_succ]
        have HB8 := Aside0.mk (HB.out.trans (hb8.mono HB.out.size))
        clear hb8
        go_wp2
        go_ret
        exact ⟨rfl, HB8.out⟩
end Go.Proofs.Ytpdobinpndfgfaa.Q
