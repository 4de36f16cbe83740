/- The statement InodeFields, walked. -/
import Derived.Test.YtpdobinpndfgfaaHAwake
namespace Go.Proofs.Ytpdobinpndfgfaa.Q
open Go.RowKit Go.Proofs.YtpdobinpndfgfaaW.PrintWords Go.Proofs.YtpdobinpndfgfaaW.PrintLast Go.Proofs.YtpdobinpndfgfaaW.PrintMore Go.Proofs.Ytpdobinpndfgfaa.Pure
attribute [local go_sem] max2_int min2_int max_two min_two max_three min_three max_four min_four
set_option linter.unusedVariables false
set_option linter.unusedSimpArgs false
def seg (x : InoV) (k : Nat) : List Int := match k with
  | 1 => lebytes 2 x.li
  | 2 => lebytes 4 x.sz
  | 3 => lebytes 2 x.b0 ++ (lebytes 2 x.b1 ++ lebytes 2 x.b2)
  | 4 => lebytes 2 x.s
  | _ => lebytes 2 x.d
def InoV.eqf (a b : InoV) (k : Nat) : Bool := match k with
  | 0 => a.k == b.k
  | 1 => a.li == b.li
  | 2 => a.sz == b.sz
  | 3 => decide (a.nums3 = b.nums3)
  | 4 => a.s == b.s
  | _ => a.d == b.d
theorem le_inj (n : Nat) {x y : Int} (hx : 0 ≤ x ∧ x < 256 ^ n) (hy : 0 ≤ y ∧ y < 256 ^ n) : decide (lebytes n x = lebytes n y) = (x == y) := by
  by_cases h : x = y
  · subst h; simp
  · have h1 : ¬ lebytes n x = lebytes n y := fun e => h (by rw [← num_le n x hx.1 hx.2, e, num_le n y hy.1 hy.2])
    simp [h, h1]
theorem le3_inj {a b : InoV} (ha : a.Ok) (hb : b.Ok) : decide (seg a 3 = seg b 3) = decide (a.nums3 = b.nums3) := by
  by_cases h : a.nums3 = b.nums3
  · have h0 := h
    unfold InoV.nums3 at h0
    injection h0 with e0 h0
    injection h0 with e1 h0
    injection h0 with e2 h0
    simp [seg, e0, e1, e2, h]
  · have h1 : ¬ seg a 3 = seg b 3 := by
      intro e
      apply h
      have e' : lebytes 2 a.b0 ++ (lebytes 2 a.b1 ++ lebytes 2 a.b2) = lebytes 2 b.b0 ++ (lebytes 2 b.b1 ++ lebytes 2 b.b2) := e
      obtain ⟨x0, e'⟩ := List.append_inj e' (by rw [lebytes_length, lebytes_length])
      obtain ⟨x1, x2⟩ := List.append_inj e' (by rw [lebytes_length, lebytes_length])
      have y0 : a.b0 = b.b0 := by rw [← num_le 2 a.b0 ha.b0.1 ha.b0.2, x0, num_le 2 b.b0 hb.b0.1 hb.b0.2]
      have y1 : a.b1 = b.b1 := by rw [← num_le 2 a.b1 ha.b1.1 ha.b1.2, x1, num_le 2 b.b1 hb.b1.1 hb.b1.2]
      have y2 : a.b2 = b.b2 := by rw [← num_le 2 a.b2 ha.b2.1 ha.b2.2, x2, num_le 2 b.b2 hb.b2.1 hb.b2.2]
      unfold InoV.nums3
      rw [y0, y1, y2]
    simp [h, h1]
theorem seg_u8s (x : InoV) (k : Nat) : u8s (seg x k) := by
  have app : ∀ {a b : List Int}, u8s a → u8s b → u8s (a ++ b) := fun ha hb y hy => (List.mem_append.1 hy).elim (ha y) (hb y)
  unfold seg
  split
  · exact lebytes_u8s _ _
  · exact lebytes_u8s _ _
  · exact app (lebytes_u8s _ _) (app (lebytes_u8s _ _) (lebytes_u8s _ _))
  · exact lebytes_u8s _ _
  · exact lebytes_u8s _ _
theorem seg_str {a b : InoV} (ha : a.Ok) (hb : b.Ok) (k : Nat) (hk : 1 ≤ k ∧ k < 6) : ((strOfNums (seg a k)).toList == (strOfNums (seg b k)).toList) = a.eqf b k := by
  rw [str_eq (seg_u8s a k) (seg_u8s b k)]
  match k, hk with
  | 1, _ => exact le_inj 2 ha.li hb.li
  | 2, _ => exact le_inj 4 ha.sz hb.sz
  | 3, _ => exact le3_inj ha hb
  | 4, _ => exact le_inj 2 ha.s hb.s
  | 5, _ => exact le_inj 2 ha.d hb.d
def nulls : List Int := List.replicate 14 0
theorem guard_nums (op : BinOp) (x y : Operand) (xs ys : Array Value) (W : World) : (eqGuard op 24 x y (.agg xs) (.agg ys)).run Try.prog W = .ok () W := run_eqGuard_agg W op _ x y xs ys (by kernel_rfl)
theorem eql_nums (a b : InoV) (W : World) : (binOp .eql 24 (.agg (encs (Value.int .u16) a.nums3).toArray) (.agg (encs (Value.int .u16) b.nums3).toArray)).run Try.prog W = .ok (.bool (decide (a.nums3 = b.nums3))) W := by
  rw [run_eql_struct, run_equalIn_ints 9998 3 24 22 .u16 Try.underlying24 Try.underlying22 (by kernel_rfl) _ _ rfl rfl W]
  rfl
theorem info_nums : (Try.prog.info? 24).map (·.size) = some 3 := by kernel_rfl
theorem load_nums {x : InoV} {w : World} {g : Nat} (h : InoAt 26 w g x) (j : Nat) (v : Value) (hv : (encs (Value.int .u16) x.nums3)[j]? = some v) : w.cell? ((⟨g, 3, none⟩ : Addr).add j) = some v := by
  have hj : j < 3 := (List.getElem?_eq_some_iff.1 hv).1
  rw [← hv]
  match j, hj with
  | 0, _ => exact h.all.2.2.2.1
  | 1, _ => exact h.all.2.2.2.2.1
  | 2, _ => exact h.all.2.2.2.2.2.1
theorem ex_make14 {o : Oper} {a : Act} (w : World) (ho : o.op = .makeSlice 27 (.const (.int .i64 14)) (.const (.int .i64 14))) : (execOp a.eval o).run Try.prog w = .ok (.value (.slice (some ⟨w.heap.size, 0, none⟩) 14 14)) (w.alloc (.cells (encs (Value.int .u8) nulls).toArray 5)) := by
  have hinfo : (Try.prog.info? 5).map (fun i => (i.zero, i.size, i.bytes)) = some (some (.int .u8 0), 1, 1) := by kernel_rfl
  obtain ⟨i, hi, h2⟩ := Option.map_eq_some_iff.1 hinfo
  injection h2 with hz h2
  injection h2 with hs hb
  have h1 := run_makeSlice (P := Try.prog) w 27 5 i (.int .u8 0) Try.underlying27 hi hz .i64 .i64 14 14 (by decide) (by decide) (by rw [hs]; decide) (by rw [hb]; decide) (by decide)
  rw [hs] at h1
  have h3 : madeCells (Value.int .u8 0).cells ((14 : Int).toNat * 1) = (encs (Value.int .u8) nulls).toArray := by kernel_rfl
  rw [h3] at h1
  unfold execOp
  simp only [ho, Act.eval, Sem.run_bind, h1, Result.andThen_ok, Sem.run_pure]
  rfl
theorem nulls_row (w : World) : ∃ A c, Value.slice (some ⟨w.heap.size, 0, none⟩) 14 14 = .slice A nulls.length c ∧ nulls.length ≤ c ∧ Kd.C (Kd.int .u8) (w.alloc (.cells (encs (Value.int .u8) nulls).toArray 5)) A nulls.length nulls := by
  obtain ⟨A, c, h1, h2, h3⟩ := Kd.R_reads (lit_own .u8 w 5 nulls (by decide))
  exact ⟨A, c, h1, h2, h3⟩
set_option maxHeartbeats 4000000 in
set_option maxRecDepth 100000 in
theorem InodeFields.walk (w : World) (a : InoV) (ha : a.Ok) (b : InoV) (hb : b.Ok) :
    Calls Try.prog 6 #[.agg a.cells, .agg b.cells] w fun e w' => e = .returned (.bool true) ∧ Below w.heap.size w w' := by
  have HA := Aside0.mk ha
  have HBB := Aside0.mk hb
  have HSTR1 := Aside0.mk (seg_str ha hb 1 (by decide))
  have HSTR2 := Aside0.mk (seg_str ha hb 2 (by decide))
  have HSTR3 := Aside0.mk (seg_str ha hb 3 (by decide))
  have HSTR4 := Aside0.mk (seg_str ha hb 4 (by decide))
  have HSTR5 := Aside0.mk (seg_str ha hb 5 (by decide))
  clear ha hb
  go_enter Try.func6, Try.ntmps6
  go_wp2_with (first | ((with_reducible refine gate_op (N := .box 26 (.tmp 0)) rfl ?_); refine wl_box rfl 26 _ rfl (.agg a.cells) rfl ?_; intro g1 hg w1 hblk hb hsz; have HK1 := Aside0.mk (show InoAt 26 w1 g1 a from hblk); have HB1 := Aside0.mk hb; clear hg hblk hb hsz) | ((with_reducible refine gate_op (N := .box 26 (.tmp 1)) rfl ?_); refine wl_box rfl 26 _ rfl (.agg b.cells) rfl ?_; intro g2 hg w2 hblk hb hsz; have HKB := Aside0.mk (show InoAt 26 w2 g2 b from hblk); have HKA := Aside0.mk (show InoAt 26 w2 g1 a from blk_below HK1.out.blk hb); have HB := Aside0.mk (HB1.out.trans (hb.mono HB1.out.size)); clear hg hblk hb hsz HK1 HB1) | (go_at_call 8; (with_reducible refine (awake19.calls _).mono ?_); rintro e w3 ⟨rfl, hb⟩; have n0_ := Aside0.mk (show InoAt 26 w3 g1 a from blk_below HKA.out.blk hb); have n1_ := Aside0.mk (show InoAt 26 w3 g2 b from blk_below HKB.out.blk hb); have n2_ := Aside0.mk (HB.out.trans (hb.mono HB.out.size)); clear hb HKA HKB HB; have HKA := n0_; have HKB := n1_; have HB := n2_; clear n0_ n1_ n2_; have tokA : True := trivial) | ((with_reducible refine gate_op (N := .load 26 (.tmp 2)) rfl ?_); refine wl_load_blk rfl _ _ rfl g1 rfl a.cells 26 _ HKA.out.blk Try.underlying26 rfl info_ino ?_) | ((with_reducible refine gate_op (N := .load 26 (.tmp 3)) rfl ?_); refine wl_load_blk rfl _ _ rfl g2 rfl b.cells 26 _ HKB.out.blk Try.underlying26 rfl info_ino ?_) | (go_at_call 9; have _t := tokA; (with_reducible refine (inode_Put_reads a HA.out _).mono ?_); rintro e w4 ⟨adx, cx, rfl, hl4, hc4, hb⟩; have HX := Aside0.mk hc4; have hcx := hl4; have n0_ := Aside0.mk (show InoAt 26 w4 g1 a from blk_below HKA.out.blk hb); have n1_ := Aside0.mk (show InoAt 26 w4 g2 b from blk_below HKB.out.blk hb); have n2_ := Aside0.mk (HB.out.trans (hb.mono HB.out.size)); clear hb hl4 hc4 HKA HKB HB tokA; have HKA := n0_; have HKB := n1_; have HB := n2_; clear n0_ n1_ n2_; have tokB : True := trivial) | (go_at_call 9; have _t := tokB; (with_reducible refine (inode_Put_reads b HBB.out _).mono ?_); rintro e w5 ⟨ady, cy, rfl, hl4, hc4, hb⟩; have HY := Aside0.mk hc4; have hcy := hl4; have n3_ := Aside0.mk (Kd.C_below HX.out hb); have n0_ := Aside0.mk (show InoAt 26 w5 g1 a from blk_below HKA.out.blk hb); have n1_ := Aside0.mk (show InoAt 26 w5 g2 b from blk_below HKB.out.blk hb); have n2_ := Aside0.mk (HB.out.trans (hb.mono HB.out.size)); clear hb hl4 hc4 HKA HKB HB HX tokB; have HKA := n0_; have HKB := n1_; have HB := n2_; have HX := n3_; clear n0_ n1_ n2_ n3_))
  have hx6 := HX.out
  have hx7 := HY.out
  obtain ⟨adx', ex, hxc⟩ := (Kd.reads_of_C (enc := Value.int .u8) (d := (0 : Int)) (h1 := fun _ => rfl) hx6).2.2 (by decide)
  injection ex with ex
  subst ex
  obtain ⟨ady', ey, hyc⟩ := (Kd.reads_of_C (enc := Value.int .u8) (d := (0 : Int)) (h1 := fun _ => rfl) hx7).2.2 (by decide)
  injection ey with ey
  subst ey
  have HX1B := Aside0.mk (fun (w' : World) (hb : Below w5.heap.size w5 w') => show w'.cell? ⟨adx.block, adx.off + 1, none⟩ = some (.int .u8 0) from pw_cell_below hb (hxc 1 (by decide)))
  have HX0B := Aside0.mk (fun (w' : World) (hb : Below w5.heap.size w5 w') => show w'.cell? adx = some (.int .u8 a.k) from pw_cell_below hb (hxc 0 (by decide)))
  have HY0B := Aside0.mk (fun (w' : World) (hb : Below w5.heap.size w5 w') => show w'.cell? ady = some (.int .u8 b.k) from pw_cell_below hb (hyc 0 (by decide)))
  have HXN := Aside0.mk (fun (w' : World) (hb : Below w5.heap.size w5 w') => show Kd.C (Kd.int .u8) w' (some (adx.add 18)) 14 nulls from seg_C (Kd.C_below hx6 hb) 18 32 (by decide) (by decide))
  have HX1 := Aside0.mk (fun (w' : World) (hb : Below w5.heap.size w5 w') => show Kd.C (Kd.int .u8) w' (some (adx.add 2)) 2 (seg a 1) from seg_C (Kd.C_below hx6 hb) 2 4 (by decide) (by decide))
  have HY1 := Aside0.mk (fun (w' : World) (hb : Below w5.heap.size w5 w') => show Kd.C (Kd.int .u8) w' (some (ady.add 2)) 2 (seg b 1) from seg_C (Kd.C_below hx7 hb) 2 4 (by decide) (by decide))
  have HX2 := Aside0.mk (fun (w' : World) (hb : Below w5.heap.size w5 w') => show Kd.C (Kd.int .u8) w' (some (adx.add 4)) 4 (seg a 2) from seg_C (Kd.C_below hx6 hb) 4 8 (by decide) (by decide))
  have HY2 := Aside0.mk (fun (w' : World) (hb : Below w5.heap.size w5 w') => show Kd.C (Kd.int .u8) w' (some (ady.add 4)) 4 (seg b 2) from seg_C (Kd.C_below hx7 hb) 4 8 (by decide) (by decide))
  have HX3 := Aside0.mk (fun (w' : World) (hb : Below w5.heap.size w5 w') => show Kd.C (Kd.int .u8) w' (some (adx.add 8)) 6 (seg a 3) from seg_C (Kd.C_below hx6 hb) 8 14 (by decide) (by decide))
  have HY3 := Aside0.mk (fun (w' : World) (hb : Below w5.heap.size w5 w') => show Kd.C (Kd.int .u8) w' (some (ady.add 8)) 6 (seg b 3) from seg_C (Kd.C_below hx7 hb) 8 14 (by decide) (by decide))
  have HX4 := Aside0.mk (fun (w' : World) (hb : Below w5.heap.size w5 w') => show Kd.C (Kd.int .u8) w' (some (adx.add 14)) 2 (seg a 4) from seg_C (Kd.C_below hx6 hb) 14 16 (by decide) (by decide))
  have HY4 := Aside0.mk (fun (w' : World) (hb : Below w5.heap.size w5 w') => show Kd.C (Kd.int .u8) w' (some (ady.add 14)) 2 (seg b 4) from seg_C (Kd.C_below hx7 hb) 14 16 (by decide) (by decide))
  have HX5 := Aside0.mk (fun (w' : World) (hb : Below w5.heap.size w5 w') => show Kd.C (Kd.int .u8) w' (some (adx.add 16)) 2 (seg a 5) from seg_C (Kd.C_below hx6 hb) 16 18 (by decide) (by decide))
  have HY5 := Aside0.mk (fun (w' : World) (hb : Below w5.heap.size w5 w') => show Kd.C (Kd.int .u8) w' (some (ady.add 16)) 2 (seg b 5) from seg_C (Kd.C_below hx7 hb) 16 18 (by decide) (by decide))
  clear hx6 hx7 hxc hyc
  refine mono_region (T := _) (B := [0, 1, 3, 7, 15, 31, 63, 127, 255, 511, 1023, 2047, 4095, 8191, 16383, 32767, 65535, 131071, 32767, 294911, 1048575, 2097151]) (n := 22) [(0, 15, VP.is (Value.slice (some adx) 32 cx)), (1, 16, VP.is (Value.int .i64 32)), (2, 17, VP.is (Value.bool false)), (3, 18, VP.is (Value.bool false)), (4, 19, VP.is (Value.slice (some ady) 32 cy)), (5, 20, VP.is (Value.int .i64 32)), (6, 21, VP.is (Value.bool false)), (7, 22, VP.is (Value.bool false)), (8, 23, VP.is (Value.bool false)), (9, 24, VP.is (Value.slice (some adx) 32 cx)), (10, 25, VP.is (Value.pointer (some ⟨adx.block, adx.off + 1, none⟩))), (11, 26, VP.is (Value.int .u8 0)), (12, 27, VP.is (Value.bool false)), (13, 28, VP.is (Value.bool false)), (14, 29, VP.is (Value.bool false)), (15, 30, VP.is (Value.slice (some adx) 32 cx)), (16, 31, VP.is (Value.slice (some (adx.add 18)) 14 (cx - 18))), (17, 32, VP.is (Value.string (strOfNums nulls))), (18, 33, VP.row (Kd.int .u8) nulls), (19, 34, VP.is (Value.string (strOfNums nulls))), (20, 35, VP.is (Value.bool false)), (21, 36, VP.is (Value.bool false))] rfl (by kernel_rfl) (by kernel_rfl) rfl (by kernel_rfl) (by kernel_rfl) (by kernel_rfl) (by kernel_rfl) (by kernel_rfl) ?_ ?_
  · refine ms_cons ?_ <| ms_cons ?_ <| ms_cons ?_ <| ms_cons ?_ <| ms_cons ?_ <| ms_cons ?_ <| ms_cons ?_ <| ms_cons ?_ <| ms_cons ?_ <| ms_cons ?_ <| ms_cons ?_ <| ms_cons ?_ <| ms_cons ?_ <| ms_cons ?_ <| ms_cons ?_ <| ms_cons ?_ <| ms_cons ?_ <| ms_cons ?_ <| ms_cons ?_ <| ms_cons ?_ <| ms_cons ?_ <| ms_cons ?_ <| ms_nil
    · intro act_ w' H
      have e6 := H.tmp (t := 6) rfl (by kernel_rfl)
      have ev6 := eval_of e6
      refine ms_val rfl rfl rfl (Value.slice (some adx) 32 cx) w' ?_ (Below.refl _ _) rfl
      · go_simp
        try rfl
    · intro act_ w' H
      obtain ⟨_, e15, rfl⟩ := H.on 0 rfl (by kernel_rfl)
      have ev15 := eval_of e15
      refine ms_val rfl rfl rfl (Value.int .i64 32) w' ?_ (Below.refl _ _) rfl
      · go_simp
        try rfl
    · intro act_ w' H
      obtain ⟨_, e16, rfl⟩ := H.on 1 rfl (by kernel_rfl)
      have ev16 := eval_of e16
      refine ms_val rfl rfl rfl (Value.bool false) w' ?_ (Below.refl _ _) rfl
      · go_simp
        try rfl
    · intro act_ w' H
      obtain ⟨_, e17, rfl⟩ := H.on 2 rfl (by kernel_rfl)
      have ev17 := eval_of e17
      refine ms_val rfl rfl rfl (Value.bool false) w' ?_ (Below.refl _ _) rfl
      · go_simp
        try rfl
    · intro act_ w' H
      have e7 := H.tmp (t := 7) rfl (by kernel_rfl)
      have ev7 := eval_of e7
      obtain ⟨_, e18, rfl⟩ := H.on 3 rfl (by kernel_rfl)
      have ev18 := eval_of e18
      refine ms_val rfl rfl (wanted_on rfl rfl rfl e18) (Value.slice (some ady) 32 cy) w' ?_ (Below.refl _ _) rfl
      · go_simp
        try rfl
    · intro act_ w' H
      obtain ⟨_, e19, rfl⟩ := H.on 4 rfl (by kernel_rfl)
      have ev19 := eval_of e19
      obtain ⟨_, e18, rfl⟩ := H.on 3 rfl (by kernel_rfl)
      have ev18 := eval_of e18
      refine ms_val rfl rfl (wanted_on rfl rfl rfl e18) (Value.int .i64 32) w' ?_ (Below.refl _ _) rfl
      · go_simp
        try rfl
    · intro act_ w' H
      obtain ⟨_, e20, rfl⟩ := H.on 5 rfl (by kernel_rfl)
      have ev20 := eval_of e20
      obtain ⟨_, e18, rfl⟩ := H.on 3 rfl (by kernel_rfl)
      have ev18 := eval_of e18
      refine ms_val rfl rfl (wanted_on rfl rfl rfl e18) (Value.bool false) w' ?_ (Below.refl _ _) rfl
      · go_simp
        try rfl
    · intro act_ w' H
      obtain ⟨_, e18, rfl⟩ := H.on 3 rfl (by kernel_rfl)
      have ev18 := eval_of e18
      obtain ⟨_, e21, rfl⟩ := H.on 6 rfl (by kernel_rfl)
      have ev21 := eval_of e21
      refine ms_val rfl rfl rfl (Value.bool false) w' ?_ (Below.refl _ _) rfl
      · go_simp
        try rfl
    · intro act_ w' H
      obtain ⟨_, e22, rfl⟩ := H.on 7 rfl (by kernel_rfl)
      have ev22 := eval_of e22
      refine ms_val rfl rfl rfl (Value.bool false) w' ?_ (Below.refl _ _) rfl
      · go_simp
        try rfl
    · intro act_ w' H
      have e6 := H.tmp (t := 6) rfl (by kernel_rfl)
      have ev6 := eval_of e6
      obtain ⟨_, e23, rfl⟩ := H.on 8 rfl (by kernel_rfl)
      have ev23 := eval_of e23
      refine ms_val rfl rfl (wanted_on rfl rfl rfl e23) (Value.slice (some adx) 32 cx) w' ?_ (Below.refl _ _) rfl
      · go_simp
        try rfl
    · intro act_ w' H
      obtain ⟨_, e24, rfl⟩ := H.on 9 rfl (by kernel_rfl)
      have ev24 := eval_of e24
      obtain ⟨_, e23, rfl⟩ := H.on 8 rfl (by kernel_rfl)
      have ev23 := eval_of e23
      refine ms_val rfl rfl (wanted_on rfl rfl rfl e23) (Value.pointer (some ⟨adx.block, adx.off + 1, none⟩)) w' ?_ (Below.refl _ _) rfl
      · go_simp
        try rfl
    · intro act_ w' H
      obtain ⟨_, e25, rfl⟩ := H.on 10 rfl (by kernel_rfl)
      have ev25 := eval_of e25
      obtain ⟨_, e23, rfl⟩ := H.on 8 rfl (by kernel_rfl)
      have ev23 := eval_of e23
      have hcc := HX1B.out w' H.below
      refine ms_val rfl rfl (wanted_on rfl rfl rfl e23) (Value.int .u8 0) w' ?_ (Below.refl _ _) rfl
      · go_simp
        try rfl
    · intro act_ w' H
      obtain ⟨_, e26, rfl⟩ := H.on 11 rfl (by kernel_rfl)
      have ev26 := eval_of e26
      obtain ⟨_, e23, rfl⟩ := H.on 8 rfl (by kernel_rfl)
      have ev23 := eval_of e23
      refine ms_val rfl rfl (wanted_on rfl rfl rfl e23) (Value.bool false) w' ?_ (Below.refl _ _) rfl
      · go_simp
        try rfl
    · intro act_ w' H
      obtain ⟨_, e23, rfl⟩ := H.on 8 rfl (by kernel_rfl)
      have ev23 := eval_of e23
      obtain ⟨_, e27, rfl⟩ := H.on 12 rfl (by kernel_rfl)
      have ev27 := eval_of e27
      refine ms_val rfl rfl rfl (Value.bool false) w' ?_ (Below.refl _ _) rfl
      · go_simp
        try rfl
    · intro act_ w' H
      obtain ⟨_, e28, rfl⟩ := H.on 13 rfl (by kernel_rfl)
      have ev28 := eval_of e28
      refine ms_val rfl rfl rfl (Value.bool false) w' ?_ (Below.refl _ _) rfl
      · go_simp
        try rfl
    · intro act_ w' H
      have e6 := H.tmp (t := 6) rfl (by kernel_rfl)
      have ev6 := eval_of e6
      obtain ⟨_, e29, rfl⟩ := H.on 14 rfl (by kernel_rfl)
      have ev29 := eval_of e29
      refine ms_val rfl rfl (wanted_on rfl rfl rfl e29) (Value.slice (some adx) 32 cx) w' ?_ (Below.refl _ _) rfl
      · go_simp
        try rfl
    · intro act_ w' H
      obtain ⟨_, e30, rfl⟩ := H.on 15 rfl (by kernel_rfl)
      have ev30 := eval_of e30
      obtain ⟨_, e29, rfl⟩ := H.on 14 rfl (by kernel_rfl)
      have ev29 := eval_of e29
      refine ms_val rfl rfl (wanted_on rfl rfl rfl e29) (Value.slice (some (adx.add 18)) 14 (cx - 18)) w' ?_ (Below.refl _ _) rfl
      first | (go_simp; intro hq; exfalso; omega) | (go_simp; rw [if_pos (by omega), if_neg (by omega)]; first | done | rfl) | (go_simp; done)
    · intro act_ w' H
      obtain ⟨_, e31, rfl⟩ := H.on 16 rfl (by kernel_rfl)
      have ev31 := eval_of e31
      obtain ⟨_, e29, rfl⟩ := H.on 14 rfl (by kernel_rfl)
      have ev29 := eval_of e29
      refine ms_val rfl rfl (wanted_on rfl rfl rfl e29) (Value.string (strOfNums nulls)) w' ?_ (Below.refl _ _) rfl
      exact ex_string_row w' _ _ _ _ rfl Try.underlying27 Try.underlying5 Try.underlying9 (some (adx.add 18)) (cx - 18) nulls ev31 (HXN.out w' H.below)
    · intro act_ w' H
      obtain ⟨_, e29, rfl⟩ := H.on 14 rfl (by kernel_rfl)
      have ev29 := eval_of e29
      exact ms_val rfl rfl (wanted_on rfl rfl rfl e29) _ _ (ex_make14 w' rfl) (below_alloc (Below.refl _ _) _) (nulls_row w')
    · intro act_ w' H
      obtain ⟨v33, e33, A33, c33, rfl, hl33, hr33⟩ := H.on 18 rfl (by kernel_rfl)
      have ev33 := eval_of e33
      obtain ⟨_, e29, rfl⟩ := H.on 14 rfl (by kernel_rfl)
      have ev29 := eval_of e29
      refine ms_val rfl rfl (wanted_on rfl rfl rfl e29) (Value.string (strOfNums nulls)) w' ?_ (Below.refl _ _) rfl
      exact ex_string_row w' _ _ _ _ rfl Try.underlying27 Try.underlying5 Try.underlying9 A33 c33 nulls ev33 hr33
    · intro act_ w' H
      obtain ⟨_, e32, rfl⟩ := H.on 17 rfl (by kernel_rfl)
      have ev32 := eval_of e32
      obtain ⟨_, e34, rfl⟩ := H.on 19 rfl (by kernel_rfl)
      have ev34 := eval_of e34
      obtain ⟨_, e29, rfl⟩ := H.on 14 rfl (by kernel_rfl)
      have ev29 := eval_of e29
      refine ms_val rfl rfl (wanted_on rfl rfl rfl e29) (Value.bool false) w' ?_ (Below.refl _ _) rfl
      · go_simp
        try rfl
    · intro act_ w' H
      obtain ⟨_, e29, rfl⟩ := H.on 14 rfl (by kernel_rfl)
      have ev29 := eval_of e29
      obtain ⟨_, e35, rfl⟩ := H.on 20 rfl (by kernel_rfl)
      have ev35 := eval_of e35
      refine ms_val rfl rfl rfl (Value.bool false) w' ?_ (Below.refl _ _) rfl
      · go_simp
        try rfl
  intro w6 hb6
  rintro _ rfl _ rfl _ rfl _ rfl _ rfl _ rfl _ rfl _ rfl _ rfl _ rfl _ rfl _ rfl _ rfl _ rfl _ rfl _ rfl _ rfl _ rfl v33 - _ rfl _ rfl _ rfl
  simp only [Ends, Act.put, List.setIfInBounds_toArray, List.set_cons_zero, List.set_cons_succ]
  go_wp2
  refine mono_region (T := _) (B := [0, 1, 3, 0, 8, 24, 63, 0, 128, 0, 512, 1920, 4095, 8191, 16383, 32767, 65535, 16383, 147455, 409599, 1048575, 16383, 2113535, 16383, 8404991, 31473663, 67108863, 134217727, 268435455, 536870911, 1073741823, 2147483647, 536870911, 4831838207, 13421772799, 34359738367, 536870911, 69256347647, 536870911, 275414777855, 1031329021951, 2199023255551, 4398046511103, 8796093022207, 17592186044415, 35184372088831, 70368744177663, 17592186044415, 158329674399743, 439804651110399, 1125899906842623, 17592186044415, 2269391999729663, 17592186044415, 9024791440785407, 33794589391323135, 72057594037927935, 144115188075855871, 288230376151711743, 576460752303423487, 1152921504606846975, 2305843009213693951, 576460752303423487, 5188146770730811391, 14411518807585587199, 36893488147419103231, 576460752303423487, 74363437047141629951, 576460752303423487, 295724365931656249343, 1107381105174876520447, 2361183241434822606847, 4722366482869645213695, 9444732965739290427391, 18889465931478580854783, 37778931862957161709567, 75557863725914323419135, 18889465931478580854783, 170005193383307227693055, 472236648286964521369599, 1208925819614629174706175, 18889465931478580854783, 2436741105160736930267135, 18889465931478580854783, 9690296022848511978504191, 36286664054370353822040063, 77371252455336267181195263, 154742504910672534362390527, 309485009821345068724781055]) (n := 89) [(0, 37, VP.is (Value.slice (some adx) 32 cx)), (1, 38, VP.is (Value.pointer (some adx))), (2, 39, VP.is (Value.int .u8 a.k)), (3, 40, VP.is (Value.slice (some ady) 32 cy)), (4, 41, VP.is (Value.pointer (some ady))), (5, 42, VP.is (Value.int .u8 b.k)), (6, 43, VP.is (Value.bool (a.eqf b 0))), (7, 44, VP.is (Value.pointer (some ⟨g1, 0, none⟩))), (8, 45, VP.is (Value.int .u8 a.k)), (9, 46, VP.is (Value.pointer (some ⟨g2, 0, none⟩))), (10, 47, VP.is (Value.int .u8 b.k)), (11, 48, VP.is (Value.bool (a.eqf b 0))), (12, 49, VP.is (Value.bool true)), (13, 50, VP.is (Value.bool true)), (14, 51, VP.is (Value.slice (some adx) 32 cx)), (15, 52, VP.is (Value.slice (some (adx.add 2)) 2 (cx - 2))), (16, 53, VP.is (Value.string (strOfNums (seg a 1)))), (17, 54, VP.is (Value.slice (some ady) 32 cy)), (18, 55, VP.is (Value.slice (some (ady.add 2)) 2 (cy - 2))), (19, 56, VP.is (Value.string (strOfNums (seg b 1)))), (20, 57, VP.is (Value.bool (a.eqf b 1))), (21, 58, VP.is (Value.pointer (some ⟨g1, 1, none⟩))), (22, 59, VP.is (Value.int .u16 a.li)), (23, 60, VP.is (Value.pointer (some ⟨g2, 1, none⟩))), (24, 61, VP.is (Value.int .u16 b.li)), (25, 62, VP.is (Value.bool (a.eqf b 1))), (26, 63, VP.is (Value.bool true)), (27, 64, VP.is (Value.bool true)), (28, 65, VP.is (Value.bool true)), (29, 66, VP.is (Value.slice (some adx) 32 cx)), (30, 67, VP.is (Value.slice (some (adx.add 4)) 4 (cx - 4))), (31, 68, VP.is (Value.string (strOfNums (seg a 2)))), (32, 69, VP.is (Value.slice (some ady) 32 cy)), (33, 70, VP.is (Value.slice (some (ady.add 4)) 4 (cy - 4))), (34, 71, VP.is (Value.string (strOfNums (seg b 2)))), (35, 72, VP.is (Value.bool (a.eqf b 2))), (36, 73, VP.is (Value.pointer (some ⟨g1, 2, none⟩))), (37, 74, VP.is (Value.int .u32 a.sz)), (38, 75, VP.is (Value.pointer (some ⟨g2, 2, none⟩))), (39, 76, VP.is (Value.int .u32 b.sz)), (40, 77, VP.is (Value.bool (a.eqf b 2))), (41, 78, VP.is (Value.bool true)), (42, 79, VP.is (Value.bool true)), (43, 80, VP.is (Value.bool true)), (44, 81, VP.is (Value.slice (some adx) 32 cx)), (45, 82, VP.is (Value.slice (some (adx.add 8)) 6 (cx - 8))), (46, 83, VP.is (Value.string (strOfNums (seg a 3)))), (47, 84, VP.is (Value.slice (some ady) 32 cy)), (48, 85, VP.is (Value.slice (some (ady.add 8)) 6 (cy - 8))), (49, 86, VP.is (Value.string (strOfNums (seg b 3)))), (50, 87, VP.is (Value.bool (a.eqf b 3))), (51, 88, VP.is (Value.pointer (some ⟨g1, 3, none⟩))), (52, 89, VP.is (Value.agg (encs (Value.int .u16) a.nums3).toArray)), (53, 90, VP.is (Value.pointer (some ⟨g2, 3, none⟩))), (54, 91, VP.is (Value.agg (encs (Value.int .u16) b.nums3).toArray)), (55, 92, VP.is (Value.bool (a.eqf b 3))), (56, 93, VP.is (Value.bool true)), (57, 94, VP.is (Value.bool true)), (58, 95, VP.is (Value.bool true)), (59, 96, VP.is (Value.slice (some adx) 32 cx)), (60, 97, VP.is (Value.slice (some (adx.add 14)) 2 (cx - 14))), (61, 98, VP.is (Value.string (strOfNums (seg a 4)))), (62, 99, VP.is (Value.slice (some ady) 32 cy)), (63, 100, VP.is (Value.slice (some (ady.add 14)) 2 (cy - 14))), (64, 101, VP.is (Value.string (strOfNums (seg b 4)))), (65, 102, VP.is (Value.bool (a.eqf b 4))), (66, 103, VP.is (Value.pointer (some ⟨g1, 6, none⟩))), (67, 104, VP.is (Value.int .u16 a.s)), (68, 105, VP.is (Value.pointer (some ⟨g2, 6, none⟩))), (69, 106, VP.is (Value.int .u16 b.s)), (70, 107, VP.is (Value.bool (a.eqf b 4))), (71, 108, VP.is (Value.bool true)), (72, 109, VP.is (Value.bool true)), (73, 110, VP.is (Value.bool true)), (74, 111, VP.is (Value.slice (some adx) 32 cx)), (75, 112, VP.is (Value.slice (some (adx.add 16)) 2 (cx - 16))), (76, 113, VP.is (Value.string (strOfNums (seg a 5)))), (77, 114, VP.is (Value.slice (some ady) 32 cy)), (78, 115, VP.is (Value.slice (some (ady.add 16)) 2 (cy - 16))), (79, 116, VP.is (Value.string (strOfNums (seg b 5)))), (80, 117, VP.is (Value.bool (a.eqf b 5))), (81, 118, VP.is (Value.pointer (some ⟨g1, 7, none⟩))), (82, 119, VP.is (Value.int .u16 a.d)), (83, 120, VP.is (Value.pointer (some ⟨g2, 7, none⟩))), (84, 121, VP.is (Value.int .u16 b.d)), (85, 122, VP.is (Value.bool (a.eqf b 5))), (86, 123, VP.is (Value.bool true)), (87, 124, VP.is (Value.bool true)), (88, 4, VP.is (Value.bool true))] rfl (by kernel_rfl) (by kernel_rfl) rfl (by kernel_rfl) (by kernel_rfl) (by kernel_rfl) (by kernel_rfl) (by kernel_rfl) ?_ ?_
  · refine ms_cons ?_ <| ms_cons ?_ <| ms_cons ?_ <| ms_cons ?_ <| ms_cons ?_ <| ms_cons ?_ <| ms_cons ?_ <| ms_cons ?_ <| ms_cons ?_ <| ms_cons ?_ <| ms_cons ?_ <| ms_cons ?_ <| ms_cons ?_ <| ms_cons ?_ <| ms_cons ?_ <| ms_cons ?_ <| ms_cons ?_ <| ms_cons ?_ <| ms_cons ?_ <| ms_cons ?_ <| ms_cons ?_ <| ms_cons ?_ <| ms_cons ?_ <| ms_cons ?_ <| ms_cons ?_ <| ms_cons ?_ <| ms_cons ?_ <| ms_cons ?_ <| ms_cons ?_ <| ms_cons ?_ <| ms_cons ?_ <| ms_cons ?_ <| ms_cons ?_ <| ms_cons ?_ <| ms_cons ?_ <| ms_cons ?_ <| ms_cons ?_ <| ms_cons ?_ <| ms_cons ?_ <| ms_cons ?_ <| ms_cons ?_ <| ms_cons ?_ <| ms_cons ?_ <| ms_cons ?_ <| ms_cons ?_ <| ms_cons ?_ <| ms_cons ?_ <| ms_cons ?_ <| ms_cons ?_ <| ms_cons ?_ <| ms_cons ?_ <| ms_cons ?_ <| ms_cons ?_ <| ms_cons ?_ <| ms_cons ?_ <| ms_cons ?_ <| ms_cons ?_ <| ms_cons ?_ <| ms_cons ?_ <| ms_cons ?_ <| ms_cons ?_ <| ms_cons ?_ <| ms_cons ?_ <| ms_cons ?_ <| ms_cons ?_ <| ms_cons ?_ <| ms_cons ?_ <| ms_cons ?_ <| ms_cons ?_ <| ms_cons ?_ <| ms_cons ?_ <| ms_cons ?_ <| ms_cons ?_ <| ms_cons ?_ <| ms_cons ?_ <| ms_cons ?_ <| ms_cons ?_ <| ms_cons ?_ <| ms_cons ?_ <| ms_cons ?_ <| ms_cons ?_ <| ms_cons ?_ <| ms_cons ?_ <| ms_cons ?_ <| ms_cons ?_ <| ms_cons ?_ <| ms_cons ?_ <| ms_cons ?_ <| ms_cons ?_ <| ms_nil
    · intro act_ w' H
      have e6 := H.tmp (t := 6) rfl (by kernel_rfl)
      have ev6 := eval_of e6
      refine ms_val rfl rfl rfl (Value.slice (some adx) 32 cx) w' ?_ (Below.refl _ _) rfl
      · go_simp
        try rfl
    · intro act_ w' H
      obtain ⟨_, e37, rfl⟩ := H.on 0 rfl (by kernel_rfl)
      have ev37 := eval_of e37
      refine ms_val rfl rfl rfl (Value.pointer (some adx)) w' ?_ (Below.refl _ _) rfl
      · go_simp
        try rfl
    · intro act_ w' H
      obtain ⟨_, e38, rfl⟩ := H.on 1 rfl (by kernel_rfl)
      have ev38 := eval_of e38
      have hcc := HX0B.out w' (hb6.trans (H.below.mono hb6.size))
      refine ms_val rfl rfl rfl (Value.int .u8 a.k) w' ?_ (Below.refl _ _) rfl
      · go_simp
        try rfl
    · intro act_ w' H
      have e7 := H.tmp (t := 7) rfl (by kernel_rfl)
      have ev7 := eval_of e7
      refine ms_val rfl rfl rfl (Value.slice (some ady) 32 cy) w' ?_ (Below.refl _ _) rfl
      · go_simp
        try rfl
    · intro act_ w' H
      obtain ⟨_, e40, rfl⟩ := H.on 3 rfl (by kernel_rfl)
      have ev40 := eval_of e40
      refine ms_val rfl rfl rfl (Value.pointer (some ady)) w' ?_ (Below.refl _ _) rfl
      · go_simp
        try rfl
    · intro act_ w' H
      obtain ⟨_, e41, rfl⟩ := H.on 4 rfl (by kernel_rfl)
      have ev41 := eval_of e41
      have hcc := HY0B.out w' (hb6.trans (H.below.mono hb6.size))
      refine ms_val rfl rfl rfl (Value.int .u8 b.k) w' ?_ (Below.refl _ _) rfl
      · go_simp
        try rfl
    · intro act_ w' H
      obtain ⟨_, e39, rfl⟩ := H.on 2 rfl (by kernel_rfl)
      have ev39 := eval_of e39
      obtain ⟨_, e42, rfl⟩ := H.on 5 rfl (by kernel_rfl)
      have ev42 := eval_of e42
      refine ms_val rfl rfl rfl (Value.bool (a.eqf b 0)) w' ?_ (Below.refl _ _) rfl
      · go_simp
        try rfl
    · intro act_ w' H
      have e2 := H.tmp (t := 2) rfl (by kernel_rfl)
      have ev2 := eval_of e2
      refine ms_val rfl rfl rfl (Value.pointer (some ⟨g1, 0, none⟩)) w' ?_ (Below.refl _ _) rfl
      · go_simp
        try rfl
    · intro act_ w' H
      obtain ⟨_, e44, rfl⟩ := H.on 7 rfl (by kernel_rfl)
      have ev44 := eval_of e44
      obtain ⟨n1_, n2_, n3_, n4_, n5_, n6_, n7_, n8_⟩ := InoAt.all (show InoAt 26 w' g1 a from blk_below HKA.out.blk (hb6.trans (H.below.mono hb6.size)))
      refine ms_val rfl rfl rfl (Value.int .u8 a.k) w' ?_ (Below.refl _ _) rfl
      · go_simp
        try rfl
    · intro act_ w' H
      have e3 := H.tmp (t := 3) rfl (by kernel_rfl)
      have ev3 := eval_of e3
      refine ms_val rfl rfl rfl (Value.pointer (some ⟨g2, 0, none⟩)) w' ?_ (Below.refl _ _) rfl
      · go_simp
        try rfl
    · intro act_ w' H
      obtain ⟨_, e46, rfl⟩ := H.on 9 rfl (by kernel_rfl)
      have ev46 := eval_of e46
      obtain ⟨n1_, n2_, n3_, n4_, n5_, n6_, n7_, n8_⟩ := InoAt.all (show InoAt 26 w' g2 b from blk_below HKB.out.blk (hb6.trans (H.below.mono hb6.size)))
      refine ms_val rfl rfl rfl (Value.int .u8 b.k) w' ?_ (Below.refl _ _) rfl
      · go_simp
        try rfl
    · intro act_ w' H
      obtain ⟨_, e45, rfl⟩ := H.on 8 rfl (by kernel_rfl)
      have ev45 := eval_of e45
      obtain ⟨_, e47, rfl⟩ := H.on 10 rfl (by kernel_rfl)
      have ev47 := eval_of e47
      refine ms_val rfl rfl rfl (Value.bool (a.eqf b 0)) w' ?_ (Below.refl _ _) rfl
      · go_simp
        try rfl
    · intro act_ w' H
      obtain ⟨_, e43, rfl⟩ := H.on 6 rfl (by kernel_rfl)
      have ev43 := eval_of e43
      obtain ⟨_, e48, rfl⟩ := H.on 11 rfl (by kernel_rfl)
      have ev48 := eval_of e48
      refine ms_val rfl rfl rfl (Value.bool true) w' ?_ (Below.refl _ _) rfl
      · go_simp
        try rfl
    · intro act_ w' H
      obtain ⟨_, e49, rfl⟩ := H.on 12 rfl (by kernel_rfl)
      have ev49 := eval_of e49
      refine ms_val rfl rfl rfl (Value.bool true) w' ?_ (Below.refl _ _) rfl
      · go_simp
        try rfl
    · intro act_ w' H
      have e6 := H.tmp (t := 6) rfl (by kernel_rfl)
      have ev6 := eval_of e6
      obtain ⟨_, e50, rfl⟩ := H.on 13 rfl (by kernel_rfl)
      have ev50 := eval_of e50
      refine ms_val rfl rfl (wanted_on rfl rfl rfl e50) (Value.slice (some adx) 32 cx) w' ?_ (Below.refl _ _) rfl
      · go_simp
        try rfl
    · intro act_ w' H
      obtain ⟨_, e51, rfl⟩ := H.on 14 rfl (by kernel_rfl)
      have ev51 := eval_of e51
      obtain ⟨_, e50, rfl⟩ := H.on 13 rfl (by kernel_rfl)
      have ev50 := eval_of e50
      refine ms_val rfl rfl (wanted_on rfl rfl rfl e50) (Value.slice (some (adx.add 2)) 2 (cx - 2)) w' ?_ (Below.refl _ _) rfl
      first | (go_simp; intro hq; exfalso; omega) | (go_simp; rw [if_pos (by omega), if_neg (by omega)]; first | done | rfl) | (go_simp; done)
    · intro act_ w' H
      obtain ⟨_, e52, rfl⟩ := H.on 15 rfl (by kernel_rfl)
      have ev52 := eval_of e52
      obtain ⟨_, e50, rfl⟩ := H.on 13 rfl (by kernel_rfl)
      have ev50 := eval_of e50
      refine ms_val rfl rfl (wanted_on rfl rfl rfl e50) (Value.string (strOfNums (seg a 1))) w' ?_ (Below.refl _ _) rfl
      exact ex_string_row w' _ _ _ _ rfl Try.underlying27 Try.underlying5 Try.underlying9 (some (adx.add 2)) (cx - 2) (seg a 1) ev52 (HX1.out w' (hb6.trans (H.below.mono hb6.size)))
    · intro act_ w' H
      have e7 := H.tmp (t := 7) rfl (by kernel_rfl)
      have ev7 := eval_of e7
      obtain ⟨_, e50, rfl⟩ := H.on 13 rfl (by kernel_rfl)
      have ev50 := eval_of e50
      refine ms_val rfl rfl (wanted_on rfl rfl rfl e50) (Value.slice (some ady) 32 cy) w' ?_ (Below.refl _ _) rfl
      · go_simp
        try rfl
    · intro act_ w' H
      obtain ⟨_, e54, rfl⟩ := H.on 17 rfl (by kernel_rfl)
      have ev54 := eval_of e54
      obtain ⟨_, e50, rfl⟩ := H.on 13 rfl (by kernel_rfl)
      have ev50 := eval_of e50
      refine ms_val rfl rfl (wanted_on rfl rfl rfl e50) (Value.slice (some (ady.add 2)) 2 (cy - 2)) w' ?_ (Below.refl _ _) rfl
      first | (go_simp; intro hq; exfalso; omega) | (go_simp; rw [if_pos (by omega), if_neg (by omega)]; first | done | rfl) | (go_simp; done)
    · intro act_ w' H
      obtain ⟨_, e55, rfl⟩ := H.on 18 rfl (by kernel_rfl)
      have ev55 := eval_of e55
      obtain ⟨_, e50, rfl⟩ := H.on 13 rfl (by kernel_rfl)
      have ev50 := eval_of e50
      refine ms_val rfl rfl (wanted_on rfl rfl rfl e50) (Value.string (strOfNums (seg b 1))) w' ?_ (Below.refl _ _) rfl
      exact ex_string_row w' _ _ _ _ rfl Try.underlying27 Try.underlying5 Try.underlying9 (some (ady.add 2)) (cy - 2) (seg b 1) ev55 (HY1.out w' (hb6.trans (H.below.mono hb6.size)))
    · intro act_ w' H
      obtain ⟨_, e53, rfl⟩ := H.on 16 rfl (by kernel_rfl)
      have ev53 := eval_of e53
      obtain ⟨_, e56, rfl⟩ := H.on 19 rfl (by kernel_rfl)
      have ev56 := eval_of e56
      obtain ⟨_, e50, rfl⟩ := H.on 13 rfl (by kernel_rfl)
      have ev50 := eval_of e50
      have hq := HSTR1.out
      refine ms_val rfl rfl (wanted_on rfl rfl rfl e50) (Value.bool (a.eqf b 1)) w' ?_ (Below.refl _ _) rfl
      · go_simp
        try rfl
    · intro act_ w' H
      have e2 := H.tmp (t := 2) rfl (by kernel_rfl)
      have ev2 := eval_of e2
      obtain ⟨_, e50, rfl⟩ := H.on 13 rfl (by kernel_rfl)
      have ev50 := eval_of e50
      refine ms_val rfl rfl (wanted_on rfl rfl rfl e50) (Value.pointer (some ⟨g1, 1, none⟩)) w' ?_ (Below.refl _ _) rfl
      · go_simp
        try rfl
    · intro act_ w' H
      obtain ⟨_, e58, rfl⟩ := H.on 21 rfl (by kernel_rfl)
      have ev58 := eval_of e58
      obtain ⟨_, e50, rfl⟩ := H.on 13 rfl (by kernel_rfl)
      have ev50 := eval_of e50
      obtain ⟨n1_, n2_, n3_, n4_, n5_, n6_, n7_, n8_⟩ := InoAt.all (show InoAt 26 w' g1 a from blk_below HKA.out.blk (hb6.trans (H.below.mono hb6.size)))
      refine ms_val rfl rfl (wanted_on rfl rfl rfl e50) (Value.int .u16 a.li) w' ?_ (Below.refl _ _) rfl
      · go_simp
        try rfl
    · intro act_ w' H
      have e3 := H.tmp (t := 3) rfl (by kernel_rfl)
      have ev3 := eval_of e3
      obtain ⟨_, e50, rfl⟩ := H.on 13 rfl (by kernel_rfl)
      have ev50 := eval_of e50
      refine ms_val rfl rfl (wanted_on rfl rfl rfl e50) (Value.pointer (some ⟨g2, 1, none⟩)) w' ?_ (Below.refl _ _) rfl
      · go_simp
        try rfl
    · intro act_ w' H
      obtain ⟨_, e60, rfl⟩ := H.on 23 rfl (by kernel_rfl)
      have ev60 := eval_of e60
      obtain ⟨_, e50, rfl⟩ := H.on 13 rfl (by kernel_rfl)
      have ev50 := eval_of e50
      obtain ⟨n1_, n2_, n3_, n4_, n5_, n6_, n7_, n8_⟩ := InoAt.all (show InoAt 26 w' g2 b from blk_below HKB.out.blk (hb6.trans (H.below.mono hb6.size)))
      refine ms_val rfl rfl (wanted_on rfl rfl rfl e50) (Value.int .u16 b.li) w' ?_ (Below.refl _ _) rfl
      · go_simp
        try rfl
    · intro act_ w' H
      obtain ⟨_, e59, rfl⟩ := H.on 22 rfl (by kernel_rfl)
      have ev59 := eval_of e59
      obtain ⟨_, e61, rfl⟩ := H.on 24 rfl (by kernel_rfl)
      have ev61 := eval_of e61
      obtain ⟨_, e50, rfl⟩ := H.on 13 rfl (by kernel_rfl)
      have ev50 := eval_of e50
      refine ms_val rfl rfl (wanted_on rfl rfl rfl e50) (Value.bool (a.eqf b 1)) w' ?_ (Below.refl _ _) rfl
      · go_simp
        try rfl
    · intro act_ w' H
      obtain ⟨_, e57, rfl⟩ := H.on 20 rfl (by kernel_rfl)
      have ev57 := eval_of e57
      obtain ⟨_, e62, rfl⟩ := H.on 25 rfl (by kernel_rfl)
      have ev62 := eval_of e62
      obtain ⟨_, e50, rfl⟩ := H.on 13 rfl (by kernel_rfl)
      have ev50 := eval_of e50
      refine ms_val rfl rfl (wanted_on rfl rfl rfl e50) (Value.bool true) w' ?_ (Below.refl _ _) rfl
      · go_simp
        try rfl
    · intro act_ w' H
      obtain ⟨_, e50, rfl⟩ := H.on 13 rfl (by kernel_rfl)
      have ev50 := eval_of e50
      obtain ⟨_, e63, rfl⟩ := H.on 26 rfl (by kernel_rfl)
      have ev63 := eval_of e63
      refine ms_val rfl rfl rfl (Value.bool true) w' ?_ (Below.refl _ _) rfl
      · go_simp
        try rfl
    · intro act_ w' H
      obtain ⟨_, e64, rfl⟩ := H.on 27 rfl (by kernel_rfl)
      have ev64 := eval_of e64
      refine ms_val rfl rfl rfl (Value.bool true) w' ?_ (Below.refl _ _) rfl
      · go_simp
        try rfl
    · intro act_ w' H
      have e6 := H.tmp (t := 6) rfl (by kernel_rfl)
      have ev6 := eval_of e6
      obtain ⟨_, e65, rfl⟩ := H.on 28 rfl (by kernel_rfl)
      have ev65 := eval_of e65
      refine ms_val rfl rfl (wanted_on rfl rfl rfl e65) (Value.slice (some adx) 32 cx) w' ?_ (Below.refl _ _) rfl
      · go_simp
        try rfl
    · intro act_ w' H
      obtain ⟨_, e66, rfl⟩ := H.on 29 rfl (by kernel_rfl)
      have ev66 := eval_of e66
      obtain ⟨_, e65, rfl⟩ := H.on 28 rfl (by kernel_rfl)
      have ev65 := eval_of e65
      refine ms_val rfl rfl (wanted_on rfl rfl rfl e65) (Value.slice (some (adx.add 4)) 4 (cx - 4)) w' ?_ (Below.refl _ _) rfl
      first | (go_simp; intro hq; exfalso; omega) | (go_simp; rw [if_pos (by omega), if_neg (by omega)]; first | done | rfl) | (go_simp; done)
    · intro act_ w' H
      obtain ⟨_, e67, rfl⟩ := H.on 30 rfl (by kernel_rfl)
      have ev67 := eval_of e67
      obtain ⟨_, e65, rfl⟩ := H.on 28 rfl (by kernel_rfl)
      have ev65 := eval_of e65
      refine ms_val rfl rfl (wanted_on rfl rfl rfl e65) (Value.string (strOfNums (seg a 2))) w' ?_ (Below.refl _ _) rfl
      exact ex_string_row w' _ _ _ _ rfl Try.underlying27 Try.underlying5 Try.underlying9 (some (adx.add 4)) (cx - 4) (seg a 2) ev67 (HX2.out w' (hb6.trans (H.below.mono hb6.size)))
    · intro act_ w' H
      have e7 := H.tmp (t := 7) rfl (by kernel_rfl)
      have ev7 := eval_of e7
      obtain ⟨_, e65, rfl⟩ := H.on 28 rfl (by kernel_rfl)
      have ev65 := eval_of e65
      refine ms_val rfl rfl (wanted_on rfl rfl rfl e65) (Value.slice (some ady) 32 cy) w' ?_ (Below.refl _ _) rfl
      · go_simp
        try rfl
    · intro act_ w' H
      obtain ⟨_, e69, rfl⟩ := H.on 32 rfl (by kernel_rfl)
      have ev69 := eval_of e69
      obtain ⟨_, e65, rfl⟩ := H.on 28 rfl (by kernel_rfl)
      have ev65 := eval_of e65
      refine ms_val rfl rfl (wanted_on rfl rfl rfl e65) (Value.slice (some (ady.add 4)) 4 (cy - 4)) w' ?_ (Below.refl _ _) rfl
      first | (go_simp; intro hq; exfalso; omega) | (go_simp; rw [if_pos (by omega), if_neg (by omega)]; first | done | rfl) | (go_simp; done)
    · intro act_ w' H
      obtain ⟨_, e70, rfl⟩ := H.on 33 rfl (by kernel_rfl)
      have ev70 := eval_of e70
      obtain ⟨_, e65, rfl⟩ := H.on 28 rfl (by kernel_rfl)
      have ev65 := eval_of e65
      refine ms_val rfl rfl (wanted_on rfl rfl rfl e65) (Value.string (strOfNums (seg b 2))) w' ?_ (Below.refl _ _) rfl
      exact ex_string_row w' _ _ _ _ rfl Try.underlying27 Try.underlying5 Try.underlying9 (some (ady.add 4)) (cy - 4) (seg b 2) ev70 (HY2.out w' (hb6.trans (H.below.mono hb6.size)))
    · intro act_ w' H
      obtain ⟨_, e68, rfl⟩ := H.on 31 rfl (by kernel_rfl)
      have ev68 := eval_of e68
      obtain ⟨_, e71, rfl⟩ := H.on 34 rfl (by kernel_rfl)
      have ev71 := eval_of e71
      obtain ⟨_, e65, rfl⟩ := H.on 28 rfl (by kernel_rfl)
      have ev65 := eval_of e65
      have hq := HSTR2.out
      refine ms_val rfl rfl (wanted_on rfl rfl rfl e65) (Value.bool (a.eqf b 2)) w' ?_ (Below.refl _ _) rfl
      · go_simp
        try rfl
    · intro act_ w' H
      have e2 := H.tmp (t := 2) rfl (by kernel_rfl)
      have ev2 := eval_of e2
      obtain ⟨_, e65, rfl⟩ := H.on 28 rfl (by kernel_rfl)
      have ev65 := eval_of e65
      refine ms_val rfl rfl (wanted_on rfl rfl rfl e65) (Value.pointer (some ⟨g1, 2, none⟩)) w' ?_ (Below.refl _ _) rfl
      · go_simp
        try rfl
    · intro act_ w' H
      obtain ⟨_, e73, rfl⟩ := H.on 36 rfl (by kernel_rfl)
      have ev73 := eval_of e73
      obtain ⟨_, e65, rfl⟩ := H.on 28 rfl (by kernel_rfl)
      have ev65 := eval_of e65
      obtain ⟨n1_, n2_, n3_, n4_, n5_, n6_, n7_, n8_⟩ := InoAt.all (show InoAt 26 w' g1 a from blk_below HKA.out.blk (hb6.trans (H.below.mono hb6.size)))
      refine ms_val rfl rfl (wanted_on rfl rfl rfl e65) (Value.int .u32 a.sz) w' ?_ (Below.refl _ _) rfl
      · go_simp
        try rfl
    · intro act_ w' H
      have e3 := H.tmp (t := 3) rfl (by kernel_rfl)
      have ev3 := eval_of e3
      obtain ⟨_, e65, rfl⟩ := H.on 28 rfl (by kernel_rfl)
      have ev65 := eval_of e65
      refine ms_val rfl rfl (wanted_on rfl rfl rfl e65) (Value.pointer (some ⟨g2, 2, none⟩)) w' ?_ (Below.refl _ _) rfl
      · go_simp
        try rfl
    · intro act_ w' H
      obtain ⟨_, e75, rfl⟩ := H.on 38 rfl (by kernel_rfl)
      have ev75 := eval_of e75
      obtain ⟨_, e65, rfl⟩ := H.on 28 rfl (by kernel_rfl)
      have ev65 := eval_of e65
      obtain ⟨n1_, n2_, n3_, n4_, n5_, n6_, n7_, n8_⟩ := InoAt.all (show InoAt 26 w' g2 b from blk_below HKB.out.blk (hb6.trans (H.below.mono hb6.size)))
      refine ms_val rfl rfl (wanted_on rfl rfl rfl e65) (Value.int .u32 b.sz) w' ?_ (Below.refl _ _) rfl
      · go_simp
        try rfl
    · intro act_ w' H
      obtain ⟨_, e74, rfl⟩ := H.on 37 rfl (by kernel_rfl)
      have ev74 := eval_of e74
      obtain ⟨_, e76, rfl⟩ := H.on 39 rfl (by kernel_rfl)
      have ev76 := eval_of e76
      obtain ⟨_, e65, rfl⟩ := H.on 28 rfl (by kernel_rfl)
      have ev65 := eval_of e65
      refine ms_val rfl rfl (wanted_on rfl rfl rfl e65) (Value.bool (a.eqf b 2)) w' ?_ (Below.refl _ _) rfl
      · go_simp
        try rfl
    · intro act_ w' H
      obtain ⟨_, e72, rfl⟩ := H.on 35 rfl (by kernel_rfl)
      have ev72 := eval_of e72
      obtain ⟨_, e77, rfl⟩ := H.on 40 rfl (by kernel_rfl)
      have ev77 := eval_of e77
      obtain ⟨_, e65, rfl⟩ := H.on 28 rfl (by kernel_rfl)
      have ev65 := eval_of e65
      refine ms_val rfl rfl (wanted_on rfl rfl rfl e65) (Value.bool true) w' ?_ (Below.refl _ _) rfl
      · go_simp
        try rfl
    · intro act_ w' H
      obtain ⟨_, e65, rfl⟩ := H.on 28 rfl (by kernel_rfl)
      have ev65 := eval_of e65
      obtain ⟨_, e78, rfl⟩ := H.on 41 rfl (by kernel_rfl)
      have ev78 := eval_of e78
      refine ms_val rfl rfl rfl (Value.bool true) w' ?_ (Below.refl _ _) rfl
      · go_simp
        try rfl
    · intro act_ w' H
      obtain ⟨_, e79, rfl⟩ := H.on 42 rfl (by kernel_rfl)
      have ev79 := eval_of e79
      refine ms_val rfl rfl rfl (Value.bool true) w' ?_ (Below.refl _ _) rfl
      · go_simp
        try rfl
    · intro act_ w' H
      have e6 := H.tmp (t := 6) rfl (by kernel_rfl)
      have ev6 := eval_of e6
      obtain ⟨_, e80, rfl⟩ := H.on 43 rfl (by kernel_rfl)
      have ev80 := eval_of e80
      refine ms_val rfl rfl (wanted_on rfl rfl rfl e80) (Value.slice (some adx) 32 cx) w' ?_ (Below.refl _ _) rfl
      · go_simp
        try rfl
    · intro act_ w' H
      obtain ⟨_, e81, rfl⟩ := H.on 44 rfl (by kernel_rfl)
      have ev81 := eval_of e81
      obtain ⟨_, e80, rfl⟩ := H.on 43 rfl (by kernel_rfl)
      have ev80 := eval_of e80
      refine ms_val rfl rfl (wanted_on rfl rfl rfl e80) (Value.slice (some (adx.add 8)) 6 (cx - 8)) w' ?_ (Below.refl _ _) rfl
      first | (go_simp; intro hq; exfalso; omega) | (go_simp; rw [if_pos (by omega), if_neg (by omega)]; first | done | rfl) | (go_simp; done)
    · intro act_ w' H
      obtain ⟨_, e82, rfl⟩ := H.on 45 rfl (by kernel_rfl)
      have ev82 := eval_of e82
      obtain ⟨_, e80, rfl⟩ := H.on 43 rfl (by kernel_rfl)
      have ev80 := eval_of e80
      refine ms_val rfl rfl (wanted_on rfl rfl rfl e80) (Value.string (strOfNums (seg a 3))) w' ?_ (Below.refl _ _) rfl
      exact ex_string_row w' _ _ _ _ rfl Try.underlying27 Try.underlying5 Try.underlying9 (some (adx.add 8)) (cx - 8) (seg a 3) ev82 (HX3.out w' (hb6.trans (H.below.mono hb6.size)))
    · intro act_ w' H
      have e7 := H.tmp (t := 7) rfl (by kernel_rfl)
      have ev7 := eval_of e7
      obtain ⟨_, e80, rfl⟩ := H.on 43 rfl (by kernel_rfl)
      have ev80 := eval_of e80
      refine ms_val rfl rfl (wanted_on rfl rfl rfl e80) (Value.slice (some ady) 32 cy) w' ?_ (Below.refl _ _) rfl
      · go_simp
        try rfl
    · intro act_ w' H
      obtain ⟨_, e84, rfl⟩ := H.on 47 rfl (by kernel_rfl)
      have ev84 := eval_of e84
      obtain ⟨_, e80, rfl⟩ := H.on 43 rfl (by kernel_rfl)
      have ev80 := eval_of e80
      refine ms_val rfl rfl (wanted_on rfl rfl rfl e80) (Value.slice (some (ady.add 8)) 6 (cy - 8)) w' ?_ (Below.refl _ _) rfl
      first | (go_simp; intro hq; exfalso; omega) | (go_simp; rw [if_pos (by omega), if_neg (by omega)]; first | done | rfl) | (go_simp; done)
    · intro act_ w' H
      obtain ⟨_, e85, rfl⟩ := H.on 48 rfl (by kernel_rfl)
      have ev85 := eval_of e85
      obtain ⟨_, e80, rfl⟩ := H.on 43 rfl (by kernel_rfl)
      have ev80 := eval_of e80
      refine ms_val rfl rfl (wanted_on rfl rfl rfl e80) (Value.string (strOfNums (seg b 3))) w' ?_ (Below.refl _ _) rfl
      exact ex_string_row w' _ _ _ _ rfl Try.underlying27 Try.underlying5 Try.underlying9 (some (ady.add 8)) (cy - 8) (seg b 3) ev85 (HY3.out w' (hb6.trans (H.below.mono hb6.size)))
    · intro act_ w' H
      obtain ⟨_, e83, rfl⟩ := H.on 46 rfl (by kernel_rfl)
      have ev83 := eval_of e83
      obtain ⟨_, e86, rfl⟩ := H.on 49 rfl (by kernel_rfl)
      have ev86 := eval_of e86
      obtain ⟨_, e80, rfl⟩ := H.on 43 rfl (by kernel_rfl)
      have ev80 := eval_of e80
      have hq := HSTR3.out
      refine ms_val rfl rfl (wanted_on rfl rfl rfl e80) (Value.bool (a.eqf b 3)) w' ?_ (Below.refl _ _) rfl
      · go_simp
        try rfl
    · intro act_ w' H
      have e2 := H.tmp (t := 2) rfl (by kernel_rfl)
      have ev2 := eval_of e2
      obtain ⟨_, e80, rfl⟩ := H.on 43 rfl (by kernel_rfl)
      have ev80 := eval_of e80
      refine ms_val rfl rfl (wanted_on rfl rfl rfl e80) (Value.pointer (some ⟨g1, 3, none⟩)) w' ?_ (Below.refl _ _) rfl
      · go_simp
        try rfl
    · intro act_ w' H
      obtain ⟨_, e88, rfl⟩ := H.on 51 rfl (by kernel_rfl)
      have ev88 := eval_of e88
      obtain ⟨_, e80, rfl⟩ := H.on 43 rfl (by kernel_rfl)
      have ev80 := eval_of e80
      refine ms_val rfl rfl (wanted_on rfl rfl rfl e80) (Value.agg (encs (Value.int .u16) a.nums3).toArray) w' ?_ (Below.refl _ _) rfl
      exact ex_load_agg w' _ _ rfl ⟨g1, 3, none⟩ ev88 _ _ (fun j v hv => load_nums (show InoAt 26 w' g1 a from blk_below HKA.out.blk (hb6.trans (H.below.mono hb6.size))) j v hv) Try.underlying24 rfl info_nums
    · intro act_ w' H
      have e3 := H.tmp (t := 3) rfl (by kernel_rfl)
      have ev3 := eval_of e3
      obtain ⟨_, e80, rfl⟩ := H.on 43 rfl (by kernel_rfl)
      have ev80 := eval_of e80
      refine ms_val rfl rfl (wanted_on rfl rfl rfl e80) (Value.pointer (some ⟨g2, 3, none⟩)) w' ?_ (Below.refl _ _) rfl
      · go_simp
        try rfl
    · intro act_ w' H
      obtain ⟨_, e90, rfl⟩ := H.on 53 rfl (by kernel_rfl)
      have ev90 := eval_of e90
      obtain ⟨_, e80, rfl⟩ := H.on 43 rfl (by kernel_rfl)
      have ev80 := eval_of e80
      refine ms_val rfl rfl (wanted_on rfl rfl rfl e80) (Value.agg (encs (Value.int .u16) b.nums3).toArray) w' ?_ (Below.refl _ _) rfl
      exact ex_load_agg w' _ _ rfl ⟨g2, 3, none⟩ ev90 _ _ (fun j v hv => load_nums (show InoAt 26 w' g2 b from blk_below HKB.out.blk (hb6.trans (H.below.mono hb6.size))) j v hv) Try.underlying24 rfl info_nums
    · intro act_ w' H
      obtain ⟨_, e89, rfl⟩ := H.on 52 rfl (by kernel_rfl)
      have ev89 := eval_of e89
      obtain ⟨_, e91, rfl⟩ := H.on 54 rfl (by kernel_rfl)
      have ev91 := eval_of e91
      obtain ⟨_, e80, rfl⟩ := H.on 43 rfl (by kernel_rfl)
      have ev80 := eval_of e80
      refine ms_val rfl rfl (wanted_on rfl rfl rfl e80) (Value.bool (a.eqf b 3)) w' ?_ (Below.refl _ _) rfl
      exact ex_binop w' _ _ _ _ _ rfl _ _ ev89 ev91 (guard_nums _ _ _ _ _ w') _ (eql_nums a b w')
    · intro act_ w' H
      obtain ⟨_, e87, rfl⟩ := H.on 50 rfl (by kernel_rfl)
      have ev87 := eval_of e87
      obtain ⟨_, e92, rfl⟩ := H.on 55 rfl (by kernel_rfl)
      have ev92 := eval_of e92
      obtain ⟨_, e80, rfl⟩ := H.on 43 rfl (by kernel_rfl)
      have ev80 := eval_of e80
      refine ms_val rfl rfl (wanted_on rfl rfl rfl e80) (Value.bool true) w' ?_ (Below.refl _ _) rfl
      · go_simp
        try rfl
    · intro act_ w' H
      obtain ⟨_, e80, rfl⟩ := H.on 43 rfl (by kernel_rfl)
      have ev80 := eval_of e80
      obtain ⟨_, e93, rfl⟩ := H.on 56 rfl (by kernel_rfl)
      have ev93 := eval_of e93
      refine ms_val rfl rfl rfl (Value.bool true) w' ?_ (Below.refl _ _) rfl
      · go_simp
        try rfl
    · intro act_ w' H
      obtain ⟨_, e94, rfl⟩ := H.on 57 rfl (by kernel_rfl)
      have ev94 := eval_of e94
      refine ms_val rfl rfl rfl (Value.bool true) w' ?_ (Below.refl _ _) rfl
      · go_simp
        try rfl
    · intro act_ w' H
      have e6 := H.tmp (t := 6) rfl (by kernel_rfl)
      have ev6 := eval_of e6
      obtain ⟨_, e95, rfl⟩ := H.on 58 rfl (by kernel_rfl)
      have ev95 := eval_of e95
      refine ms_val rfl rfl (wanted_on rfl rfl rfl e95) (Value.slice (some adx) 32 cx) w' ?_ (Below.refl _ _) rfl
      · go_simp
        try rfl
    · intro act_ w' H
      obtain ⟨_, e96, rfl⟩ := H.on 59 rfl (by kernel_rfl)
      have ev96 := eval_of e96
      obtain ⟨_, e95, rfl⟩ := H.on 58 rfl (by kernel_rfl)
      have ev95 := eval_of e95
      refine ms_val rfl rfl (wanted_on rfl rfl rfl e95) (Value.slice (some (adx.add 14)) 2 (cx - 14)) w' ?_ (Below.refl _ _) rfl
      first | (go_simp; intro hq; exfalso; omega) | (go_simp; rw [if_pos (by omega), if_neg (by omega)]; first | done | rfl) | (go_simp; done)
    · intro act_ w' H
      obtain ⟨_, e97, rfl⟩ := H.on 60 rfl (by kernel_rfl)
      have ev97 := eval_of e97
      obtain ⟨_, e95, rfl⟩ := H.on 58 rfl (by kernel_rfl)
      have ev95 := eval_of e95
      refine ms_val rfl rfl (wanted_on rfl rfl rfl e95) (Value.string (strOfNums (seg a 4))) w' ?_ (Below.refl _ _) rfl
      exact ex_string_row w' _ _ _ _ rfl Try.underlying27 Try.underlying5 Try.underlying9 (some (adx.add 14)) (cx - 14) (seg a 4) ev97 (HX4.out w' (hb6.trans (H.below.mono hb6.size)))
    · intro act_ w' H
      have e7 := H.tmp (t := 7) rfl (by kernel_rfl)
      have ev7 := eval_of e7
      obtain ⟨_, e95, rfl⟩ := H.on 58 rfl (by kernel_rfl)
      have ev95 := eval_of e95
      refine ms_val rfl rfl (wanted_on rfl rfl rfl e95) (Value.slice (some ady) 32 cy) w' ?_ (Below.refl _ _) rfl
      · go_simp
        try rfl
    · intro act_ w' H
      obtain ⟨_, e99, rfl⟩ := H.on 62 rfl (by kernel_rfl)
      have ev99 := eval_of e99
      obtain ⟨_, e95, rfl⟩ := H.on 58 rfl (by kernel_rfl)
      have ev95 := eval_of e95
      refine ms_val rfl rfl (wanted_on rfl rfl rfl e95) (Value.slice (some (ady.add 14)) 2 (cy - 14)) w' ?_ (Below.refl _ _) rfl
      first | (go_simp; intro hq; exfalso; omega) | (go_simp; rw [if_pos (by omega), if_neg (by omega)]; first | done | rfl) | (go_simp; done)
    · intro act_ w' H
      obtain ⟨_, e100, rfl⟩ := H.on 63 rfl (by kernel_rfl)
      have ev100 := eval_of e100
      obtain ⟨_, e95, rfl⟩ := H.on 58 rfl (by kernel_rfl)
      have ev95 := eval_of e95
      refine ms_val rfl rfl (wanted_on rfl rfl rfl e95) (Value.string (strOfNums (seg b 4))) w' ?_ (Below.refl _ _) rfl
      exact ex_string_row w' _ _ _ _ rfl Try.underlying27 Try.underlying5 Try.underlying9 (some (ady.add 14)) (cy - 14) (seg b 4) ev100 (HY4.out w' (hb6.trans (H.below.mono hb6.size)))
    · intro act_ w' H
      obtain ⟨_, e98, rfl⟩ := H.on 61 rfl (by kernel_rfl)
      have ev98 := eval_of e98
      obtain ⟨_, e101, rfl⟩ := H.on 64 rfl (by kernel_rfl)
      have ev101 := eval_of e101
      obtain ⟨_, e95, rfl⟩ := H.on 58 rfl (by kernel_rfl)
      have ev95 := eval_of e95
      have hq := HSTR4.out
      refine ms_val rfl rfl (wanted_on rfl rfl rfl e95) (Value.bool (a.eqf b 4)) w' ?_ (Below.refl _ _) rfl
      · go_simp
        try rfl
    · intro act_ w' H
      have e2 := H.tmp (t := 2) rfl (by kernel_rfl)
      have ev2 := eval_of e2
      obtain ⟨_, e95, rfl⟩ := H.on 58 rfl (by kernel_rfl)
      have ev95 := eval_of e95
      refine ms_val rfl rfl (wanted_on rfl rfl rfl e95) (Value.pointer (some ⟨g1, 6, none⟩)) w' ?_ (Below.refl _ _) rfl
      · go_simp
        try rfl
    · intro act_ w' H
      obtain ⟨_, e103, rfl⟩ := H.on 66 rfl (by kernel_rfl)
      have ev103 := eval_of e103
      obtain ⟨_, e95, rfl⟩ := H.on 58 rfl (by kernel_rfl)
      have ev95 := eval_of e95
      obtain ⟨n1_, n2_, n3_, n4_, n5_, n6_, n7_, n8_⟩ := InoAt.all (show InoAt 26 w' g1 a from blk_below HKA.out.blk (hb6.trans (H.below.mono hb6.size)))
      refine ms_val rfl rfl (wanted_on rfl rfl rfl e95) (Value.int .u16 a.s) w' ?_ (Below.refl _ _) rfl
      · go_simp
        try rfl
    · intro act_ w' H
      have e3 := H.tmp (t := 3) rfl (by kernel_rfl)
      have ev3 := eval_of e3
      obtain ⟨_, e95, rfl⟩ := H.on 58 rfl (by kernel_rfl)
      have ev95 := eval_of e95
      refine ms_val rfl rfl (wanted_on rfl rfl rfl e95) (Value.pointer (some ⟨g2, 6, none⟩)) w' ?_ (Below.refl _ _) rfl
      · go_simp
        try rfl
    · intro act_ w' H
      obtain ⟨_, e105, rfl⟩ := H.on 68 rfl (by kernel_rfl)
      have ev105 := eval_of e105
      obtain ⟨_, e95, rfl⟩ := H.on 58 rfl (by kernel_rfl)
      have ev95 := eval_of e95
      obtain ⟨n1_, n2_, n3_, n4_, n5_, n6_, n7_, n8_⟩ := InoAt.all (show InoAt 26 w' g2 b from blk_below HKB.out.blk (hb6.trans (H.below.mono hb6.size)))
      refine ms_val rfl rfl (wanted_on rfl rfl rfl e95) (Value.int .u16 b.s) w' ?_ (Below.refl _ _) rfl
      · go_simp
        try rfl
    · intro act_ w' H
      obtain ⟨_, e104, rfl⟩ := H.on 67 rfl (by kernel_rfl)
      have ev104 := eval_of e104
      obtain ⟨_, e106, rfl⟩ := H.on 69 rfl (by kernel_rfl)
      have ev106 := eval_of e106
      obtain ⟨_, e95, rfl⟩ := H.on 58 rfl (by kernel_rfl)
      have ev95 := eval_of e95
      refine ms_val rfl rfl (wanted_on rfl rfl rfl e95) (Value.bool (a.eqf b 4)) w' ?_ (Below.refl _ _) rfl
      · go_simp
        try rfl
    · intro act_ w' H
      obtain ⟨_, e102, rfl⟩ := H.on 65 rfl (by kernel_rfl)
      have ev102 := eval_of e102
      obtain ⟨_, e107, rfl⟩ := H.on 70 rfl (by kernel_rfl)
      have ev107 := eval_of e107
      obtain ⟨_, e95, rfl⟩ := H.on 58 rfl (by kernel_rfl)
      have ev95 := eval_of e95
      refine ms_val rfl rfl (wanted_on rfl rfl rfl e95) (Value.bool true) w' ?_ (Below.refl _ _) rfl
      · go_simp
        try rfl
    · intro act_ w' H
      obtain ⟨_, e95, rfl⟩ := H.on 58 rfl (by kernel_rfl)
      have ev95 := eval_of e95
      obtain ⟨_, e108, rfl⟩ := H.on 71 rfl (by kernel_rfl)
      have ev108 := eval_of e108
      refine ms_val rfl rfl rfl (Value.bool true) w' ?_ (Below.refl _ _) rfl
      · go_simp
        try rfl
    · intro act_ w' H
      obtain ⟨_, e109, rfl⟩ := H.on 72 rfl (by kernel_rfl)
      have ev109 := eval_of e109
      refine ms_val rfl rfl rfl (Value.bool true) w' ?_ (Below.refl _ _) rfl
      · go_simp
        try rfl
    · intro act_ w' H
      have e6 := H.tmp (t := 6) rfl (by kernel_rfl)
      have ev6 := eval_of e6
      obtain ⟨_, e110, rfl⟩ := H.on 73 rfl (by kernel_rfl)
      have ev110 := eval_of e110
      refine ms_val rfl rfl (wanted_on rfl rfl rfl e110) (Value.slice (some adx) 32 cx) w' ?_ (Below.refl _ _) rfl
      · go_simp
        try rfl
    · intro act_ w' H
      obtain ⟨_, e111, rfl⟩ := H.on 74 rfl (by kernel_rfl)
      have ev111 := eval_of e111
      obtain ⟨_, e110, rfl⟩ := H.on 73 rfl (by kernel_rfl)
      have ev110 := eval_of e110
      refine ms_val rfl rfl (wanted_on rfl rfl rfl e110) (Value.slice (some (adx.add 16)) 2 (cx - 16)) w' ?_ (Below.refl _ _) rfl
      first | (go_simp; intro hq; exfalso; omega) | (go_simp; rw [if_pos (by omega), if_neg (by omega)]; first | done | rfl) | (go_simp; done)
    · intro act_ w' H
      obtain ⟨_, e112, rfl⟩ := H.on 75 rfl (by kernel_rfl)
      have ev112 := eval_of e112
      obtain ⟨_, e110, rfl⟩ := H.on 73 rfl (by kernel_rfl)
      have ev110 := eval_of e110
      refine ms_val rfl rfl (wanted_on rfl rfl rfl e110) (Value.string (strOfNums (seg a 5))) w' ?_ (Below.refl _ _) rfl
      exact ex_string_row w' _ _ _ _ rfl Try.underlying27 Try.underlying5 Try.underlying9 (some (adx.add 16)) (cx - 16) (seg a 5) ev112 (HX5.out w' (hb6.trans (H.below.mono hb6.size)))
    · intro act_ w' H
      have e7 := H.tmp (t := 7) rfl (by kernel_rfl)
      have ev7 := eval_of e7
      obtain ⟨_, e110, rfl⟩ := H.on 73 rfl (by kernel_rfl)
      have ev110 := eval_of e110
      refine ms_val rfl rfl (wanted_on rfl rfl rfl e110) (Value.slice (some ady) 32 cy) w' ?_ (Below.refl _ _) rfl
      · go_simp
        try rfl
    · intro act_ w' H
      obtain ⟨_, e114, rfl⟩ := H.on 77 rfl (by kernel_rfl)
      have ev114 := eval_of e114
      obtain ⟨_, e110, rfl⟩ := H.on 73 rfl (by kernel_rfl)
      have ev110 := eval_of e110
      refine ms_val rfl rfl (wanted_on rfl rfl rfl e110) (Value.slice (some (ady.add 16)) 2 (cy - 16)) w' ?_ (Below.refl _ _) rfl
      first | (go_simp; intro hq; exfalso; omega) | (go_simp; rw [if_pos (by omega), if_neg (by omega)]; first | done | rfl) | (go_simp; done)
    · intro act_ w' H
      obtain ⟨_, e115, rfl⟩ := H.on 78 rfl (by kernel_rfl)
      have ev115 := eval_of e115
      obtain ⟨_, e110, rfl⟩ := H.on 73 rfl (by kernel_rfl)
      have ev110 := eval_of e110
      refine ms_val rfl rfl (wanted_on rfl rfl rfl e110) (Value.string (strOfNums (seg b 5))) w' ?_ (Below.refl _ _) rfl
      exact ex_string_row w' _ _ _ _ rfl Try.underlying27 Try.underlying5 Try.underlying9 (some (ady.add 16)) (cy - 16) (seg b 5) ev115 (HY5.out w' (hb6.trans (H.below.mono hb6.size)))
    · intro act_ w' H
      obtain ⟨_, e113, rfl⟩ := H.on 76 rfl (by kernel_rfl)
      have ev113 := eval_of e113
      obtain ⟨_, e116, rfl⟩ := H.on 79 rfl (by kernel_rfl)
      have ev116 := eval_of e116
      obtain ⟨_, e110, rfl⟩ := H.on 73 rfl (by kernel_rfl)
      have ev110 := eval_of e110
      have hq := HSTR5.out
      refine ms_val rfl rfl (wanted_on rfl rfl rfl e110) (Value.bool (a.eqf b 5)) w' ?_ (Below.refl _ _) rfl
      · go_simp
        try rfl
    · intro act_ w' H
      have e2 := H.tmp (t := 2) rfl (by kernel_rfl)
      have ev2 := eval_of e2
      obtain ⟨_, e110, rfl⟩ := H.on 73 rfl (by kernel_rfl)
      have ev110 := eval_of e110
      refine ms_val rfl rfl (wanted_on rfl rfl rfl e110) (Value.pointer (some ⟨g1, 7, none⟩)) w' ?_ (Below.refl _ _) rfl
      · go_simp
        try rfl
    · intro act_ w' H
      obtain ⟨_, e118, rfl⟩ := H.on 81 rfl (by kernel_rfl)
      have ev118 := eval_of e118
      obtain ⟨_, e110, rfl⟩ := H.on 73 rfl (by kernel_rfl)
      have ev110 := eval_of e110
      obtain ⟨n1_, n2_, n3_, n4_, n5_, n6_, n7_, n8_⟩ := InoAt.all (show InoAt 26 w' g1 a from blk_below HKA.out.blk (hb6.trans (H.below.mono hb6.size)))
      refine ms_val rfl rfl (wanted_on rfl rfl rfl e110) (Value.int .u16 a.d) w' ?_ (Below.refl _ _) rfl
      · go_simp
        try rfl
    · intro act_ w' H
      have e3 := H.tmp (t := 3) rfl (by kernel_rfl)
      have ev3 := eval_of e3
      obtain ⟨_, e110, rfl⟩ := H.on 73 rfl (by kernel_rfl)
      have ev110 := eval_of e110
      refine ms_val rfl rfl (wanted_on rfl rfl rfl e110) (Value.pointer (some ⟨g2, 7, none⟩)) w' ?_ (Below.refl _ _) rfl
      · go_simp
        try rfl
    · intro act_ w' H
      obtain ⟨_, e120, rfl⟩ := H.on 83 rfl (by kernel_rfl)
      have ev120 := eval_of e120
      obtain ⟨_, e110, rfl⟩ := H.on 73 rfl (by kernel_rfl)
      have ev110 := eval_of e110
      obtain ⟨n1_, n2_, n3_, n4_, n5_, n6_, n7_, n8_⟩ := InoAt.all (show InoAt 26 w' g2 b from blk_below HKB.out.blk (hb6.trans (H.below.mono hb6.size)))
      refine ms_val rfl rfl (wanted_on rfl rfl rfl e110) (Value.int .u16 b.d) w' ?_ (Below.refl _ _) rfl
      · go_simp
        try rfl
    · intro act_ w' H
      obtain ⟨_, e119, rfl⟩ := H.on 82 rfl (by kernel_rfl)
      have ev119 := eval_of e119
      obtain ⟨_, e121, rfl⟩ := H.on 84 rfl (by kernel_rfl)
      have ev121 := eval_of e121
      obtain ⟨_, e110, rfl⟩ := H.on 73 rfl (by kernel_rfl)
      have ev110 := eval_of e110
      refine ms_val rfl rfl (wanted_on rfl rfl rfl e110) (Value.bool (a.eqf b 5)) w' ?_ (Below.refl _ _) rfl
      · go_simp
        try rfl
    · intro act_ w' H
      obtain ⟨_, e117, rfl⟩ := H.on 80 rfl (by kernel_rfl)
      have ev117 := eval_of e117
      obtain ⟨_, e122, rfl⟩ := H.on 85 rfl (by kernel_rfl)
      have ev122 := eval_of e122
      obtain ⟨_, e110, rfl⟩ := H.on 73 rfl (by kernel_rfl)
      have ev110 := eval_of e110
      refine ms_val rfl rfl (wanted_on rfl rfl rfl e110) (Value.bool true) w' ?_ (Below.refl _ _) rfl
      · go_simp
        try rfl
    · intro act_ w' H
      obtain ⟨_, e110, rfl⟩ := H.on 73 rfl (by kernel_rfl)
      have ev110 := eval_of e110
      obtain ⟨_, e123, rfl⟩ := H.on 86 rfl (by kernel_rfl)
      have ev123 := eval_of e123
      refine ms_val rfl rfl rfl (Value.bool true) w' ?_ (Below.refl _ _) rfl
      · go_simp
        try rfl
    · intro act_ w' H
      obtain ⟨_, e124, rfl⟩ := H.on 87 rfl (by kernel_rfl)
      have ev124 := eval_of e124
      refine ms_val rfl rfl rfl (Value.bool true) w' ?_ (Below.refl _ _) rfl
      · go_simp
        try rfl
  intro w7 hb7
  rintro _ rfl _ rfl _ rfl _ rfl _ rfl _ rfl _ rfl _ rfl _ rfl _ rfl _ rfl _ rfl _ rfl _ rfl _ rfl _ rfl _ rfl _ rfl _ rfl _ rfl _ rfl _ rfl _ rfl _ rfl _ rfl _ rfl _ rfl _ rfl _ rfl _ rfl _ rfl _ rfl _ rfl _ rfl _ rfl _ rfl _ rfl _ rfl _ rfl _ rfl _ rfl _ rfl _ rfl _ rfl _ rfl _ rfl _ rfl _ rfl _ rfl _ rfl _ rfl _ rfl _ rfl _ rfl _ rfl _ rfl _ rfl _ rfl _ rfl _ rfl _ rfl _ rfl _ rfl _ rfl _ rfl _ rfl _ rfl _ rfl _ rfl _ rfl _ rfl _ rfl _ rfl _ rfl _ rfl _ rfl _ rfl _ rfl _ rfl _ rfl _ rfl _ rfl _ rfl _ rfl _ rfl _ rfl _ rfl _ rfl _ rfl
  simp only [Ends, Act.put, List.setIfInBounds_toArray, List.set_cons_zero, List.set_cons_succ]
  have HB7 := Aside0.mk (HB.out.trans ((hb6.trans (hb7.mono hb6.size)).mono HB.out.size))
  clear hb6 hb7
  go_wp2
  go_ret
  exact ⟨rfl, HB7.out⟩
end Go.Proofs.Ytpdobinpndfgfaa.Q
