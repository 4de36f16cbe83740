/- Inodes as values, and their bytes. -/
import Derived.Test.YtpdobinpndfgfaaHEq
import Derived.Test.YtpdobinpndfgfaaQxw
import Derived.Test.YtpdobinpndfgfaaQxf16
import Derived.Test.YtpdobinpndfgfaaQxf17
import Derived.Test.YtpdobinpndfgfaaQxf18
import Derived.Test.YtpdobinpndfgfaaQxf22
import Derived.Test.YtpdobinpndfgfaaQxf24
import Derived.Test.YtpdobinpndfgfaaQxf23
import Derived.Test.YtpdobinpndfgfaaQxf46
import Derived.Test.YtpdobinpndfgfaaQxf14
import Derived.Test.YtpdobinpndfgfaaPureW
import Derived.Test.YtpdobinpndfgfaaPureS
import Derived.Test.YtpdobinpndfgfaaPureS2
namespace Go.Proofs.Ytpdobinpndfgfaa.Q
open Go.RowKit Go.Proofs.YtpdobinpndfgfaaW.PrintWords Go.Proofs.YtpdobinpndfgfaaW.PrintLast Go.Proofs.YtpdobinpndfgfaaW.PrintMore Go.Proofs.Ytpdobinpndfgfaa.Pure
attribute [local go_sem] max2_int min2_int max_two min_two max_three min_three max_four min_four
set_option linter.unusedVariables false
set_option linter.unusedSimpArgs false
/-- An inode, or the document's: the same eight places. -/
structure InoV where
  k : Int
  li : Int
  sz : Int
  b0 : Int
  b1 : Int
  b2 : Int
  s : Int
  d : Int
def InoV.cellL (x : InoV) : List Value := [.int .u8 x.k, .int .u16 x.li, .int .u32 x.sz, .int .u16 x.b0, .int .u16 x.b1, .int .u16 x.b2, .int .u16 x.s, .int .u16 x.d]
def InoV.cells (x : InoV) : Array Value := x.cellL.toArray
def u16r (n : Int) : Prop := 0 ≤ n ∧ n < 65536
structure InoV.Ok (x : InoV) : Prop where
  k : 0 ≤ x.k ∧ x.k < 256
  li : u16r x.li
  sz : 0 ≤ x.sz ∧ x.sz < 4294967296
  b0 : u16r x.b0
  b1 : u16r x.b1
  b2 : u16r x.b2
  s : u16r x.s
  d : u16r x.d
def InoV.nought : InoV := ⟨0, 0, 0, 0, 0, 0, 0, 0⟩
theorem ino_nought_ok : InoV.nought.Ok := by constructor <;> (try unfold u16r) <;> decide
def InoV.num (x : InoV) (i : Nat) : Int := match i with
  | 0 => x.b0
  | 1 => x.b1
  | 2 => x.b2
  | 3 => x.s
  | _ => x.d
theorem InoV.num_ok {x : InoV} (h : x.Ok) (i : Nat) : u16r (x.num i) := by
  unfold InoV.num
  split
  · exact h.b0
  · exact h.b1
  · exact h.b2
  · exact h.s
  · exact h.d
def InoV.head (x : InoV) : List Int := [x.k, 0] ++ (lebytes 2 x.li ++ lebytes 4 x.sz)
def InoV.upto (x : InoV) : Nat → List Int
  | 0 => x.head
  | i + 1 => x.upto i ++ lebytes 2 (x.num i)
theorem InoV.upto_length (x : InoV) : ∀ i, (x.upto i).length = 8 + 2 * i
  | 0 => by simp [InoV.upto, InoV.head, lebytes_length]
  | i + 1 => by rw [InoV.upto, List.length_append, InoV.upto_length x i, lebytes_length]; omega
def InoV.bytes (x : InoV) : List Int := x.upto 5 ++ List.replicate 14 0
theorem InoV.bytes_length (x : InoV) : x.bytes.length = 32 := by simp [InoV.bytes, InoV.upto_length]
theorem InoV.pad (x : InoV) : padV (x.upto 5) 32 = x.bytes := by
  unfold padV InoV.bytes
  rw [InoV.upto_length, List.take_of_length_le (by rw [InoV.upto_length]; decide)]
  rfl
def InoAt (t : TypeId) (w : World) (g : Nat) (x : InoV) : Prop := w.heap[g]? = some (.cells x.cells t (0, 0))
theorem InoAt.blk {t : TypeId} {w : World} {g : Nat} {x : InoV} (h : InoAt t w g x) : w.heap[g]? = some (.cells x.cells t (0, 0)) := h
theorem InoAt.all {t : TypeId} {w : World} {g : Nat} {x : InoV} (h : InoAt t w g x) : w.cell? ⟨g, 0, none⟩ = some (.int .u8 x.k) ∧ w.cell? ⟨g, 1, none⟩ = some (.int .u16 x.li) ∧ w.cell? ⟨g, 2, none⟩ = some (.int .u32 x.sz) ∧ w.cell? ⟨g, 3, none⟩ = some (.int .u16 x.b0) ∧ w.cell? ⟨g, 4, none⟩ = some (.int .u16 x.b1) ∧ w.cell? ⟨g, 5, none⟩ = some (.int .u16 x.b2) ∧ w.cell? ⟨g, 6, none⟩ = some (.int .u16 x.s) ∧ w.cell? ⟨g, 7, none⟩ = some (.int .u16 x.d) := by
  refine ⟨?_, ?_, ?_, ?_, ?_, ?_, ?_, ?_⟩ <;> exact cell_of_row w g _ _ _ _ h
theorem InoV.one {x : InoV} : ∀ u ∈ x.cells.toList, u.oneCell' = true := by
  intro u hu
  simp only [InoV.cells, InoV.cellL, List.mem_cons, List.not_mem_nil, or_false] at hu
  rcases hu with rfl | rfl | rfl | rfl | rfl | rfl | rfl | rfl <;> rfl
theorem info_ino : (Try.prog.info? 26).map (·.size) = some 8 := by kernel_rfl
theorem info_N : (Try.prog.info? 35).map (·.size) = some 8 := by kernel_rfl
theorem zero_ino : (Try.prog.info? 26).map (·.zero) = some (some (.agg InoV.nought.cells)) := by kernel_rfl
theorem zero_N : (Try.prog.info? 35).map (·.zero) = some (some (.agg InoV.nought.cells)) := by kernel_rfl
theorem info_u16 : (Try.prog.info? 22).map (·.size) = some 1 := by kernel_rfl
theorem info_u32 : (Try.prog.info? 23).map (·.size) = some 1 := by kernel_rfl
theorem info_u8 : (Try.prog.info? 5).map (·.size) = some 1 := by kernel_rfl
theorem put2 (x : Int) (hx : 0 ≤ x) : word_Put.f 9 x 2 = some (lebytes 2 x) := by
  rw [word_Put_eq 9 (by decide) x 2 hx]
  rfl
theorem put4 (x : Int) (hx : 0 ≤ x) : word_Put.f 9 x 4 = some (lebytes 4 x) := by
  rw [word_Put_eq 9 (by decide) x 4 hx]
  rfl
theorem rput2 (x : Int) (hx : u16r x) : reliquaryref01_Put.f 9 x 2 = some (lebytes 2 x) := by
  have := hx.2
  rw [refput_eq 9 (by decide) x 2 hx.1 (by omega)]
  rfl
theorem rput4 (x : Int) (hx : 0 ≤ x ∧ x < 4294967296) : reliquaryref01_Put.f 9 x 4 = some (lebytes 4 x) := by
  rw [refput_eq 9 (by decide) x 4 hx.1 (by omega)]
  rfl
theorem w64_of {n : Int} (h0 : 0 ≤ n) (h1 : n < 4294967296) : IntKind.u64.wrap n = n := wraps_u64 n h0 (by omega)
set_option maxHeartbeats 1000000 in
set_option maxRecDepth 100000 in
theorem inode_Put.calls (x : InoV) (hx : x.Ok) (w : World) :
    Calls Try.prog 9 #[.agg x.cells] w fun e w' => ∃ v0_ : Value, e = .returned v0_ ∧ Kd.R (Kd.int .u8) 5 w' w.heap.size (fun _ => True) v0_ x.bytes ∧ Below w.heap.size w w' := by
  have HX := Aside0.mk hx
  have HW1 := Aside0.mk (w64_of hx.li.1 (by have := hx.li.2; omega))
  have HW2 := Aside0.mk (w64_of hx.sz.1 hx.sz.2)
  clear hx
  go_enter Try.func9, Try.ntmps9
  go_wp2_with (first | ((with_reducible refine gate_op (N := .box 26 (.tmp 0)) rfl ?_); refine wl_box rfl 26 _ rfl (.agg x.cells) rfl ?_; intro g hg w1 hblk hb hsz; have HC := Aside0.mk (show InoAt 26 w1 g x from hblk); have HB := Aside0.mk hb; clear hg hblk hb hsz))
  refine mono_region (T := _) (B := [0, 1, 3, 0, 8, 24, 56, 0, 128, 384, 1016, 2047, 4095, 8191]) (n := 14) [(0, 6, VP.is (Value.pointer (some ⟨g, 0, none⟩))), (1, 7, VP.is (Value.int .u8 x.k)), (2, 8, VP.row (Kd.int .u8) [x.k, 0]), (3, 9, VP.is (Value.pointer (some ⟨g, 1, none⟩))), (4, 10, VP.is (Value.int .u16 x.li)), (5, 11, VP.is (Value.int .u64 x.li)), (6, 12, VP.row (Kd.int .u8) (lebytes 2 x.li)), (7, 13, VP.is (Value.pointer (some ⟨g, 2, none⟩))), (8, 14, VP.is (Value.int .u32 x.sz)), (9, 15, VP.is (Value.int .u64 x.sz)), (10, 16, VP.row (Kd.int .u8) (lebytes 4 x.sz)), (11, 17, VP.row (Kd.slice 5 (Kd.int .u8)) [[x.k, 0], lebytes 2 x.li, lebytes 4 x.sz]), (12, 18, VP.own (Kd.int .u8) 5 w1.heap.size x.head), (13, 3, VP.own (Kd.int .u8) 5 w1.heap.size x.head)] rfl (by kernel_rfl) (by kernel_rfl) rfl (by kernel_rfl) (by kernel_rfl) (by kernel_rfl) (by kernel_rfl) (by kernel_rfl) ?_ ?_
  · refine ms_cons ?_ <| ms_cons ?_ <| ms_cons ?_ <| ms_cons ?_ <| ms_cons ?_ <| ms_cons ?_ <| ms_cons ?_ <| ms_cons ?_ <| ms_cons ?_ <| ms_cons ?_ <| ms_cons ?_ <| ms_cons ?_ <| ms_cons ?_ <| ms_cons ?_ <| ms_nil
    · intro act_ w' H
      have e1 := H.tmp (t := 1) rfl (by kernel_rfl)
      have ev1 := eval_of e1
      refine ms_val rfl rfl rfl (Value.pointer (some ⟨g, 0, none⟩)) w' ?_ (Below.refl _ _) rfl
      · go_simp
        try rfl
    · intro act_ w' H
      obtain ⟨_, e6, rfl⟩ := H.on 0 rfl (by kernel_rfl)
      have ev6 := eval_of e6
      obtain ⟨c0, c1, c2, c3, c4, c5, c6, c7⟩ := InoAt.all (show InoAt 26 w' g x from blk_below HC.out.blk H.below)
      refine ms_val rfl rfl rfl (Value.int .u8 x.k) w' ?_ (Below.refl _ _) rfl
      · go_simp
        try rfl
    · intro act_ w' H
      obtain ⟨_, e7, rfl⟩ := H.on 1 rfl (by kernel_rfl)
      have ev7 := eval_of e7
      refine ms_val rfl rfl rfl (.slice (some ⟨w'.heap.size, 0, none⟩) 2 2) (w'.alloc (.cells (encs (Value.int .u8) [x.k, 0]).toArray 5)) ?_ (below_alloc (Below.refl _ _) _) ((SeenRow.lit w' 0 5 [x.k, 0] (Nat.zero_le _) (by simp)).reads)
      go_simp
      try rfl
    · intro act_ w' H
      have e1 := H.tmp (t := 1) rfl (by kernel_rfl)
      have ev1 := eval_of e1
      refine ms_val rfl rfl rfl (Value.pointer (some ⟨g, 1, none⟩)) w' ?_ (Below.refl _ _) rfl
      · go_simp
        try rfl
    · intro act_ w' H
      obtain ⟨_, e9, rfl⟩ := H.on 3 rfl (by kernel_rfl)
      have ev9 := eval_of e9
      obtain ⟨c0, c1, c2, c3, c4, c5, c6, c7⟩ := InoAt.all (show InoAt 26 w' g x from blk_below HC.out.blk H.below)
      refine ms_val rfl rfl rfl (Value.int .u16 x.li) w' ?_ (Below.refl _ _) rfl
      · go_simp
        try rfl
    · intro act_ w' H
      obtain ⟨_, e10, rfl⟩ := H.on 4 rfl (by kernel_rfl)
      have ev10 := eval_of e10
      have hw := HW1.out
      refine ms_val rfl rfl rfl (Value.int .u64 x.li) w' ?_ (Below.refl _ _) rfl
      · go_simp
        try rfl
    · intro act_ w' H
      obtain ⟨_, e11, rfl⟩ := H.on 5 rfl (by kernel_rfl)
      have ev11 := eval_of e11
      exact ms_call rfl rfl rfl Try.func17 (by kernel_rfl) rfl #[.int .u64 x.li, .int .i64 2] rfl (by simp [e11, Act.eval]) ((word_Put.calls 9 x.li 2 _ _ (put2 _ HX.out.li.1)).mono fun e w1 ⟨v, he, ho, hb⟩ => ⟨v, he, hb, Kd.R_reads ho⟩)
    · intro act_ w' H
      have e1 := H.tmp (t := 1) rfl (by kernel_rfl)
      have ev1 := eval_of e1
      refine ms_val rfl rfl rfl (Value.pointer (some ⟨g, 2, none⟩)) w' ?_ (Below.refl _ _) rfl
      · go_simp
        try rfl
    · intro act_ w' H
      obtain ⟨_, e13, rfl⟩ := H.on 7 rfl (by kernel_rfl)
      have ev13 := eval_of e13
      obtain ⟨c0, c1, c2, c3, c4, c5, c6, c7⟩ := InoAt.all (show InoAt 26 w' g x from blk_below HC.out.blk H.below)
      refine ms_val rfl rfl rfl (Value.int .u32 x.sz) w' ?_ (Below.refl _ _) rfl
      · go_simp
        try rfl
    · intro act_ w' H
      obtain ⟨_, e14, rfl⟩ := H.on 8 rfl (by kernel_rfl)
      have ev14 := eval_of e14
      have hw := HW2.out
      refine ms_val rfl rfl rfl (Value.int .u64 x.sz) w' ?_ (Below.refl _ _) rfl
      · go_simp
        try rfl
    · intro act_ w' H
      obtain ⟨_, e15, rfl⟩ := H.on 9 rfl (by kernel_rfl)
      have ev15 := eval_of e15
      exact ms_call rfl rfl rfl Try.func17 (by kernel_rfl) rfl #[.int .u64 x.sz, .int .i64 4] rfl (by simp [e15, Act.eval]) ((word_Put.calls 9 x.sz 4 _ _ (put4 _ HX.out.sz.1)).mono fun e w1 ⟨v, he, ho, hb⟩ => ⟨v, he, hb, Kd.R_reads ho⟩)
    · intro act_ w' H
      obtain ⟨v8, e8, A8, c8, rfl, hl8, hr8⟩ := H.on 2 rfl (by kernel_rfl)
      have ev8 := eval_of e8
      obtain ⟨v12, e12, A12, c12, rfl, hl12, hr12⟩ := H.on 6 rfl (by kernel_rfl)
      have ev12 := eval_of e12
      obtain ⟨v16, e16, A16, c16, rfl, hl16, hr16⟩ := H.on 10 rfl (by kernel_rfl)
      have ev16 := eval_of e16
      refine ms_val rfl rfl rfl (.slice (some ⟨w'.heap.size, 0, none⟩) 3 3) (w'.alloc (.cells [Value.slice A8 [x.k, 0].length c8, Value.slice A12 (lebytes 2 x.li).length c12, Value.slice A16 (lebytes 4 x.sz).length c16].toArray 27)) ?_ (below_alloc (Below.refl _ _) _) ⟨_, _, rfl, Nat.le_refl _, ext_C_rows w' _ [[x.k, 0], lebytes 2 x.li, lebytes 4 x.sz] rfl (by simp) ?_⟩
      · go_simp
        try rfl
      · intro j v xs h1 h2
        match j, h1, h2 with
        | 0, h1, h2 => obtain rfl := Option.some.inj h1; obtain rfl := Option.some.inj h2; exact ⟨A8, c8, rfl, hl8, hr8⟩
        | 1, h1, h2 => obtain rfl := Option.some.inj h1; obtain rfl := Option.some.inj h2; exact ⟨A12, c12, rfl, hl12, hr12⟩
        | 2, h1, h2 => obtain rfl := Option.some.inj h1; obtain rfl := Option.some.inj h2; exact ⟨A16, c16, rfl, hl16, hr16⟩
        | j + 3, h1, h2 => simp at h1
    · intro act_ w' H
      obtain ⟨v17, e17, A17, c17, rfl, hl17, hr17⟩ := H.on 11 rfl (by kernel_rfl)
      have ev17 := eval_of e17
      exact ms_call rfl rfl rfl Try.func16 (by kernel_rfl) rfl #[.slice A17 3 c17] rfl (by simp [ev17]) ((slices_Concat_byte_byte.calls A17 c17 [[x.k, 0], lebytes 2 x.li, lebytes 4 x.sz] x.head _ hr17 hl17 (by rw [slices_Concat_eq _ (by simp [lebytes_length])]; simp [InoV.head])).mono fun e w2 ⟨v, he, ho, hb⟩ => ⟨v, he, hb, Kd.R_lower ho H.below.size⟩)
    · intro act_ w' H
      obtain ⟨v18, e18, h18⟩ := H.on 12 rfl (by kernel_rfl)
      have ev18 := eval_of e18
      exact ms_val rfl rfl rfl v18 w' (by go_simp) (Below.refl _ _) h18
  intro w2 hb2
  rintro _ rfl _ rfl v8 - _ rfl _ rfl _ rfl v12 - _ rfl _ rfl _ rfl v16 - v17 - v18 - v3 ho3
  simp only [Ends, Act.put, List.setIfInBounds_toArray, List.set_cons_zero, List.set_cons_succ]
  have HO := Aside0.mk (show Kd.R (Kd.int .u8) 5 w2 w.heap.size (fun _ => True) v3 (x.upto 0) from Kd.R_lower ho3 HB.out.size)
  have n0_ := Aside0.mk (show InoAt 26 w2 g x from blk_below HC.out.blk hb2)
  have n1_ := Aside0.mk (HB.out.trans (hb2.mono HB.out.size))
  clear ho3 hb2 HC HB
  have HC := n0_
  have HB := n1_
  clear n0_ n1_
  obtain ⟨c0, c1, c2, c3, c4, c5, c6, c7⟩ := HC.out.all
  go_wp2
  clear c0 c1 c2 c3 c4 c5 c6 c7
  go_loopg [3, 33] 5 (fun gk v3 v33 w' => ∃ i : Nat, v33 = .int .i64 i ∧ Aside0 (gk + i = 5) ∧ Aside0 (Kd.R (Kd.int .u8) 5 w' w.heap.size (fun _ => True) v3 (x.upto i)) ∧ Aside0 (Below w.heap.size w w'))
  case atStart => exact ⟨0, rfl, ⟨rfl⟩, HO, HB⟩
  case round =>
    clear HO HB HC
    obtain ⟨i, rfl, HI, HO, HB⟩ := hrel
    by_cases hi : i < 5
    · obtain ⟨y, hy⟩ : ∃ y : Int, x.num i = y := ⟨_, rfl⟩
      have hyo := x.num_ok HX.out i
      rw [hy] at hyo
      have ix : ∀ W : World, (Instr.index 33 (.agg #[.int .u16 x.b0, .int .u16 x.b1, .int .u16 x.b2, .int .u16 x.s, .int .u16 x.d]) (.int .i64 i)).run Try.prog W = .ok (.int .u16 y) W := by
        rw [← hy]
        match i, hi with
        | 0, _ => exact fun _ => by kernel_rfl
        | 1, _ => exact fun _ => by kernel_rfl
        | 2, _ => exact fun _ => by kernel_rfl
        | 3, _ => exact fun _ => by kernel_rfl
        | 4, _ => exact fun _ => by kernel_rfl
      have hw := w64_of hyo.1 (by have := hyo.2; omega)
      have HY := Aside0.mk (show 0 ≤ y from hyo.1)
      have HYY := Aside0.mk hy
      have HU := Aside0.mk (x.upto_length i)
      have hil : (i : Int) < 5 := by omega
      have hib : decide ((i : Int) < 5) = true := decide_eq_true hil
      have HIL := Aside0.mk hi
      clear hy hyo hi
      go_wp2_with (first | (go_at_call 17; (with_reducible refine (word_Put.calls 9 y 2 _ _ (put2 y HY.out)).mono ?_); rintro e w4 ⟨v4, rfl, ho4, hb4⟩; have HB4 := Aside0.mk (show Below w.heap.size w w4 from HB.out.trans (hb4.mono HB.out.size)); obtain ⟨A4, c4, rfl, hl4, hc4⟩ := Kd.R_reads ho4; have HR4 := Aside0.mk hc4; have HOO := Aside0.mk (Kd.R_below HO.out hb4); clear ho4 hb4 hl4 hc4) | ((with_reducible refine gate_builtin (b := .append) (xs := #[.tmp 36, .tmp 39]) rfl ?_); at_builtin; refine Kd.R_append_row (Value.int .u8) (0 : Int) (h1 := fun _ => rfl) (w0 := w) w.heap.size rfl (.tmp 36) (.tmp 39) 27 5 (.int .u8 0) 1 rfl Try.underlying27 info5 rfl (by decide) _ (x.upto i) (lebytes 2 y) A4 (lebytes 2 y).length c4 (fun _ => True) rfl rfl (fun _ _ => trivial) HOO.out HR4.out HB4.out HB4.out.size (by rw [HU.out, lebytes_length]; have := HIL.out; omega) ?_; intro v5 w5 ho5 hb5 hg5 hat5; have HO5 := Aside0.mk ho5; have HB5 := Aside0.mk hb5; clear ho5 hb5 hg5 hat5 HO HOO HB HB4 HR4))
      go_roundg (gk - 1)
      case measure => have := HI.out; have := HIL.out; omega
      case rel => exact ⟨i + 1, by go_num, ⟨by have := HI.out; have := HIL.out; omega⟩, ⟨by rw [InoV.upto, HYY.out]; exact HO5.out⟩, HB5⟩
    · have h4 : i = 5 := by have := HI.out; omega
      subst h4
      have hib : decide (((5 : Nat) : Int) < 5) = false := by decide
      have HP := Aside0.mk (show word_Pad.f (x.upto 5) 32 = some x.bytes by rw [word_Pad_eq _ _ (by decide), x.pad])
      obtain ⟨A3, c3, rfl, hl3, hr3⟩ := Kd.R_reads HO.out
      have HR3 := Aside0.mk hr3
      have HL3 := Aside0.mk hl3
      clear hi hl3 hr3
      go_wp2_with (first | (go_at_call 18; (with_reducible refine (word_Pad.calls A3 c3 (x.upto 5) 32 x.bytes _ HR3.out HL3.out HP.out).mono ?_); rintro e w4 ⟨v4, rfl, ho4, hb4⟩; have HO4 := Aside0.mk (Kd.R_lower ho4 HB.out.size); have HB4 := Aside0.mk (show Below w.heap.size w w4 from HB.out.trans (hb4.mono HB.out.size)); clear ho4 hb4))
      go_ret
      exact ⟨_, rfl, HO4.out, HB4.out⟩
end Go.Proofs.Ytpdobinpndfgfaa.Q
