/- The statement CellFields, walked. -/
import Derived.Test.YtklhpnalchgkaaaHApart
namespace Go.Proofs.Ytklhpnalchgkaaa.Q
open Go.RowKit Go.Proofs.YtklhpnalchgkaaaW.PrintWords Go.Proofs.YtklhpnalchgkaaaW.PrintLast Go.Proofs.YtklhpnalchgkaaaW.PrintMore Go.Proofs.Ytklhpnalchgkaaa.Pure
attribute [local go_sem] max2_int min2_int max_two min_two max_three min_three max_four min_four
set_option linter.unusedVariables false
set_option linter.unusedSimpArgs false
def seg (x : CellV) (k : Nat) : List Int := match k with
  | 0 => x.root
  | 1 => lebytes 8 x.ver
  | 2 => lebytes 8 x.cnt
  | 3 => lebytes 8 x.start
  | 4 => lebytes 8 x.count
  | _ => x.tag
def segLo (k : Nat) : Nat := match k with
  | 0 => 0
  | 1 => 32
  | 2 => 40
  | 3 => 48
  | 4 => 56
  | _ => 64
def segHi (k : Nat) : Nat := match k with
  | 0 => 32
  | 1 => 40
  | 2 => 48
  | 3 => 56
  | 4 => 64
  | _ => 96
theorem seg_length {x : CellV} (h : x.Ok) (k : Nat) (hk : k < 6) : (seg x k).length = segHi k - segLo k := by
  match k, hk with
  | 0, _ => exact h.root
  | 1, _ => exact lebytes_length _ _
  | 2, _ => exact lebytes_length _ _
  | 3, _ => exact lebytes_length _ _
  | 4, _ => exact lebytes_length _ _
  | 5, _ => exact h.tag
theorem cut_seg (A M S : List Int) (lo hi : Nat) (ha : A.length = lo) (hm : M.length = hi - lo) (hh : lo ≤ hi) : ((A ++ (M ++ S)).take hi).drop lo = M := by
  rw [← List.append_assoc, List.take_append_of_le_length (by rw [List.length_append]; omega), List.take_of_length_le (by rw [List.length_append]; omega), ← ha, List.drop_left]
theorem seg_of {x : CellV} (h : x.Ok) (k : Nat) (hk : k < 6) : (x.bytes.take (segHi k)).drop (segLo k) = seg x k := by
  have h0 : x.bytes = [] ++ (x.root ++ (lebytes 8 x.ver ++ (lebytes 8 x.cnt ++ (lebytes 8 x.start ++ (lebytes 8 x.count ++ x.tag))))) := rfl
  have h1 : x.bytes = x.root ++ (lebytes 8 x.ver ++ (lebytes 8 x.cnt ++ (lebytes 8 x.start ++ (lebytes 8 x.count ++ x.tag)))) := rfl
  have h2 : x.bytes = (x.root ++ lebytes 8 x.ver) ++ (lebytes 8 x.cnt ++ (lebytes 8 x.start ++ (lebytes 8 x.count ++ x.tag))) := by rw [h1]; simp
  have h3 : x.bytes = (x.root ++ lebytes 8 x.ver ++ lebytes 8 x.cnt) ++ (lebytes 8 x.start ++ (lebytes 8 x.count ++ x.tag)) := by rw [h1]; simp
  have h4 : x.bytes = (x.root ++ lebytes 8 x.ver ++ lebytes 8 x.cnt ++ lebytes 8 x.start) ++ (lebytes 8 x.count ++ x.tag) := by rw [h1]; simp
  have h5 : x.bytes = (x.root ++ lebytes 8 x.ver ++ lebytes 8 x.cnt ++ lebytes 8 x.start ++ lebytes 8 x.count) ++ (x.tag ++ []) := by rw [h1]; simp
  match k, hk with
  | 0, _ => rw [h0]; exact cut_seg _ _ _ 0 32 rfl h.root (by decide)
  | 1, _ => rw [h1]; exact cut_seg _ _ _ 32 40 h.root (lebytes_length _ _) (by decide)
  | 2, _ => rw [h2]; exact cut_seg _ _ _ 40 48 (by simp [h.root, lebytes_length]) (lebytes_length _ _) (by decide)
  | 3, _ => rw [h3]; exact cut_seg _ _ _ 48 56 (by simp [h.root, lebytes_length]) (lebytes_length _ _) (by decide)
  | 4, _ => rw [h4]; exact cut_seg _ _ _ 56 64 (by simp [h.root, lebytes_length]) (lebytes_length _ _) (by decide)
  | 5, _ => rw [h5]; exact cut_seg _ _ _ 64 96 (by simp [h.root, lebytes_length]) h.tag (by decide)
/-- Is a field the same? -/
def CellV.eqf (a b : CellV) (k : Nat) : Bool := match k with
  | 0 => decide (a.root = b.root)
  | 1 => a.ver == b.ver
  | 2 => a.cnt == b.cnt
  | 3 => a.start == b.start
  | 4 => a.count == b.count
  | _ => decide (a.tag = b.tag)
theorem le8_inj {x y : Int} (hx : 0 ≤ x ∧ x < 18446744073709551616) (hy : 0 ≤ y ∧ y < 18446744073709551616) : decide (lebytes 8 x = lebytes 8 y) = (x == y) := by
  by_cases h : x = y
  · subst h; simp
  · have h1 : ¬ lebytes 8 x = lebytes 8 y := fun e => h (by rw [← leval8 x hx, e, leval8 y hy])
    simp [h, h1]
theorem seg_u8s {x : CellV} (h : x.Ok) (k : Nat) (hk : k < 6) : u8s (seg x k) := by
  match k, hk with
  | 0, _ => exact h.rootu
  | 1, _ => exact lebytes_u8s _ _
  | 2, _ => exact lebytes_u8s _ _
  | 3, _ => exact lebytes_u8s _ _
  | 4, _ => exact lebytes_u8s _ _
  | 5, _ => exact h.tagu
theorem seg_str {a b : CellV} (ha : a.Ok) (hb : b.Ok) (k : Nat) (hk : k < 6) : ((strOfNums (seg a k)).toList == (strOfNums (seg b k)).toList) = a.eqf b k := by
  rw [str_eq (seg_u8s ha k hk) (seg_u8s hb k hk)]
  match k, hk with
  | 0, _ => rfl
  | 1, _ => exact le8_inj ha.ver hb.ver
  | 2, _ => exact le8_inj ha.cnt hb.cnt
  | 3, _ => exact le8_inj ha.start hb.start
  | 4, _ => exact le8_inj ha.count hb.count
  | 5, _ => rfl
theorem eql_sums (l m : List Int) (hl : l.length = 32) (hm : m.length = 32) (W : World) : (binOp .eql 23 (.agg (encs (Value.int .u8) l).toArray) (.agg (encs (Value.int .u8) m).toArray)).run Try.prog W = .ok (.bool (decide (l = m))) W := by
  rw [run_eql_struct, run_equalIn_ints 9998 32 23 5 .u8 Try.underlying23 Try.underlying5 (by kernel_rfl) l m hl hm W]
  rfl
theorem load_root {x : CellV} (hx : x.Ok) {w : World} {g : Nat} (h : w.heap[g]? = some (.cells x.cells 26 (0, 0))) (j : Nat) (v : Value) (hv : (encs (Value.int .u8) x.root)[j]? = some v) : w.cell? ((⟨g, 0, none⟩ : Addr).add j) = some v := by
  have hj : j < 32 := by have := (List.getElem?_eq_some_iff.1 hv).1; rw [encs_length, hx.root] at this; exact this
  rw [add_plain, cell_of_row w g j _ _ _ h, x.at_root hx j hj, ← hv]
  exact (encs_get (enc := Value.int .u8) (d := (0 : Int)) x.root j (by rw [hx.root]; exact hj)).symm
theorem load_tag {x : CellV} (hx : x.Ok) {w : World} {g : Nat} (h : w.heap[g]? = some (.cells x.cells 26 (0, 0))) (j : Nat) (v : Value) (hv : (encs (Value.int .u8) x.tag)[j]? = some v) : w.cell? ((⟨g, 36, none⟩ : Addr).add j) = some v := by
  have hj : j < 32 := by have := (List.getElem?_eq_some_iff.1 hv).1; rw [encs_length, hx.tag] at this; exact this
  rw [Addr.add_lit, cell_of_row w g _ _ _ _ h, x.at_tag hx j hj, ← hv]
  exact (encs_get (enc := Value.int .u8) (d := (0 : Int)) x.tag j (by rw [hx.tag]; exact hj)).symm
set_option maxHeartbeats 4000000 in
set_option maxRecDepth 100000 in
theorem CellFields.walk (w : World) (a : CellV) (ha : a.Ok) (b : CellV) (hb : b.Ok) :
    Calls Try.prog 6 #[.agg a.cells, .agg b.cells] w fun e w' => e = .returned (.bool true) ∧ Below w.heap.size w w' := by
  have HA := Aside0.mk ha
  have HBB := Aside0.mk hb
  have HSTR0 := Aside0.mk (seg_str ha hb 0 (by decide))
  have HSTR1 := Aside0.mk (seg_str ha hb 1 (by decide))
  have HSTR2 := Aside0.mk (seg_str ha hb 2 (by decide))
  have HSTR3 := Aside0.mk (seg_str ha hb 3 (by decide))
  have HSTR4 := Aside0.mk (seg_str ha hb 4 (by decide))
  have HSTR5 := Aside0.mk (seg_str ha hb 5 (by decide))
  have HSA := Aside0.mk (show (Try.prog.info? 26).map (·.size) = some a.cells.size by rw [a.size ha]; exact info_cell)
  have HSB := Aside0.mk (show (Try.prog.info? 26).map (·.size) = some b.cells.size by rw [b.size hb]; exact info_cell)
  clear ha hb
  go_enter Try.func6, Try.ntmps6
  go_wp2_with (first | ((with_reducible refine gate_op (N := .box 26 (.tmp 0)) rfl ?_); refine wl_box rfl 26 _ rfl (.agg a.cells) rfl ?_; intro g1 hg w1 hblk hb hsz; have HK1 := Aside0.mk (show CellAt w1 g1 a from hblk); have HB1 := Aside0.mk hb; clear hg hblk hb hsz) | ((with_reducible refine gate_op (N := .box 26 (.tmp 1)) rfl ?_); refine wl_box rfl 26 _ rfl (.agg b.cells) rfl ?_; intro g2 hg w2 hblk hb hsz; have HK2 := Aside0.mk (show CellAt w2 g2 b from hblk); have HKA := Aside0.mk (show CellAt w2 g1 a from blk_below HK1.out.blk hb); have HB := Aside0.mk (HB1.out.trans (hb.mono HB1.out.size)); clear hg hblk hb hsz HK1 HB1) | (go_at_call 7; (with_reducible refine (awake07.calls _).mono ?_); rintro e w3 ⟨rfl, hb⟩; have n0_ := Aside0.mk (show CellAt w3 g1 a from blk_below HKA.out.blk hb); have n1_ := Aside0.mk (show CellAt w3 g2 b from blk_below HK2.out.blk hb); have n2_ := Aside0.mk (HB.out.trans (hb.mono HB.out.size)); clear hb HKA HK2 HB; have HKA := n0_; have HKB := n1_; have HB := n2_; clear n0_ n1_ n2_) | ((with_reducible refine gate_op (N := .load 26 (.tmp 2)) rfl ?_); refine wl_load_blk rfl _ _ rfl g1 rfl a.cells 26 _ HKA.out.blk Try.underlying26 rfl HSA.out ?_) | ((with_reducible refine gate_op (N := .load 26 (.tmp 3)) rfl ?_); refine wl_load_blk rfl _ _ rfl g2 rfl b.cells 26 _ HKB.out.blk Try.underlying26 rfl HSB.out ?_) | (go_at_call 8; (with_reducible refine (cell_Put.calls a HA.out _).mono ?_); rintro e w4 ⟨v4, rfl, ho, hb⟩; obtain ⟨A6, cx, rfl, hl4, hc4⟩ := Kd.R_reads ho; have HR6 := Aside0.mk hc4; have HLC6 := Aside0.mk hl4; have n0_ := Aside0.mk (show CellAt w4 g1 a from blk_below HKA.out.blk hb); have n1_ := Aside0.mk (show CellAt w4 g2 b from blk_below HKB.out.blk hb); have n2_ := Aside0.mk (HB.out.trans (hb.mono HB.out.size)); clear hb ho hl4 hc4 HKA HKB HB; have HKA := n0_; have HKB := n1_; have HB := n2_; clear n0_ n1_ n2_) | (go_at_call 8; (with_reducible refine (cell_Put.calls b HBB.out _).mono ?_); rintro e w5 ⟨v4, rfl, ho, hb⟩; obtain ⟨A7, cy, rfl, hl4, hc4⟩ := Kd.R_reads ho; have HR7 := Aside0.mk hc4; have HLC7 := Aside0.mk hl4; have n3_ := Aside0.mk (Kd.C_below HR6.out hb); have n0_ := Aside0.mk (show CellAt w5 g1 a from blk_below HKA.out.blk hb); have n1_ := Aside0.mk (show CellAt w5 g2 b from blk_below HKB.out.blk hb); have n2_ := Aside0.mk (HB.out.trans (hb.mono HB.out.size)); clear hb ho hl4 hc4 HKA HKB HB HR6; have HKA := n0_; have HKB := n1_; have HB := n2_; have HR6 := n3_; clear n0_ n1_ n2_ n3_))
  have hx6 := HR6.out
  have hx7 := HR7.out
  have hcx := HLC6.out
  have hcy := HLC7.out
  rw [a.bytes_length HA.out] at hx6 hcx ⊢
  rw [b.bytes_length HBB.out] at hx7 hcy ⊢
  clear HR6 HR7 HLC6 HLC7
  obtain ⟨adx, rfl, _⟩ := (Kd.reads_of_C (enc := Value.int .u8) (d := (0 : Int)) (h1 := fun _ => rfl) hx6).2.2 (by decide)
  obtain ⟨ady, rfl, _⟩ := (Kd.reads_of_C (enc := Value.int .u8) (d := (0 : Int)) (h1 := fun _ => rfl) hx7).2.2 (by decide)
  have HX0 := Aside0.mk (fun (w' : World) (hb : Below w5.heap.size w5 w') => show Kd.C (Kd.int .u8) w' (some adx) (32 - 0) (seg a 0) from by rw [← seg_of HA.out 0 (by decide)]; exact seg_C (Kd.C_below hx6 hb) 0 32 (by decide) (by decide))
  have HX1 := Aside0.mk (fun (w' : World) (hb : Below w5.heap.size w5 w') => show Kd.C (Kd.int .u8) w' (some (adx.add 32)) (40 - 32) (seg a 1) from by rw [← seg_of HA.out 1 (by decide)]; exact seg_C (Kd.C_below hx6 hb) 32 40 (by decide) (by decide))
  have HX2 := Aside0.mk (fun (w' : World) (hb : Below w5.heap.size w5 w') => show Kd.C (Kd.int .u8) w' (some (adx.add 40)) (48 - 40) (seg a 2) from by rw [← seg_of HA.out 2 (by decide)]; exact seg_C (Kd.C_below hx6 hb) 40 48 (by decide) (by decide))
  have HX3 := Aside0.mk (fun (w' : World) (hb : Below w5.heap.size w5 w') => show Kd.C (Kd.int .u8) w' (some (adx.add 48)) (56 - 48) (seg a 3) from by rw [← seg_of HA.out 3 (by decide)]; exact seg_C (Kd.C_below hx6 hb) 48 56 (by decide) (by decide))
  have HX4 := Aside0.mk (fun (w' : World) (hb : Below w5.heap.size w5 w') => show Kd.C (Kd.int .u8) w' (some (adx.add 56)) (64 - 56) (seg a 4) from by rw [← seg_of HA.out 4 (by decide)]; exact seg_C (Kd.C_below hx6 hb) 56 64 (by decide) (by decide))
  have HX5 := Aside0.mk (fun (w' : World) (hb : Below w5.heap.size w5 w') => show Kd.C (Kd.int .u8) w' (some (adx.add 64)) (96 - 64) (seg a 5) from by rw [← seg_of HA.out 5 (by decide)]; exact seg_C (Kd.C_below hx6 hb) 64 96 (by decide) (by decide))
  have HY0 := Aside0.mk (fun (w' : World) (hb : Below w5.heap.size w5 w') => show Kd.C (Kd.int .u8) w' (some ady) (32 - 0) (seg b 0) from by rw [← seg_of HBB.out 0 (by decide)]; exact seg_C (Kd.C_below hx7 hb) 0 32 (by decide) (by decide))
  have HY1 := Aside0.mk (fun (w' : World) (hb : Below w5.heap.size w5 w') => show Kd.C (Kd.int .u8) w' (some (ady.add 32)) (40 - 32) (seg b 1) from by rw [← seg_of HBB.out 1 (by decide)]; exact seg_C (Kd.C_below hx7 hb) 32 40 (by decide) (by decide))
  have HY2 := Aside0.mk (fun (w' : World) (hb : Below w5.heap.size w5 w') => show Kd.C (Kd.int .u8) w' (some (ady.add 40)) (48 - 40) (seg b 2) from by rw [← seg_of HBB.out 2 (by decide)]; exact seg_C (Kd.C_below hx7 hb) 40 48 (by decide) (by decide))
  have HY3 := Aside0.mk (fun (w' : World) (hb : Below w5.heap.size w5 w') => show Kd.C (Kd.int .u8) w' (some (ady.add 48)) (56 - 48) (seg b 3) from by rw [← seg_of HBB.out 3 (by decide)]; exact seg_C (Kd.C_below hx7 hb) 48 56 (by decide) (by decide))
  have HY4 := Aside0.mk (fun (w' : World) (hb : Below w5.heap.size w5 w') => show Kd.C (Kd.int .u8) w' (some (ady.add 56)) (64 - 56) (seg b 4) from by rw [← seg_of HBB.out 4 (by decide)]; exact seg_C (Kd.C_below hx7 hb) 56 64 (by decide) (by decide))
  have HY5 := Aside0.mk (fun (w' : World) (hb : Below w5.heap.size w5 w') => show Kd.C (Kd.int .u8) w' (some (ady.add 64)) (96 - 64) (seg b 5) from by rw [← seg_of HBB.out 5 (by decide)]; exact seg_C (Kd.C_below hx7 hb) 64 96 (by decide) (by decide))
  clear hx6 hx7
  refine mono_region (T := _) (B := [0, 1, 3, 7, 15, 31, 63, 127, 255, 511, 1023, 2047, 511, 4607, 12799, 32767, 511, 66047, 511, 262655, 983551, 2097151, 4194303, 8388607, 16777215, 33554431, 67108863, 16777215, 150994943, 419430399, 1073741823, 16777215, 2164260863, 16777215, 8606711807, 32229031935, 68719476735, 137438953471, 274877906943, 549755813887, 1099511627775, 2199023255551, 549755813887, 4947802324991, 13743895347199, 35184372088831, 549755813887, 70918499991551, 549755813887, 282024732524543, 1056080918478847, 2251799813685247, 4503599627370495, 9007199254740991, 18014398509481983, 36028797018963967, 72057594037927935, 18014398509481983, 162129586585337855, 450359962737049599, 1152921504606846975, 18014398509481983, 2323857407723175935, 18014398509481983, 9241386435364257791, 34605659536714891263, 73786976294838206463, 147573952589676412927, 295147905179352825855, 590295810358705651711, 1180591620717411303423, 2361183241434822606847, 590295810358705651711, 5312662293228350865407, 14757395258967641292799, 37778931862957161709567, 590295810358705651711, 76148159536273029070847, 590295810358705651711, 302821750714015999328255, 1133958251699073556938751, 2417851639229258349412351, 4835703278458516698824703, 9671406556917033397649407, 19342813113834066795298815, 38685626227668133590597631, 77371252455336267181195263, 19342813113834066795298815, 174085318024506601157689343, 483570327845851669882470399, 1237940039285380274899124223, 19342813113834066795298815, 2495222891684594616593547263, 19342813113834066795298815, 9922863127396876265988292607, 37157543991675242313769025535, 79228162514264337593543950335, 158456325028528675187087900671, 316912650057057350374175801343]) (n := 99) [(0, 15, VP.is (Value.slice (some adx) 96 cx)), (1, 16, VP.is (Value.int .i64 96)), (2, 17, VP.is (Value.bool true)), (3, 18, VP.is (Value.bool true)), (4, 19, VP.is (Value.slice (some ady) 96 cy)), (5, 20, VP.is (Value.int .i64 96)), (6, 21, VP.is (Value.bool true)), (7, 22, VP.is (Value.bool true)), (8, 23, VP.is (Value.bool true)), (9, 24, VP.is (Value.slice (some adx) 96 cx)), (10, 25, VP.is (Value.slice (some adx) 32 cx)), (11, 26, VP.is (Value.string (strOfNums (seg a 0)))), (12, 27, VP.is (Value.slice (some ady) 96 cy)), (13, 28, VP.is (Value.slice (some ady) 32 cy)), (14, 29, VP.is (Value.string (strOfNums (seg b 0)))), (15, 30, VP.is (Value.bool (a.eqf b 0))), (16, 31, VP.is (Value.pointer (some ⟨g1, 0, none⟩))), (17, 32, VP.is (Value.agg (encs (Value.int .u8) a.root).toArray)), (18, 33, VP.is (Value.pointer (some ⟨g2, 0, none⟩))), (19, 34, VP.is (Value.agg (encs (Value.int .u8) b.root).toArray)), (20, 35, VP.is (Value.bool (a.eqf b 0))), (21, 36, VP.is (Value.bool true)), (22, 37, VP.is (Value.bool true)), (23, 38, VP.is (Value.bool true)), (24, 39, VP.is (Value.slice (some adx) 96 cx)), (25, 40, VP.is (Value.slice (some (adx.add 32)) 8 (cx - 32))), (26, 41, VP.is (Value.string (strOfNums (seg a 1)))), (27, 42, VP.is (Value.slice (some ady) 96 cy)), (28, 43, VP.is (Value.slice (some (ady.add 32)) 8 (cy - 32))), (29, 44, VP.is (Value.string (strOfNums (seg b 1)))), (30, 45, VP.is (Value.bool (a.eqf b 1))), (31, 46, VP.is (Value.pointer (some ⟨g1, 32, none⟩))), (32, 47, VP.is (Value.int .u64 a.ver)), (33, 48, VP.is (Value.pointer (some ⟨g2, 32, none⟩))), (34, 49, VP.is (Value.int .u64 b.ver)), (35, 50, VP.is (Value.bool (a.eqf b 1))), (36, 51, VP.is (Value.bool true)), (37, 52, VP.is (Value.bool true)), (38, 53, VP.is (Value.bool true)), (39, 54, VP.is (Value.slice (some adx) 96 cx)), (40, 55, VP.is (Value.slice (some (adx.add 40)) 8 (cx - 40))), (41, 56, VP.is (Value.string (strOfNums (seg a 2)))), (42, 57, VP.is (Value.slice (some ady) 96 cy)), (43, 58, VP.is (Value.slice (some (ady.add 40)) 8 (cy - 40))), (44, 59, VP.is (Value.string (strOfNums (seg b 2)))), (45, 60, VP.is (Value.bool (a.eqf b 2))), (46, 61, VP.is (Value.pointer (some ⟨g1, 33, none⟩))), (47, 62, VP.is (Value.int .u64 a.cnt)), (48, 63, VP.is (Value.pointer (some ⟨g2, 33, none⟩))), (49, 64, VP.is (Value.int .u64 b.cnt)), (50, 65, VP.is (Value.bool (a.eqf b 2))), (51, 66, VP.is (Value.bool true)), (52, 67, VP.is (Value.bool true)), (53, 68, VP.is (Value.bool true)), (54, 69, VP.is (Value.slice (some adx) 96 cx)), (55, 70, VP.is (Value.slice (some (adx.add 48)) 8 (cx - 48))), (56, 71, VP.is (Value.string (strOfNums (seg a 3)))), (57, 72, VP.is (Value.slice (some ady) 96 cy)), (58, 73, VP.is (Value.slice (some (ady.add 48)) 8 (cy - 48))), (59, 74, VP.is (Value.string (strOfNums (seg b 3)))), (60, 75, VP.is (Value.bool (a.eqf b 3))), (61, 76, VP.is (Value.pointer (some ⟨g1, 34, none⟩))), (62, 77, VP.is (Value.int .u64 a.start)), (63, 78, VP.is (Value.pointer (some ⟨g2, 34, none⟩))), (64, 79, VP.is (Value.int .u64 b.start)), (65, 80, VP.is (Value.bool (a.eqf b 3))), (66, 81, VP.is (Value.bool true)), (67, 82, VP.is (Value.bool true)), (68, 83, VP.is (Value.bool true)), (69, 84, VP.is (Value.slice (some adx) 96 cx)), (70, 85, VP.is (Value.slice (some (adx.add 56)) 8 (cx - 56))), (71, 86, VP.is (Value.string (strOfNums (seg a 4)))), (72, 87, VP.is (Value.slice (some ady) 96 cy)), (73, 88, VP.is (Value.slice (some (ady.add 56)) 8 (cy - 56))), (74, 89, VP.is (Value.string (strOfNums (seg b 4)))), (75, 90, VP.is (Value.bool (a.eqf b 4))), (76, 91, VP.is (Value.pointer (some ⟨g1, 35, none⟩))), (77, 92, VP.is (Value.int .u64 a.count)), (78, 93, VP.is (Value.pointer (some ⟨g2, 35, none⟩))), (79, 94, VP.is (Value.int .u64 b.count)), (80, 95, VP.is (Value.bool (a.eqf b 4))), (81, 96, VP.is (Value.bool true)), (82, 97, VP.is (Value.bool true)), (83, 98, VP.is (Value.bool true)), (84, 99, VP.is (Value.slice (some adx) 96 cx)), (85, 100, VP.is (Value.slice (some (adx.add 64)) 32 (cx - 64))), (86, 101, VP.is (Value.string (strOfNums (seg a 5)))), (87, 102, VP.is (Value.slice (some ady) 96 cy)), (88, 103, VP.is (Value.slice (some (ady.add 64)) 32 (cy - 64))), (89, 104, VP.is (Value.string (strOfNums (seg b 5)))), (90, 105, VP.is (Value.bool (a.eqf b 5))), (91, 106, VP.is (Value.pointer (some ⟨g1, 36, none⟩))), (92, 107, VP.is (Value.agg (encs (Value.int .u8) a.tag).toArray)), (93, 108, VP.is (Value.pointer (some ⟨g2, 36, none⟩))), (94, 109, VP.is (Value.agg (encs (Value.int .u8) b.tag).toArray)), (95, 110, VP.is (Value.bool (a.eqf b 5))), (96, 111, VP.is (Value.bool true)), (97, 112, VP.is (Value.bool true)), (98, 4, VP.is (Value.bool true))] rfl (by kernel_rfl) (by kernel_rfl) rfl (by kernel_rfl) (by kernel_rfl) (by kernel_rfl) (by kernel_rfl) (by kernel_rfl) ?_ ?_
  · refine ms_cons ?_ <| ms_cons ?_ <| ms_cons ?_ <| ms_cons ?_ <| ms_cons ?_ <| ms_cons ?_ <| ms_cons ?_ <| ms_cons ?_ <| ms_cons ?_ <| ms_cons ?_ <| ms_cons ?_ <| ms_cons ?_ <| ms_cons ?_ <| ms_cons ?_ <| ms_cons ?_ <| ms_cons ?_ <| ms_cons ?_ <| ms_cons ?_ <| ms_cons ?_ <| ms_cons ?_ <| ms_cons ?_ <| ms_cons ?_ <| ms_cons ?_ <| ms_cons ?_ <| ms_cons ?_ <| ms_cons ?_ <| ms_cons ?_ <| ms_cons ?_ <| ms_cons ?_ <| ms_cons ?_ <| ms_cons ?_ <| ms_cons ?_ <| ms_cons ?_ <| ms_cons ?_ <| ms_cons ?_ <| ms_cons ?_ <| ms_cons ?_ <| ms_cons ?_ <| ms_cons ?_ <| ms_cons ?_ <| ms_cons ?_ <| ms_cons ?_ <| ms_cons ?_ <| ms_cons ?_ <| ms_cons ?_ <| ms_cons ?_ <| ms_cons ?_ <| ms_cons ?_ <| ms_cons ?_ <| ms_cons ?_ <| ms_cons ?_ <| ms_cons ?_ <| ms_cons ?_ <| ms_cons ?_ <| ms_cons ?_ <| ms_cons ?_ <| ms_cons ?_ <| ms_cons ?_ <| ms_cons ?_ <| ms_cons ?_ <| ms_cons ?_ <| ms_cons ?_ <| ms_cons ?_ <| ms_cons ?_ <| ms_cons ?_ <| ms_cons ?_ <| ms_cons ?_ <| ms_cons ?_ <| ms_cons ?_ <| ms_cons ?_ <| ms_cons ?_ <| ms_cons ?_ <| ms_cons ?_ <| ms_cons ?_ <| ms_cons ?_ <| ms_cons ?_ <| ms_cons ?_ <| ms_cons ?_ <| ms_cons ?_ <| ms_cons ?_ <| ms_cons ?_ <| ms_cons ?_ <| ms_cons ?_ <| ms_cons ?_ <| ms_cons ?_ <| ms_cons ?_ <| ms_cons ?_ <| ms_cons ?_ <| ms_cons ?_ <| ms_cons ?_ <| ms_cons ?_ <| ms_cons ?_ <| ms_cons ?_ <| ms_cons ?_ <| ms_cons ?_ <| ms_cons ?_ <| ms_cons ?_ <| ms_cons ?_ <| ms_cons ?_ <| ms_nil
    · intro act_ w' H
      have e6 := H.tmp (t := 6) rfl (by kernel_rfl)
      have ev6 := eval_of e6
      refine ms_val rfl rfl rfl (Value.slice (some adx) 96 cx) w' ?_ (Below.refl _ _) rfl
      · go_simp
        try rfl
    · intro act_ w' H
      obtain ⟨_, e15, rfl⟩ := H.on 0 rfl (by kernel_rfl)
      have ev15 := eval_of e15
      refine ms_val rfl rfl rfl (Value.int .i64 96) w' ?_ (Below.refl _ _) rfl
      · go_simp
        try rfl
    · intro act_ w' H
      obtain ⟨_, e16, rfl⟩ := H.on 1 rfl (by kernel_rfl)
      have ev16 := eval_of e16
      refine ms_val rfl rfl rfl (Value.bool true) w' ?_ (Below.refl _ _) rfl
      · go_simp
        try rfl
    · intro act_ w' H
      obtain ⟨_, e17, rfl⟩ := H.on 2 rfl (by kernel_rfl)
      have ev17 := eval_of e17
      refine ms_val rfl rfl rfl (Value.bool true) w' ?_ (Below.refl _ _) rfl
      · go_simp
        try rfl
    · intro act_ w' H
      have e7 := H.tmp (t := 7) rfl (by kernel_rfl)
      have ev7 := eval_of e7
      obtain ⟨_, e18, rfl⟩ := H.on 3 rfl (by kernel_rfl)
      have ev18 := eval_of e18
      refine ms_val rfl rfl (wanted_on rfl rfl rfl e18) (Value.slice (some ady) 96 cy) w' ?_ (Below.refl _ _) rfl
      · go_simp
        try rfl
    · intro act_ w' H
      obtain ⟨_, e19, rfl⟩ := H.on 4 rfl (by kernel_rfl)
      have ev19 := eval_of e19
      obtain ⟨_, e18, rfl⟩ := H.on 3 rfl (by kernel_rfl)
      have ev18 := eval_of e18
      refine ms_val rfl rfl (wanted_on rfl rfl rfl e18) (Value.int .i64 96) w' ?_ (Below.refl _ _) rfl
      · go_simp
        try rfl
    · intro act_ w' H
      obtain ⟨_, e20, rfl⟩ := H.on 5 rfl (by kernel_rfl)
      have ev20 := eval_of e20
      obtain ⟨_, e18, rfl⟩ := H.on 3 rfl (by kernel_rfl)
      have ev18 := eval_of e18
      refine ms_val rfl rfl (wanted_on rfl rfl rfl e18) (Value.bool true) w' ?_ (Below.refl _ _) rfl
      · go_simp
        try rfl
    · intro act_ w' H
      obtain ⟨_, e18, rfl⟩ := H.on 3 rfl (by kernel_rfl)
      have ev18 := eval_of e18
      obtain ⟨_, e21, rfl⟩ := H.on 6 rfl (by kernel_rfl)
      have ev21 := eval_of e21
      refine ms_val rfl rfl rfl (Value.bool true) w' ?_ (Below.refl _ _) rfl
      · go_simp
        try rfl
    · intro act_ w' H
      obtain ⟨_, e22, rfl⟩ := H.on 7 rfl (by kernel_rfl)
      have ev22 := eval_of e22
      refine ms_val rfl rfl rfl (Value.bool true) w' ?_ (Below.refl _ _) rfl
      · go_simp
        try rfl
    · intro act_ w' H
      have e6 := H.tmp (t := 6) rfl (by kernel_rfl)
      have ev6 := eval_of e6
      obtain ⟨_, e23, rfl⟩ := H.on 8 rfl (by kernel_rfl)
      have ev23 := eval_of e23
      refine ms_val rfl rfl (wanted_on rfl rfl rfl e23) (Value.slice (some adx) 96 cx) w' ?_ (Below.refl _ _) rfl
      · go_simp
        try rfl
    · intro act_ w' H
      obtain ⟨_, e24, rfl⟩ := H.on 9 rfl (by kernel_rfl)
      have ev24 := eval_of e24
      obtain ⟨_, e23, rfl⟩ := H.on 8 rfl (by kernel_rfl)
      have ev23 := eval_of e23
      refine ms_val rfl rfl (wanted_on rfl rfl rfl e23) (Value.slice (some adx) 32 cx) w' ?_ (Below.refl _ _) rfl
      first | (go_simp; intro hq; exfalso; omega) | (go_simp; rw [if_pos (by omega), if_neg (by omega)]; first | done | rfl) | (go_simp; done)
    · intro act_ w' H
      obtain ⟨_, e25, rfl⟩ := H.on 10 rfl (by kernel_rfl)
      have ev25 := eval_of e25
      obtain ⟨_, e23, rfl⟩ := H.on 8 rfl (by kernel_rfl)
      have ev23 := eval_of e23
      refine ms_val rfl rfl (wanted_on rfl rfl rfl e23) (Value.string (strOfNums (seg a 0))) w' ?_ (Below.refl _ _) rfl
      exact ex_string_row w' _ _ _ _ rfl Try.underlying27 Try.underlying5 Try.underlying9 (some adx) cx (seg a 0) (by rw [seg_length HA.out 0 (by decide)]; exact ev25) (by rw [seg_length HA.out 0 (by decide)]; exact HX0.out w' H.below)
    · intro act_ w' H
      have e7 := H.tmp (t := 7) rfl (by kernel_rfl)
      have ev7 := eval_of e7
      obtain ⟨_, e23, rfl⟩ := H.on 8 rfl (by kernel_rfl)
      have ev23 := eval_of e23
      refine ms_val rfl rfl (wanted_on rfl rfl rfl e23) (Value.slice (some ady) 96 cy) w' ?_ (Below.refl _ _) rfl
      · go_simp
        try rfl
    · intro act_ w' H
      obtain ⟨_, e27, rfl⟩ := H.on 12 rfl (by kernel_rfl)
      have ev27 := eval_of e27
      obtain ⟨_, e23, rfl⟩ := H.on 8 rfl (by kernel_rfl)
      have ev23 := eval_of e23
      refine ms_val rfl rfl (wanted_on rfl rfl rfl e23) (Value.slice (some ady) 32 cy) w' ?_ (Below.refl _ _) rfl
      first | (go_simp; intro hq; exfalso; omega) | (go_simp; rw [if_pos (by omega), if_neg (by omega)]; first | done | rfl) | (go_simp; done)
    · intro act_ w' H
      obtain ⟨_, e28, rfl⟩ := H.on 13 rfl (by kernel_rfl)
      have ev28 := eval_of e28
      obtain ⟨_, e23, rfl⟩ := H.on 8 rfl (by kernel_rfl)
      have ev23 := eval_of e23
      refine ms_val rfl rfl (wanted_on rfl rfl rfl e23) (Value.string (strOfNums (seg b 0))) w' ?_ (Below.refl _ _) rfl
      exact ex_string_row w' _ _ _ _ rfl Try.underlying27 Try.underlying5 Try.underlying9 (some ady) cy (seg b 0) (by rw [seg_length HBB.out 0 (by decide)]; exact ev28) (by rw [seg_length HBB.out 0 (by decide)]; exact HY0.out w' H.below)
    · intro act_ w' H
      obtain ⟨_, e26, rfl⟩ := H.on 11 rfl (by kernel_rfl)
      have ev26 := eval_of e26
      obtain ⟨_, e29, rfl⟩ := H.on 14 rfl (by kernel_rfl)
      have ev29 := eval_of e29
      obtain ⟨_, e23, rfl⟩ := H.on 8 rfl (by kernel_rfl)
      have ev23 := eval_of e23
      have hq := HSTR0.out
      refine ms_val rfl rfl (wanted_on rfl rfl rfl e23) (Value.bool (a.eqf b 0)) w' ?_ (Below.refl _ _) rfl
      · go_simp
        try rfl
    · intro act_ w' H
      have e2 := H.tmp (t := 2) rfl (by kernel_rfl)
      have ev2 := eval_of e2
      obtain ⟨_, e23, rfl⟩ := H.on 8 rfl (by kernel_rfl)
      have ev23 := eval_of e23
      refine ms_val rfl rfl (wanted_on rfl rfl rfl e23) (Value.pointer (some ⟨g1, 0, none⟩)) w' ?_ (Below.refl _ _) rfl
      · go_simp
        try rfl
    · intro act_ w' H
      obtain ⟨_, e31, rfl⟩ := H.on 16 rfl (by kernel_rfl)
      have ev31 := eval_of e31
      obtain ⟨_, e23, rfl⟩ := H.on 8 rfl (by kernel_rfl)
      have ev23 := eval_of e23
      refine ms_val rfl rfl (wanted_on rfl rfl rfl e23) (Value.agg (encs (Value.int .u8) a.root).toArray) w' ?_ (Below.refl _ _) rfl
      exact ex_load_agg w' _ _ rfl ⟨g1, 0, none⟩ ev31 _ _ (fun j v hv => load_root HA.out (blk_below HKA.out.blk H.below) j v hv) Try.underlying23 rfl (by rw [encs_length, HA.out.root]; exact info_sum)
    · intro act_ w' H
      have e3 := H.tmp (t := 3) rfl (by kernel_rfl)
      have ev3 := eval_of e3
      obtain ⟨_, e23, rfl⟩ := H.on 8 rfl (by kernel_rfl)
      have ev23 := eval_of e23
      refine ms_val rfl rfl (wanted_on rfl rfl rfl e23) (Value.pointer (some ⟨g2, 0, none⟩)) w' ?_ (Below.refl _ _) rfl
      · go_simp
        try rfl
    · intro act_ w' H
      obtain ⟨_, e33, rfl⟩ := H.on 18 rfl (by kernel_rfl)
      have ev33 := eval_of e33
      obtain ⟨_, e23, rfl⟩ := H.on 8 rfl (by kernel_rfl)
      have ev23 := eval_of e23
      refine ms_val rfl rfl (wanted_on rfl rfl rfl e23) (Value.agg (encs (Value.int .u8) b.root).toArray) w' ?_ (Below.refl _ _) rfl
      exact ex_load_agg w' _ _ rfl ⟨g2, 0, none⟩ ev33 _ _ (fun j v hv => load_root HBB.out (blk_below HKB.out.blk H.below) j v hv) Try.underlying23 rfl (by rw [encs_length, HBB.out.root]; exact info_sum)
    · intro act_ w' H
      obtain ⟨_, e32, rfl⟩ := H.on 17 rfl (by kernel_rfl)
      have ev32 := eval_of e32
      obtain ⟨_, e34, rfl⟩ := H.on 19 rfl (by kernel_rfl)
      have ev34 := eval_of e34
      obtain ⟨_, e23, rfl⟩ := H.on 8 rfl (by kernel_rfl)
      have ev23 := eval_of e23
      refine ms_val rfl rfl (wanted_on rfl rfl rfl e23) (Value.bool (a.eqf b 0)) w' ?_ (Below.refl _ _) rfl
      exact ex_binop w' _ _ _ _ _ rfl _ _ ev32 ev34 (guard_sum _ _ _ _ _ w') _ (eql_sums _ _ HA.out.root HBB.out.root w')
    · intro act_ w' H
      obtain ⟨_, e30, rfl⟩ := H.on 15 rfl (by kernel_rfl)
      have ev30 := eval_of e30
      obtain ⟨_, e35, rfl⟩ := H.on 20 rfl (by kernel_rfl)
      have ev35 := eval_of e35
      obtain ⟨_, e23, rfl⟩ := H.on 8 rfl (by kernel_rfl)
      have ev23 := eval_of e23
      refine ms_val rfl rfl (wanted_on rfl rfl rfl e23) (Value.bool true) w' ?_ (Below.refl _ _) rfl
      · go_simp
        try rfl
    · intro act_ w' H
      obtain ⟨_, e23, rfl⟩ := H.on 8 rfl (by kernel_rfl)
      have ev23 := eval_of e23
      obtain ⟨_, e36, rfl⟩ := H.on 21 rfl (by kernel_rfl)
      have ev36 := eval_of e36
      refine ms_val rfl rfl rfl (Value.bool true) w' ?_ (Below.refl _ _) rfl
      · go_simp
        try rfl
    · intro act_ w' H
      obtain ⟨_, e37, rfl⟩ := H.on 22 rfl (by kernel_rfl)
      have ev37 := eval_of e37
      refine ms_val rfl rfl rfl (Value.bool true) w' ?_ (Below.refl _ _) rfl
      · go_simp
        try rfl
    · intro act_ w' H
      have e6 := H.tmp (t := 6) rfl (by kernel_rfl)
      have ev6 := eval_of e6
      obtain ⟨_, e38, rfl⟩ := H.on 23 rfl (by kernel_rfl)
      have ev38 := eval_of e38
      refine ms_val rfl rfl (wanted_on rfl rfl rfl e38) (Value.slice (some adx) 96 cx) w' ?_ (Below.refl _ _) rfl
      · go_simp
        try rfl
    · intro act_ w' H
      obtain ⟨_, e39, rfl⟩ := H.on 24 rfl (by kernel_rfl)
      have ev39 := eval_of e39
      obtain ⟨_, e38, rfl⟩ := H.on 23 rfl (by kernel_rfl)
      have ev38 := eval_of e38
      refine ms_val rfl rfl (wanted_on rfl rfl rfl e38) (Value.slice (some (adx.add 32)) 8 (cx - 32)) w' ?_ (Below.refl _ _) rfl
      first | (go_simp; intro hq; exfalso; omega) | (go_simp; rw [if_pos (by omega), if_neg (by omega)]; first | done | rfl) | (go_simp; done)
    · intro act_ w' H
      obtain ⟨_, e40, rfl⟩ := H.on 25 rfl (by kernel_rfl)
      have ev40 := eval_of e40
      obtain ⟨_, e38, rfl⟩ := H.on 23 rfl (by kernel_rfl)
      have ev38 := eval_of e38
      refine ms_val rfl rfl (wanted_on rfl rfl rfl e38) (Value.string (strOfNums (seg a 1))) w' ?_ (Below.refl _ _) rfl
      exact ex_string_row w' _ _ _ _ rfl Try.underlying27 Try.underlying5 Try.underlying9 (some (adx.add 32)) (cx - 32) (seg a 1) (by rw [seg_length HA.out 1 (by decide)]; exact ev40) (by rw [seg_length HA.out 1 (by decide)]; exact HX1.out w' H.below)
    · intro act_ w' H
      have e7 := H.tmp (t := 7) rfl (by kernel_rfl)
      have ev7 := eval_of e7
      obtain ⟨_, e38, rfl⟩ := H.on 23 rfl (by kernel_rfl)
      have ev38 := eval_of e38
      refine ms_val rfl rfl (wanted_on rfl rfl rfl e38) (Value.slice (some ady) 96 cy) w' ?_ (Below.refl _ _) rfl
      · go_simp
        try rfl
    · intro act_ w' H
      obtain ⟨_, e42, rfl⟩ := H.on 27 rfl (by kernel_rfl)
      have ev42 := eval_of e42
      obtain ⟨_, e38, rfl⟩ := H.on 23 rfl (by kernel_rfl)
      have ev38 := eval_of e38
      refine ms_val rfl rfl (wanted_on rfl rfl rfl e38) (Value.slice (some (ady.add 32)) 8 (cy - 32)) w' ?_ (Below.refl _ _) rfl
      first | (go_simp; intro hq; exfalso; omega) | (go_simp; rw [if_pos (by omega), if_neg (by omega)]; first | done | rfl) | (go_simp; done)
    · intro act_ w' H
      obtain ⟨_, e43, rfl⟩ := H.on 28 rfl (by kernel_rfl)
      have ev43 := eval_of e43
      obtain ⟨_, e38, rfl⟩ := H.on 23 rfl (by kernel_rfl)
      have ev38 := eval_of e38
      refine ms_val rfl rfl (wanted_on rfl rfl rfl e38) (Value.string (strOfNums (seg b 1))) w' ?_ (Below.refl _ _) rfl
      exact ex_string_row w' _ _ _ _ rfl Try.underlying27 Try.underlying5 Try.underlying9 (some (ady.add 32)) (cy - 32) (seg b 1) (by rw [seg_length HBB.out 1 (by decide)]; exact ev43) (by rw [seg_length HBB.out 1 (by decide)]; exact HY1.out w' H.below)
    · intro act_ w' H
      obtain ⟨_, e41, rfl⟩ := H.on 26 rfl (by kernel_rfl)
      have ev41 := eval_of e41
      obtain ⟨_, e44, rfl⟩ := H.on 29 rfl (by kernel_rfl)
      have ev44 := eval_of e44
      obtain ⟨_, e38, rfl⟩ := H.on 23 rfl (by kernel_rfl)
      have ev38 := eval_of e38
      have hq := HSTR1.out
      refine ms_val rfl rfl (wanted_on rfl rfl rfl e38) (Value.bool (a.eqf b 1)) w' ?_ (Below.refl _ _) rfl
      · go_simp
        try rfl
    · intro act_ w' H
      have e2 := H.tmp (t := 2) rfl (by kernel_rfl)
      have ev2 := eval_of e2
      obtain ⟨_, e38, rfl⟩ := H.on 23 rfl (by kernel_rfl)
      have ev38 := eval_of e38
      refine ms_val rfl rfl (wanted_on rfl rfl rfl e38) (Value.pointer (some ⟨g1, 32, none⟩)) w' ?_ (Below.refl _ _) rfl
      · go_simp
        try rfl
    · intro act_ w' H
      obtain ⟨_, e46, rfl⟩ := H.on 31 rfl (by kernel_rfl)
      have ev46 := eval_of e46
      obtain ⟨_, e38, rfl⟩ := H.on 23 rfl (by kernel_rfl)
      have ev38 := eval_of e38
      obtain ⟨n1_, n2_, n3_, n4_⟩ := CellAt.nums (show CellAt w' g1 a from blk_below HKA.out.blk H.below) HA.out
      refine ms_val rfl rfl (wanted_on rfl rfl rfl e38) (Value.int .u64 a.ver) w' ?_ (Below.refl _ _) rfl
      · go_simp
        try rfl
    · intro act_ w' H
      have e3 := H.tmp (t := 3) rfl (by kernel_rfl)
      have ev3 := eval_of e3
      obtain ⟨_, e38, rfl⟩ := H.on 23 rfl (by kernel_rfl)
      have ev38 := eval_of e38
      refine ms_val rfl rfl (wanted_on rfl rfl rfl e38) (Value.pointer (some ⟨g2, 32, none⟩)) w' ?_ (Below.refl _ _) rfl
      · go_simp
        try rfl
    · intro act_ w' H
      obtain ⟨_, e48, rfl⟩ := H.on 33 rfl (by kernel_rfl)
      have ev48 := eval_of e48
      obtain ⟨_, e38, rfl⟩ := H.on 23 rfl (by kernel_rfl)
      have ev38 := eval_of e38
      obtain ⟨n1_, n2_, n3_, n4_⟩ := CellAt.nums (show CellAt w' g2 b from blk_below HKB.out.blk H.below) HBB.out
      refine ms_val rfl rfl (wanted_on rfl rfl rfl e38) (Value.int .u64 b.ver) w' ?_ (Below.refl _ _) rfl
      · go_simp
        try rfl
    · intro act_ w' H
      obtain ⟨_, e47, rfl⟩ := H.on 32 rfl (by kernel_rfl)
      have ev47 := eval_of e47
      obtain ⟨_, e49, rfl⟩ := H.on 34 rfl (by kernel_rfl)
      have ev49 := eval_of e49
      obtain ⟨_, e38, rfl⟩ := H.on 23 rfl (by kernel_rfl)
      have ev38 := eval_of e38
      refine ms_val rfl rfl (wanted_on rfl rfl rfl e38) (Value.bool (a.eqf b 1)) w' ?_ (Below.refl _ _) rfl
      · go_simp
        try rfl
    · intro act_ w' H
      obtain ⟨_, e45, rfl⟩ := H.on 30 rfl (by kernel_rfl)
      have ev45 := eval_of e45
      obtain ⟨_, e50, rfl⟩ := H.on 35 rfl (by kernel_rfl)
      have ev50 := eval_of e50
      obtain ⟨_, e38, rfl⟩ := H.on 23 rfl (by kernel_rfl)
      have ev38 := eval_of e38
      refine ms_val rfl rfl (wanted_on rfl rfl rfl e38) (Value.bool true) w' ?_ (Below.refl _ _) rfl
      · go_simp
        try rfl
    · intro act_ w' H
      obtain ⟨_, e38, rfl⟩ := H.on 23 rfl (by kernel_rfl)
      have ev38 := eval_of e38
      obtain ⟨_, e51, rfl⟩ := H.on 36 rfl (by kernel_rfl)
      have ev51 := eval_of e51
      refine ms_val rfl rfl rfl (Value.bool true) w' ?_ (Below.refl _ _) rfl
      · go_simp
        try rfl
    · intro act_ w' H
      obtain ⟨_, e52, rfl⟩ := H.on 37 rfl (by kernel_rfl)
      have ev52 := eval_of e52
      refine ms_val rfl rfl rfl (Value.bool true) w' ?_ (Below.refl _ _) rfl
      · go_simp
        try rfl
    · intro act_ w' H
      have e6 := H.tmp (t := 6) rfl (by kernel_rfl)
      have ev6 := eval_of e6
      obtain ⟨_, e53, rfl⟩ := H.on 38 rfl (by kernel_rfl)
      have ev53 := eval_of e53
      refine ms_val rfl rfl (wanted_on rfl rfl rfl e53) (Value.slice (some adx) 96 cx) w' ?_ (Below.refl _ _) rfl
      · go_simp
        try rfl
    · intro act_ w' H
      obtain ⟨_, e54, rfl⟩ := H.on 39 rfl (by kernel_rfl)
      have ev54 := eval_of e54
      obtain ⟨_, e53, rfl⟩ := H.on 38 rfl (by kernel_rfl)
      have ev53 := eval_of e53
      refine ms_val rfl rfl (wanted_on rfl rfl rfl e53) (Value.slice (some (adx.add 40)) 8 (cx - 40)) w' ?_ (Below.refl _ _) rfl
      first | (go_simp; intro hq; exfalso; omega) | (go_simp; rw [if_pos (by omega), if_neg (by omega)]; first | done | rfl) | (go_simp; done)
    · intro act_ w' H
      obtain ⟨_, e55, rfl⟩ := H.on 40 rfl (by kernel_rfl)
      have ev55 := eval_of e55
      obtain ⟨_, e53, rfl⟩ := H.on 38 rfl (by kernel_rfl)
      have ev53 := eval_of e53
      refine ms_val rfl rfl (wanted_on rfl rfl rfl e53) (Value.string (strOfNums (seg a 2))) w' ?_ (Below.refl _ _) rfl
      exact ex_string_row w' _ _ _ _ rfl Try.underlying27 Try.underlying5 Try.underlying9 (some (adx.add 40)) (cx - 40) (seg a 2) (by rw [seg_length HA.out 2 (by decide)]; exact ev55) (by rw [seg_length HA.out 2 (by decide)]; exact HX2.out w' H.below)
    · intro act_ w' H
      have e7 := H.tmp (t := 7) rfl (by kernel_rfl)
      have ev7 := eval_of e7
      obtain ⟨_, e53, rfl⟩ := H.on 38 rfl (by kernel_rfl)
      have ev53 := eval_of e53
      refine ms_val rfl rfl (wanted_on rfl rfl rfl e53) (Value.slice (some ady) 96 cy) w' ?_ (Below.refl _ _) rfl
      · go_simp
        try rfl
    · intro act_ w' H
      obtain ⟨_, e57, rfl⟩ := H.on 42 rfl (by kernel_rfl)
      have ev57 := eval_of e57
      obtain ⟨_, e53, rfl⟩ := H.on 38 rfl (by kernel_rfl)
      have ev53 := eval_of e53
      refine ms_val rfl rfl (wanted_on rfl rfl rfl e53) (Value.slice (some (ady.add 40)) 8 (cy - 40)) w' ?_ (Below.refl _ _) rfl
      first | (go_simp; intro hq; exfalso; omega) | (go_simp; rw [if_pos (by omega), if_neg (by omega)]; first | done | rfl) | (go_simp; done)
    · intro act_ w' H
      obtain ⟨_, e58, rfl⟩ := H.on 43 rfl (by kernel_rfl)
      have ev58 := eval_of e58
      obtain ⟨_, e53, rfl⟩ := H.on 38 rfl (by kernel_rfl)
      have ev53 := eval_of e53
      refine ms_val rfl rfl (wanted_on rfl rfl rfl e53) (Value.string (strOfNums (seg b 2))) w' ?_ (Below.refl _ _) rfl
      exact ex_string_row w' _ _ _ _ rfl Try.underlying27 Try.underlying5 Try.underlying9 (some (ady.add 40)) (cy - 40) (seg b 2) (by rw [seg_length HBB.out 2 (by decide)]; exact ev58) (by rw [seg_length HBB.out 2 (by decide)]; exact HY2.out w' H.below)
    · intro act_ w' H
      obtain ⟨_, e56, rfl⟩ := H.on 41 rfl (by kernel_rfl)
      have ev56 := eval_of e56
      obtain ⟨_, e59, rfl⟩ := H.on 44 rfl (by kernel_rfl)
      have ev59 := eval_of e59
      obtain ⟨_, e53, rfl⟩ := H.on 38 rfl (by kernel_rfl)
      have ev53 := eval_of e53
      have hq := HSTR2.out
      refine ms_val rfl rfl (wanted_on rfl rfl rfl e53) (Value.bool (a.eqf b 2)) w' ?_ (Below.refl _ _) rfl
      · go_simp
        try rfl
    · intro act_ w' H
      have e2 := H.tmp (t := 2) rfl (by kernel_rfl)
      have ev2 := eval_of e2
      obtain ⟨_, e53, rfl⟩ := H.on 38 rfl (by kernel_rfl)
      have ev53 := eval_of e53
      refine ms_val rfl rfl (wanted_on rfl rfl rfl e53) (Value.pointer (some ⟨g1, 33, none⟩)) w' ?_ (Below.refl _ _) rfl
      · go_simp
        try rfl
    · intro act_ w' H
      obtain ⟨_, e61, rfl⟩ := H.on 46 rfl (by kernel_rfl)
      have ev61 := eval_of e61
      obtain ⟨_, e53, rfl⟩ := H.on 38 rfl (by kernel_rfl)
      have ev53 := eval_of e53
      obtain ⟨n1_, n2_, n3_, n4_⟩ := CellAt.nums (show CellAt w' g1 a from blk_below HKA.out.blk H.below) HA.out
      refine ms_val rfl rfl (wanted_on rfl rfl rfl e53) (Value.int .u64 a.cnt) w' ?_ (Below.refl _ _) rfl
      · go_simp
        try rfl
    · intro act_ w' H
      have e3 := H.tmp (t := 3) rfl (by kernel_rfl)
      have ev3 := eval_of e3
      obtain ⟨_, e53, rfl⟩ := H.on 38 rfl (by kernel_rfl)
      have ev53 := eval_of e53
      refine ms_val rfl rfl (wanted_on rfl rfl rfl e53) (Value.pointer (some ⟨g2, 33, none⟩)) w' ?_ (Below.refl _ _) rfl
      · go_simp
        try rfl
    · intro act_ w' H
      obtain ⟨_, e63, rfl⟩ := H.on 48 rfl (by kernel_rfl)
      have ev63 := eval_of e63
      obtain ⟨_, e53, rfl⟩ := H.on 38 rfl (by kernel_rfl)
      have ev53 := eval_of e53
      obtain ⟨n1_, n2_, n3_, n4_⟩ := CellAt.nums (show CellAt w' g2 b from blk_below HKB.out.blk H.below) HBB.out
      refine ms_val rfl rfl (wanted_on rfl rfl rfl e53) (Value.int .u64 b.cnt) w' ?_ (Below.refl _ _) rfl
      · go_simp
        try rfl
    · intro act_ w' H
      obtain ⟨_, e62, rfl⟩ := H.on 47 rfl (by kernel_rfl)
      have ev62 := eval_of e62
      obtain ⟨_, e64, rfl⟩ := H.on 49 rfl (by kernel_rfl)
      have ev64 := eval_of e64
      obtain ⟨_, e53, rfl⟩ := H.on 38 rfl (by kernel_rfl)
      have ev53 := eval_of e53
      refine ms_val rfl rfl (wanted_on rfl rfl rfl e53) (Value.bool (a.eqf b 2)) w' ?_ (Below.refl _ _) rfl
      · go_simp
        try rfl
    · intro act_ w' H
      obtain ⟨_, e60, rfl⟩ := H.on 45 rfl (by kernel_rfl)
      have ev60 := eval_of e60
      obtain ⟨_, e65, rfl⟩ := H.on 50 rfl (by kernel_rfl)
      have ev65 := eval_of e65
      obtain ⟨_, e53, rfl⟩ := H.on 38 rfl (by kernel_rfl)
      have ev53 := eval_of e53
      refine ms_val rfl rfl (wanted_on rfl rfl rfl e53) (Value.bool true) w' ?_ (Below.refl _ _) rfl
      · go_simp
        try rfl
    · intro act_ w' H
      obtain ⟨_, e53, rfl⟩ := H.on 38 rfl (by kernel_rfl)
      have ev53 := eval_of e53
      obtain ⟨_, e66, rfl⟩ := H.on 51 rfl (by kernel_rfl)
      have ev66 := eval_of e66
      refine ms_val rfl rfl rfl (Value.bool true) w' ?_ (Below.refl _ _) rfl
      · go_simp
        try rfl
    · intro act_ w' H
      obtain ⟨_, e67, rfl⟩ := H.on 52 rfl (by kernel_rfl)
      have ev67 := eval_of e67
      refine ms_val rfl rfl rfl (Value.bool true) w' ?_ (Below.refl _ _) rfl
      · go_simp
        try rfl
    · intro act_ w' H
      have e6 := H.tmp (t := 6) rfl (by kernel_rfl)
      have ev6 := eval_of e6
      obtain ⟨_, e68, rfl⟩ := H.on 53 rfl (by kernel_rfl)
      have ev68 := eval_of e68
      refine ms_val rfl rfl (wanted_on rfl rfl rfl e68) (Value.slice (some adx) 96 cx) w' ?_ (Below.refl _ _) rfl
      · go_simp
        try rfl
    · intro act_ w' H
      obtain ⟨_, e69, rfl⟩ := H.on 54 rfl (by kernel_rfl)
      have ev69 := eval_of e69
      obtain ⟨_, e68, rfl⟩ := H.on 53 rfl (by kernel_rfl)
      have ev68 := eval_of e68
      refine ms_val rfl rfl (wanted_on rfl rfl rfl e68) (Value.slice (some (adx.add 48)) 8 (cx - 48)) w' ?_ (Below.refl _ _) rfl
      first | (go_simp; intro hq; exfalso; omega) | (go_simp; rw [if_pos (by omega), if_neg (by omega)]; first | done | rfl) | (go_simp; done)
    · intro act_ w' H
      obtain ⟨_, e70, rfl⟩ := H.on 55 rfl (by kernel_rfl)
      have ev70 := eval_of e70
      obtain ⟨_, e68, rfl⟩ := H.on 53 rfl (by kernel_rfl)
      have ev68 := eval_of e68
      refine ms_val rfl rfl (wanted_on rfl rfl rfl e68) (Value.string (strOfNums (seg a 3))) w' ?_ (Below.refl _ _) rfl
      exact ex_string_row w' _ _ _ _ rfl Try.underlying27 Try.underlying5 Try.underlying9 (some (adx.add 48)) (cx - 48) (seg a 3) (by rw [seg_length HA.out 3 (by decide)]; exact ev70) (by rw [seg_length HA.out 3 (by decide)]; exact HX3.out w' H.below)
    · intro act_ w' H
      have e7 := H.tmp (t := 7) rfl (by kernel_rfl)
      have ev7 := eval_of e7
      obtain ⟨_, e68, rfl⟩ := H.on 53 rfl (by kernel_rfl)
      have ev68 := eval_of e68
      refine ms_val rfl rfl (wanted_on rfl rfl rfl e68) (Value.slice (some ady) 96 cy) w' ?_ (Below.refl _ _) rfl
      · go_simp
        try rfl
    · intro act_ w' H
      obtain ⟨_, e72, rfl⟩ := H.on 57 rfl (by kernel_rfl)
      have ev72 := eval_of e72
      obtain ⟨_, e68, rfl⟩ := H.on 53 rfl (by kernel_rfl)
      have ev68 := eval_of e68
      refine ms_val rfl rfl (wanted_on rfl rfl rfl e68) (Value.slice (some (ady.add 48)) 8 (cy - 48)) w' ?_ (Below.refl _ _) rfl
      first | (go_simp; intro hq; exfalso; omega) | (go_simp; rw [if_pos (by omega), if_neg (by omega)]; first | done | rfl) | (go_simp; done)
    · intro act_ w' H
      obtain ⟨_, e73, rfl⟩ := H.on 58 rfl (by kernel_rfl)
      have ev73 := eval_of e73
      obtain ⟨_, e68, rfl⟩ := H.on 53 rfl (by kernel_rfl)
      have ev68 := eval_of e68
      refine ms_val rfl rfl (wanted_on rfl rfl rfl e68) (Value.string (strOfNums (seg b 3))) w' ?_ (Below.refl _ _) rfl
      exact ex_string_row w' _ _ _ _ rfl Try.underlying27 Try.underlying5 Try.underlying9 (some (ady.add 48)) (cy - 48) (seg b 3) (by rw [seg_length HBB.out 3 (by decide)]; exact ev73) (by rw [seg_length HBB.out 3 (by decide)]; exact HY3.out w' H.below)
    · intro act_ w' H
      obtain ⟨_, e71, rfl⟩ := H.on 56 rfl (by kernel_rfl)
      have ev71 := eval_of e71
      obtain ⟨_, e74, rfl⟩ := H.on 59 rfl (by kernel_rfl)
      have ev74 := eval_of e74
      obtain ⟨_, e68, rfl⟩ := H.on 53 rfl (by kernel_rfl)
      have ev68 := eval_of e68
      have hq := HSTR3.out
      refine ms_val rfl rfl (wanted_on rfl rfl rfl e68) (Value.bool (a.eqf b 3)) w' ?_ (Below.refl _ _) rfl
      · go_simp
        try rfl
    · intro act_ w' H
      have e2 := H.tmp (t := 2) rfl (by kernel_rfl)
      have ev2 := eval_of e2
      obtain ⟨_, e68, rfl⟩ := H.on 53 rfl (by kernel_rfl)
      have ev68 := eval_of e68
      refine ms_val rfl rfl (wanted_on rfl rfl rfl e68) (Value.pointer (some ⟨g1, 34, none⟩)) w' ?_ (Below.refl _ _) rfl
      · go_simp
        try rfl
    · intro act_ w' H
      obtain ⟨_, e76, rfl⟩ := H.on 61 rfl (by kernel_rfl)
      have ev76 := eval_of e76
      obtain ⟨_, e68, rfl⟩ := H.on 53 rfl (by kernel_rfl)
      have ev68 := eval_of e68
      obtain ⟨n1_, n2_, n3_, n4_⟩ := CellAt.nums (show CellAt w' g1 a from blk_below HKA.out.blk H.below) HA.out
      refine ms_val rfl rfl (wanted_on rfl rfl rfl e68) (Value.int .u64 a.start) w' ?_ (Below.refl _ _) rfl
      · go_simp
        try rfl
    · intro act_ w' H
      have e3 := H.tmp (t := 3) rfl (by kernel_rfl)
      have ev3 := eval_of e3
      obtain ⟨_, e68, rfl⟩ := H.on 53 rfl (by kernel_rfl)
      have ev68 := eval_of e68
      refine ms_val rfl rfl (wanted_on rfl rfl rfl e68) (Value.pointer (some ⟨g2, 34, none⟩)) w' ?_ (Below.refl _ _) rfl
      · go_simp
        try rfl
    · intro act_ w' H
      obtain ⟨_, e78, rfl⟩ := H.on 63 rfl (by kernel_rfl)
      have ev78 := eval_of e78
      obtain ⟨_, e68, rfl⟩ := H.on 53 rfl (by kernel_rfl)
      have ev68 := eval_of e68
      obtain ⟨n1_, n2_, n3_, n4_⟩ := CellAt.nums (show CellAt w' g2 b from blk_below HKB.out.blk H.below) HBB.out
      refine ms_val rfl rfl (wanted_on rfl rfl rfl e68) (Value.int .u64 b.start) w' ?_ (Below.refl _ _) rfl
      · go_simp
        try rfl
    · intro act_ w' H
      obtain ⟨_, e77, rfl⟩ := H.on 62 rfl (by kernel_rfl)
      have ev77 := eval_of e77
      obtain ⟨_, e79, rfl⟩ := H.on 64 rfl (by kernel_rfl)
      have ev79 := eval_of e79
      obtain ⟨_, e68, rfl⟩ := H.on 53 rfl (by kernel_rfl)
      have ev68 := eval_of e68
      refine ms_val rfl rfl (wanted_on rfl rfl rfl e68) (Value.bool (a.eqf b 3)) w' ?_ (Below.refl _ _) rfl
      · go_simp
        try rfl
    · intro act_ w' H
      obtain ⟨_, e75, rfl⟩ := H.on 60 rfl (by kernel_rfl)
      have ev75 := eval_of e75
      obtain ⟨_, e80, rfl⟩ := H.on 65 rfl (by kernel_rfl)
      have ev80 := eval_of e80
      obtain ⟨_, e68, rfl⟩ := H.on 53 rfl (by kernel_rfl)
      have ev68 := eval_of e68
      refine ms_val rfl rfl (wanted_on rfl rfl rfl e68) (Value.bool true) w' ?_ (Below.refl _ _) rfl
      · go_simp
        try rfl
    · intro act_ w' H
      obtain ⟨_, e68, rfl⟩ := H.on 53 rfl (by kernel_rfl)
      have ev68 := eval_of e68
      obtain ⟨_, e81, rfl⟩ := H.on 66 rfl (by kernel_rfl)
      have ev81 := eval_of e81
      refine ms_val rfl rfl rfl (Value.bool true) w' ?_ (Below.refl _ _) rfl
      · go_simp
        try rfl
    · intro act_ w' H
      obtain ⟨_, e82, rfl⟩ := H.on 67 rfl (by kernel_rfl)
      have ev82 := eval_of e82
      refine ms_val rfl rfl rfl (Value.bool true) w' ?_ (Below.refl _ _) rfl
      · go_simp
        try rfl
    · intro act_ w' H
      have e6 := H.tmp (t := 6) rfl (by kernel_rfl)
      have ev6 := eval_of e6
      obtain ⟨_, e83, rfl⟩ := H.on 68 rfl (by kernel_rfl)
      have ev83 := eval_of e83
      refine ms_val rfl rfl (wanted_on rfl rfl rfl e83) (Value.slice (some adx) 96 cx) w' ?_ (Below.refl _ _) rfl
      · go_simp
        try rfl
    · intro act_ w' H
      obtain ⟨_, e84, rfl⟩ := H.on 69 rfl (by kernel_rfl)
      have ev84 := eval_of e84
      obtain ⟨_, e83, rfl⟩ := H.on 68 rfl (by kernel_rfl)
      have ev83 := eval_of e83
      refine ms_val rfl rfl (wanted_on rfl rfl rfl e83) (Value.slice (some (adx.add 56)) 8 (cx - 56)) w' ?_ (Below.refl _ _) rfl
      first | (go_simp; intro hq; exfalso; omega) | (go_simp; rw [if_pos (by omega), if_neg (by omega)]; first | done | rfl) | (go_simp; done)
    · intro act_ w' H
      obtain ⟨_, e85, rfl⟩ := H.on 70 rfl (by kernel_rfl)
      have ev85 := eval_of e85
      obtain ⟨_, e83, rfl⟩ := H.on 68 rfl (by kernel_rfl)
      have ev83 := eval_of e83
      refine ms_val rfl rfl (wanted_on rfl rfl rfl e83) (Value.string (strOfNums (seg a 4))) w' ?_ (Below.refl _ _) rfl
      exact ex_string_row w' _ _ _ _ rfl Try.underlying27 Try.underlying5 Try.underlying9 (some (adx.add 56)) (cx - 56) (seg a 4) (by rw [seg_length HA.out 4 (by decide)]; exact ev85) (by rw [seg_length HA.out 4 (by decide)]; exact HX4.out w' H.below)
    · intro act_ w' H
      have e7 := H.tmp (t := 7) rfl (by kernel_rfl)
      have ev7 := eval_of e7
      obtain ⟨_, e83, rfl⟩ := H.on 68 rfl (by kernel_rfl)
      have ev83 := eval_of e83
      refine ms_val rfl rfl (wanted_on rfl rfl rfl e83) (Value.slice (some ady) 96 cy) w' ?_ (Below.refl _ _) rfl
      · go_simp
        try rfl
    · intro act_ w' H
      obtain ⟨_, e87, rfl⟩ := H.on 72 rfl (by kernel_rfl)
      have ev87 := eval_of e87
      obtain ⟨_, e83, rfl⟩ := H.on 68 rfl (by kernel_rfl)
      have ev83 := eval_of e83
      refine ms_val rfl rfl (wanted_on rfl rfl rfl e83) (Value.slice (some (ady.add 56)) 8 (cy - 56)) w' ?_ (Below.refl _ _) rfl
      first | (go_simp; intro hq; exfalso; omega) | (go_simp; rw [if_pos (by omega), if_neg (by omega)]; first | done | rfl) | (go_simp; done)
    · intro act_ w' H
      obtain ⟨_, e88, rfl⟩ := H.on 73 rfl (by kernel_rfl)
      have ev88 := eval_of e88
      obtain ⟨_, e83, rfl⟩ := H.on 68 rfl (by kernel_rfl)
      have ev83 := eval_of e83
      refine ms_val rfl rfl (wanted_on rfl rfl rfl e83) (Value.string (strOfNums (seg b 4))) w' ?_ (Below.refl _ _) rfl
      exact ex_string_row w' _ _ _ _ rfl Try.underlying27 Try.underlying5 Try.underlying9 (some (ady.add 56)) (cy - 56) (seg b 4) (by rw [seg_length HBB.out 4 (by decide)]; exact ev88) (by rw [seg_length HBB.out 4 (by decide)]; exact HY4.out w' H.below)
    · intro act_ w' H
      obtain ⟨_, e86, rfl⟩ := H.on 71 rfl (by kernel_rfl)
      have ev86 := eval_of e86
      obtain ⟨_, e89, rfl⟩ := H.on 74 rfl (by kernel_rfl)
      have ev89 := eval_of e89
      obtain ⟨_, e83, rfl⟩ := H.on 68 rfl (by kernel_rfl)
      have ev83 := eval_of e83
      have hq := HSTR4.out
      refine ms_val rfl rfl (wanted_on rfl rfl rfl e83) (Value.bool (a.eqf b 4)) w' ?_ (Below.refl _ _) rfl
      · go_simp
        try rfl
    · intro act_ w' H
      have e2 := H.tmp (t := 2) rfl (by kernel_rfl)
      have ev2 := eval_of e2
      obtain ⟨_, e83, rfl⟩ := H.on 68 rfl (by kernel_rfl)
      have ev83 := eval_of e83
      refine ms_val rfl rfl (wanted_on rfl rfl rfl e83) (Value.pointer (some ⟨g1, 35, none⟩)) w' ?_ (Below.refl _ _) rfl
      · go_simp
        try rfl
    · intro act_ w' H
      obtain ⟨_, e91, rfl⟩ := H.on 76 rfl (by kernel_rfl)
      have ev91 := eval_of e91
      obtain ⟨_, e83, rfl⟩ := H.on 68 rfl (by kernel_rfl)
      have ev83 := eval_of e83
      obtain ⟨n1_, n2_, n3_, n4_⟩ := CellAt.nums (show CellAt w' g1 a from blk_below HKA.out.blk H.below) HA.out
      refine ms_val rfl rfl (wanted_on rfl rfl rfl e83) (Value.int .u64 a.count) w' ?_ (Below.refl _ _) rfl
      · go_simp
        try rfl
    · intro act_ w' H
      have e3 := H.tmp (t := 3) rfl (by kernel_rfl)
      have ev3 := eval_of e3
      obtain ⟨_, e83, rfl⟩ := H.on 68 rfl (by kernel_rfl)
      have ev83 := eval_of e83
      refine ms_val rfl rfl (wanted_on rfl rfl rfl e83) (Value.pointer (some ⟨g2, 35, none⟩)) w' ?_ (Below.refl _ _) rfl
      · go_simp
        try rfl
    · intro act_ w' H
      obtain ⟨_, e93, rfl⟩ := H.on 78 rfl (by kernel_rfl)
      have ev93 := eval_of e93
      obtain ⟨_, e83, rfl⟩ := H.on 68 rfl (by kernel_rfl)
      have ev83 := eval_of e83
      obtain ⟨n1_, n2_, n3_, n4_⟩ := CellAt.nums (show CellAt w' g2 b from blk_below HKB.out.blk H.below) HBB.out
      refine ms_val rfl rfl (wanted_on rfl rfl rfl e83) (Value.int .u64 b.count) w' ?_ (Below.refl _ _) rfl
      · go_simp
        try rfl
    · intro act_ w' H
      obtain ⟨_, e92, rfl⟩ := H.on 77 rfl (by kernel_rfl)
      have ev92 := eval_of e92
      obtain ⟨_, e94, rfl⟩ := H.on 79 rfl (by kernel_rfl)
      have ev94 := eval_of e94
      obtain ⟨_, e83, rfl⟩ := H.on 68 rfl (by kernel_rfl)
      have ev83 := eval_of e83
      refine ms_val rfl rfl (wanted_on rfl rfl rfl e83) (Value.bool (a.eqf b 4)) w' ?_ (Below.refl _ _) rfl
      · go_simp
        try rfl
    · intro act_ w' H
      obtain ⟨_, e90, rfl⟩ := H.on 75 rfl (by kernel_rfl)
      have ev90 := eval_of e90
      obtain ⟨_, e95, rfl⟩ := H.on 80 rfl (by kernel_rfl)
      have ev95 := eval_of e95
      obtain ⟨_, e83, rfl⟩ := H.on 68 rfl (by kernel_rfl)
      have ev83 := eval_of e83
      refine ms_val rfl rfl (wanted_on rfl rfl rfl e83) (Value.bool true) w' ?_ (Below.refl _ _) rfl
      · go_simp
        try rfl
    · intro act_ w' H
      obtain ⟨_, e83, rfl⟩ := H.on 68 rfl (by kernel_rfl)
      have ev83 := eval_of e83
      obtain ⟨_, e96, rfl⟩ := H.on 81 rfl (by kernel_rfl)
      have ev96 := eval_of e96
      refine ms_val rfl rfl rfl (Value.bool true) w' ?_ (Below.refl _ _) rfl
      · go_simp
        try rfl
    · intro act_ w' H
      obtain ⟨_, e97, rfl⟩ := H.on 82 rfl (by kernel_rfl)
      have ev97 := eval_of e97
      refine ms_val rfl rfl rfl (Value.bool true) w' ?_ (Below.refl _ _) rfl
      · go_simp
        try rfl
    · intro act_ w' H
      have e6 := H.tmp (t := 6) rfl (by kernel_rfl)
      have ev6 := eval_of e6
      obtain ⟨_, e98, rfl⟩ := H.on 83 rfl (by kernel_rfl)
      have ev98 := eval_of e98
      refine ms_val rfl rfl (wanted_on rfl rfl rfl e98) (Value.slice (some adx) 96 cx) w' ?_ (Below.refl _ _) rfl
      · go_simp
        try rfl
    · intro act_ w' H
      obtain ⟨_, e99, rfl⟩ := H.on 84 rfl (by kernel_rfl)
      have ev99 := eval_of e99
      obtain ⟨_, e98, rfl⟩ := H.on 83 rfl (by kernel_rfl)
      have ev98 := eval_of e98
      refine ms_val rfl rfl (wanted_on rfl rfl rfl e98) (Value.slice (some (adx.add 64)) 32 (cx - 64)) w' ?_ (Below.refl _ _) rfl
      first | (go_simp; intro hq; exfalso; omega) | (go_simp; rw [if_pos (by omega), if_neg (by omega)]; first | done | rfl) | (go_simp; done)
    · intro act_ w' H
      obtain ⟨_, e100, rfl⟩ := H.on 85 rfl (by kernel_rfl)
      have ev100 := eval_of e100
      obtain ⟨_, e98, rfl⟩ := H.on 83 rfl (by kernel_rfl)
      have ev98 := eval_of e98
      refine ms_val rfl rfl (wanted_on rfl rfl rfl e98) (Value.string (strOfNums (seg a 5))) w' ?_ (Below.refl _ _) rfl
      exact ex_string_row w' _ _ _ _ rfl Try.underlying27 Try.underlying5 Try.underlying9 (some (adx.add 64)) (cx - 64) (seg a 5) (by rw [seg_length HA.out 5 (by decide)]; exact ev100) (by rw [seg_length HA.out 5 (by decide)]; exact HX5.out w' H.below)
    · intro act_ w' H
      have e7 := H.tmp (t := 7) rfl (by kernel_rfl)
      have ev7 := eval_of e7
      obtain ⟨_, e98, rfl⟩ := H.on 83 rfl (by kernel_rfl)
      have ev98 := eval_of e98
      refine ms_val rfl rfl (wanted_on rfl rfl rfl e98) (Value.slice (some ady) 96 cy) w' ?_ (Below.refl _ _) rfl
      · go_simp
        try rfl
    · intro act_ w' H
      obtain ⟨_, e102, rfl⟩ := H.on 87 rfl (by kernel_rfl)
      have ev102 := eval_of e102
      obtain ⟨_, e98, rfl⟩ := H.on 83 rfl (by kernel_rfl)
      have ev98 := eval_of e98
      refine ms_val rfl rfl (wanted_on rfl rfl rfl e98) (Value.slice (some (ady.add 64)) 32 (cy - 64)) w' ?_ (Below.refl _ _) rfl
      first | (go_simp; intro hq; exfalso; omega) | (go_simp; rw [if_pos (by omega), if_neg (by omega)]; first | done | rfl) | (go_simp; done)
    · intro act_ w' H
      obtain ⟨_, e103, rfl⟩ := H.on 88 rfl (by kernel_rfl)
      have ev103 := eval_of e103
      obtain ⟨_, e98, rfl⟩ := H.on 83 rfl (by kernel_rfl)
      have ev98 := eval_of e98
      refine ms_val rfl rfl (wanted_on rfl rfl rfl e98) (Value.string (strOfNums (seg b 5))) w' ?_ (Below.refl _ _) rfl
      exact ex_string_row w' _ _ _ _ rfl Try.underlying27 Try.underlying5 Try.underlying9 (some (ady.add 64)) (cy - 64) (seg b 5) (by rw [seg_length HBB.out 5 (by decide)]; exact ev103) (by rw [seg_length HBB.out 5 (by decide)]; exact HY5.out w' H.below)
    · intro act_ w' H
      obtain ⟨_, e101, rfl⟩ := H.on 86 rfl (by kernel_rfl)
      have ev101 := eval_of e101
      obtain ⟨_, e104, rfl⟩ := H.on 89 rfl (by kernel_rfl)
      have ev104 := eval_of e104
      obtain ⟨_, e98, rfl⟩ := H.on 83 rfl (by kernel_rfl)
      have ev98 := eval_of e98
      have hq := HSTR5.out
      refine ms_val rfl rfl (wanted_on rfl rfl rfl e98) (Value.bool (a.eqf b 5)) w' ?_ (Below.refl _ _) rfl
      · go_simp
        try rfl
    · intro act_ w' H
      have e2 := H.tmp (t := 2) rfl (by kernel_rfl)
      have ev2 := eval_of e2
      obtain ⟨_, e98, rfl⟩ := H.on 83 rfl (by kernel_rfl)
      have ev98 := eval_of e98
      refine ms_val rfl rfl (wanted_on rfl rfl rfl e98) (Value.pointer (some ⟨g1, 36, none⟩)) w' ?_ (Below.refl _ _) rfl
      · go_simp
        try rfl
    · intro act_ w' H
      obtain ⟨_, e106, rfl⟩ := H.on 91 rfl (by kernel_rfl)
      have ev106 := eval_of e106
      obtain ⟨_, e98, rfl⟩ := H.on 83 rfl (by kernel_rfl)
      have ev98 := eval_of e98
      refine ms_val rfl rfl (wanted_on rfl rfl rfl e98) (Value.agg (encs (Value.int .u8) a.tag).toArray) w' ?_ (Below.refl _ _) rfl
      exact ex_load_agg w' _ _ rfl ⟨g1, 36, none⟩ ev106 _ _ (fun j v hv => load_tag HA.out (blk_below HKA.out.blk H.below) j v hv) Try.underlying23 rfl (by rw [encs_length, HA.out.tag]; exact info_sum)
    · intro act_ w' H
      have e3 := H.tmp (t := 3) rfl (by kernel_rfl)
      have ev3 := eval_of e3
      obtain ⟨_, e98, rfl⟩ := H.on 83 rfl (by kernel_rfl)
      have ev98 := eval_of e98
      refine ms_val rfl rfl (wanted_on rfl rfl rfl e98) (Value.pointer (some ⟨g2, 36, none⟩)) w' ?_ (Below.refl _ _) rfl
      · go_simp
        try rfl
    · intro act_ w' H
      obtain ⟨_, e108, rfl⟩ := H.on 93 rfl (by kernel_rfl)
      have ev108 := eval_of e108
      obtain ⟨_, e98, rfl⟩ := H.on 83 rfl (by kernel_rfl)
      have ev98 := eval_of e98
      refine ms_val rfl rfl (wanted_on rfl rfl rfl e98) (Value.agg (encs (Value.int .u8) b.tag).toArray) w' ?_ (Below.refl _ _) rfl
      exact ex_load_agg w' _ _ rfl ⟨g2, 36, none⟩ ev108 _ _ (fun j v hv => load_tag HBB.out (blk_below HKB.out.blk H.below) j v hv) Try.underlying23 rfl (by rw [encs_length, HBB.out.tag]; exact info_sum)
    · intro act_ w' H
      obtain ⟨_, e107, rfl⟩ := H.on 92 rfl (by kernel_rfl)
      have ev107 := eval_of e107
      obtain ⟨_, e109, rfl⟩ := H.on 94 rfl (by kernel_rfl)
      have ev109 := eval_of e109
      obtain ⟨_, e98, rfl⟩ := H.on 83 rfl (by kernel_rfl)
      have ev98 := eval_of e98
      refine ms_val rfl rfl (wanted_on rfl rfl rfl e98) (Value.bool (a.eqf b 5)) w' ?_ (Below.refl _ _) rfl
      exact ex_binop w' _ _ _ _ _ rfl _ _ ev107 ev109 (guard_sum _ _ _ _ _ w') _ (eql_sums _ _ HA.out.tag HBB.out.tag w')
    · intro act_ w' H
      obtain ⟨_, e105, rfl⟩ := H.on 90 rfl (by kernel_rfl)
      have ev105 := eval_of e105
      obtain ⟨_, e110, rfl⟩ := H.on 95 rfl (by kernel_rfl)
      have ev110 := eval_of e110
      obtain ⟨_, e98, rfl⟩ := H.on 83 rfl (by kernel_rfl)
      have ev98 := eval_of e98
      refine ms_val rfl rfl (wanted_on rfl rfl rfl e98) (Value.bool true) w' ?_ (Below.refl _ _) rfl
      · go_simp
        try rfl
    · intro act_ w' H
      obtain ⟨_, e98, rfl⟩ := H.on 83 rfl (by kernel_rfl)
      have ev98 := eval_of e98
      obtain ⟨_, e111, rfl⟩ := H.on 96 rfl (by kernel_rfl)
      have ev111 := eval_of e111
      refine ms_val rfl rfl rfl (Value.bool true) w' ?_ (Below.refl _ _) rfl
      · go_simp
        try rfl
    · intro act_ w' H
      obtain ⟨_, e112, rfl⟩ := H.on 97 rfl (by kernel_rfl)
      have ev112 := eval_of e112
      refine ms_val rfl rfl rfl (Value.bool true) w' ?_ (Below.refl _ _) rfl
      · go_simp
        try rfl
  intro w6 hb6
  rintro _ rfl _ rfl _ rfl _ rfl _ rfl _ rfl _ rfl _ rfl _ rfl _ rfl _ rfl _ rfl _ rfl _ rfl _ rfl _ rfl _ rfl _ rfl _ rfl _ rfl _ rfl _ rfl _ rfl _ rfl _ rfl _ rfl _ rfl _ rfl _ rfl _ rfl _ rfl _ rfl _ rfl _ rfl _ rfl _ rfl _ rfl _ rfl _ rfl _ rfl _ rfl _ rfl _ rfl _ rfl _ rfl _ rfl _ rfl _ rfl _ rfl _ rfl _ rfl _ rfl _ rfl _ rfl _ rfl _ rfl _ rfl _ rfl _ rfl _ rfl _ rfl _ rfl _ rfl _ rfl _ rfl _ rfl _ rfl _ rfl _ rfl _ rfl _ rfl _ rfl _ rfl _ rfl _ rfl _ rfl _ rfl _ rfl _ rfl _ rfl _ rfl _ rfl _ rfl _ rfl _ rfl _ rfl _ rfl _ rfl _ rfl _ rfl _ rfl _ rfl _ rfl _ rfl _ rfl _ rfl _ rfl _ rfl _ rfl
  simp only [Ends, Act.put, List.setIfInBounds_toArray, List.set_cons_zero, List.set_cons_succ]
  have HB6 := Aside0.mk (HB.out.trans (hb6.mono HB.out.size))
  clear hb6
  go_wp2
  go_ret
  exact ⟨rfl, HB6.out⟩
end Go.Proofs.Ytklhpnalchgkaaa.Q
