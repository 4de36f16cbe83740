/- An inode as the document's. -/
import Derived.Test.YtpdobinpndfgfaaHRGet
import Derived.Test.YtpdobinpndfgfaaHGetY
namespace Go.Proofs.Ytpdobinpndfgfaa.Q
open Go.RowKit Go.Proofs.YtpdobinpndfgfaaW.PrintWords Go.Proofs.YtpdobinpndfgfaaW.PrintLast Go.Proofs.YtpdobinpndfgfaaW.PrintMore Go.Proofs.Ytpdobinpndfgfaa.Pure
attribute [local go_sem] max2_int min2_int max_two min_two max_three min_three max_four min_four
set_option linter.unusedVariables false
set_option linter.unusedSimpArgs false
theorem build_nums5 (a b c d e : Int) : ∀ W : World, (Instr.build 33 #[(0, .int .u16 a), (1, .int .u16 b), (2, .int .u16 c), (3, .int .u16 d), (4, .int .u16 e)]).run Try.prog W = .ok (.agg #[.int .u16 a, .int .u16 b, .int .u16 c, .int .u16 d, .int .u16 e]) W := fun W => by kernel_rfl
theorem build_N4 (x : InoV) : ∀ W : World, (Instr.build 35 #[(0, .int .u8 x.k), (1, .int .u16 x.li), (2, .int .u32 x.sz), (3, .agg #[.int .u16 x.b0, .int .u16 x.b1, .int .u16 x.b2, .int .u16 x.s, .int .u16 x.d])]).run Try.prog W = .ok (.agg x.cells) W := fun W => by kernel_rfl
set_option maxHeartbeats 4000000 in
set_option maxRecDepth 100000 in
theorem modelOf.calls (x : InoV) (w : World) :
    Calls Try.prog 13 #[.agg x.cells] w fun e w' => e = .returned (.agg x.cells) ∧ Below w.heap.size w w' := by
  go_enter Try.func13, Try.ntmps13
  go_wp2_with (first | ((with_reducible refine gate_op (N := .box 26 (.tmp 0)) rfl ?_); refine wl_box rfl 26 _ rfl (.agg x.cells) rfl ?_; intro g1 hg w1 hblk hb hsz; have HK1 := Aside0.mk (show InoAt 26 w1 g1 x from hblk); have HB := Aside0.mk hb; clear hg hblk hb hsz) | ((with_reducible refine gate_dst (N := 2) rfl ?_); refine wl_alloc rfl 35 rfl _ zero_N ?_; intro g2 hg w2 hblk hb hsz; have HG2 := Aside0.mk (show w.heap.size ≤ g2 by rw [hg]; exact HB.out.size); have HK2 := Aside0.mk (show InoAt 35 w2 g2 InoV.nought from hblk); have n0_ := Aside0.mk (show InoAt 26 w2 g1 x from blk_below HK1.out.blk hb); have n1_ := Aside0.mk (HB.out.trans (hb.mono HB.out.size)); clear hg hblk hb hsz HK1 HB; have HK1 := n0_; have HB := n1_; clear n0_ n1_; obtain ⟨hc0, hc1, hc2, hc3, hc4, hc5, hc6, hc7⟩ := HK1.out.all; have hb5 := build_nums5 x.b0 x.b1 x.b2 x.s x.d w2; have hb4 := build_N4 x w2) | ((with_reducible refine gate_store (t := 35) (p := 2) rfl ?_); refine wl_store_all rfl rfl 35 _ _ rfl g2 rfl _ _ HK2.out.blk (.agg x.cells) rfl rfl InoV.one info_N ?_; intro w8 hk8 hg8 hs8; have HK8 := Aside0.mk (show InoAt 35 w8 g2 x from hk8); have HB8 := Aside0.mk (show Below w.heap.size w w8 from grown_below HB.out hg8 HB.out.size HG2.out); clear hk8 hg8 hs8 HB))
  exact bodyPost_ret (results_cell_row rfl _ _ g2 35 x.cells (0, 0) _ rfl HK8.out.blk Try.underlying35 rfl info_N) rfl ⟨rfl, HB8.out⟩
end Go.Proofs.Ytpdobinpndfgfaa.Q
