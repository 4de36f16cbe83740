/- The document's example of inodes. -/
import Derived.Test.YtpdobinpndfgfaaHPlain
namespace Go.Proofs.Ytpdobinpndfgfaa.Q
open Go.RowKit Go.Proofs.YtpdobinpndfgfaaW.PrintWords Go.Proofs.YtpdobinpndfgfaaW.PrintLast Go.Proofs.YtpdobinpndfgfaaW.PrintMore Go.Proofs.Ytpdobinpndfgfaa.Pure
attribute [local go_sem] max2_int min2_int max_two min_two max_three min_three max_four min_four
set_option linter.unusedVariables false
set_option linter.unusedSimpArgs false
theorem reads_some {k : IntKind} {w : World} {A : Option Addr} {l : List Int} (h : Kd.C (Kd.int k) w A l.length l) (h0 : 0 < l.length) : ∃ ad, A = some ad ∧ ∀ j, j < l.length → w.cell? (ad.add j) = some (.int k (l.getD j 0)) :=
  (Kd.reads_of_C (enc := Value.int k) (d := (0 : Int)) (h1 := fun _ => rfl) h).2.2 h0
theorem inode_Put_reads (x : InoV) (hx : x.Ok) (w : World) :
    Calls Try.prog 9 #[.agg x.cells] w fun e w' => ∃ (ad : Addr) (c : Nat), e = .returned (.slice (some ad) 32 c) ∧ 32 ≤ c ∧ Kd.C (Kd.int .u8) w' (some ad) 32 x.bytes ∧ Below w.heap.size w w' := by
  refine (inode_Put.calls x hx w).mono ?_
  rintro e w' ⟨v, rfl, ho, hb⟩
  obtain ⟨A, c, rfl, hl, hc⟩ := Kd.R_reads ho
  rw [x.bytes_length] at hl
  obtain ⟨ad, rfl, _⟩ := reads_some hc (by rw [x.bytes_length]; decide)
  rw [x.bytes_length] at hc
  exact ⟨ad, c, by rw [x.bytes_length], hl, hc, hb⟩
theorem inode_Get_at (l : List Int) (hu : u8s l) (ad : Addr) (n c0 : Nat) (hn : l.length = n) (w : World) (hr : Kd.C (Kd.int .u8) w (some ad) n l) (hc0 : n ≤ c0) :
    Calls Try.prog 10 #[.slice (some ad) n c0] w fun e w' => e = .returned (.tuple #[.agg (formI l).1.cells, .int .i64 (formI l).2]) ∧ Below w.heap.size w w' := by
  subst hn
  exact inode_Get.calls (some ad) c0 l w hr hc0 hu
def awI : InoV := ⟨2, 0, 258, 0, 0, 0, 0, 0⟩
theorem awI_ok : awI.Ok := by constructor <;> (try unfold u16r) <;> decide
theorem build_aw : ∀ W : World, (Instr.build 26 #[(0, .int .u8 2), (2, .int .u32 258)]).run Try.prog W = .ok (.agg awI.cells) W := fun W => by kernel_rfl
theorem road84 : inode_Road.f 9 84 = some (4, [0, 1], 0) := by kernel_rfl
theorem cell_pair {w : World} {A : Option Addr} (h : Kd.C (Kd.int .i64) w A [0, 1].length [0, 1]) : ∃ ad, A = some ad ∧ w.cell? ad = some (.int .i64 0) ∧ w.cell? ⟨ad.block, ad.off + 1, none⟩ = some (.int .i64 1) := by
  obtain ⟨ad, e, h2⟩ := reads_some h (by decide)
  exact ⟨ad, e, h2 0 (by decide), h2 1 (by decide)⟩
set_option maxHeartbeats 1000000 in
set_option maxRecDepth 100000 in
theorem awake19.calls (w : World) : Calls Try.prog 8 #[] w fun e w' => e = .returned (.bool true) ∧ Below w.heap.size w w' := by
  have HGET := Aside0.mk (fun (ad : Addr) (c : Nat) (W : World) (h : Kd.C (Kd.int .u8) W (some ad) 32 awI.bytes) (hc : 32 ≤ c) => show Calls Try.prog 10 #[.slice (some ad) 32 c] W (fun e w' => e = .returned (.tuple #[.agg awI.cells, .int .i64 0]) ∧ Below W.heap.size W w') from inode_Get_at awI.bytes (awI.bytes_u8s awI_ok) ad 32 c awI.bytes_length W h hc)
  go_enter Try.func8, Try.ntmps8
  go_wp2_with (first | (go_at_call 14; (with_reducible refine (inode_Road.calls 9 84 4 [0, 1] 0 _ road84).mono ?_); rintro e w1 ⟨v1, rfl, ho, hb⟩; obtain ⟨A1, c1, rfl, hl1, hc1⟩ := Kd.R_reads ho; obtain ⟨ad1, rfl, hp0, hp1⟩ := cell_pair hc1; have HP0 := Aside0.mk hp0; have HP1 := Aside0.mk hp1; have HB := Aside0.mk hb; clear ho hb hl1 hc1 hp0 hp1) | ((with_reducible refine gate_dst (N := 12) rfl ?_); refine wl_val rfl (.agg awI.cells) (by unfold execOp; simp [build_aw, Act.eval]) ?_) | (go_at_call 9; (with_reducible refine (inode_Put_reads awI awI_ok _).mono ?_); rintro e w2 ⟨ad2, c2, rfl, hc2, hr2, hb⟩; have n0_ := Aside0.mk (pw_cell_below hb HP0.out); have n1_ := Aside0.mk (pw_cell_below hb HP1.out); have n2_ := Aside0.mk (HB.out.trans (hb.mono HB.out.size)); have HC2 := Aside0.mk hc2; have HR2 := Aside0.mk hr2; clear hb hc2 hr2 HP0 HP1 HB; have HP0 := n0_; have HP1 := n1_; have HB := n2_; clear n0_ n1_ n2_) | (go_at_call 10; (with_reducible refine (HGET.out _ _ _ HR2.out HC2.out).mono ?_); rintro e w2 ⟨rfl, hb⟩; have n0_ := Aside0.mk (pw_cell_below hb HP0.out); have n1_ := Aside0.mk (pw_cell_below hb HP1.out); have n2_ := Aside0.mk (HB.out.trans (hb.mono HB.out.size)); have n3_ := Aside0.mk (Kd.C_below HR2.out hb); clear hb HP0 HP1 HB HR2; have HP0 := n0_; have HP1 := n1_; have HB := n2_; have HR2 := n3_; clear n0_ n1_ n2_ n3_) | ((with_reducible refine gate_dst (N := 5) rfl ?_); refine wl_alloc rfl 26 rfl _ zero_ino ?_; intro g5 hg w6 hblk hb hsz; have HGE := Aside0.mk hg; have HAL := Aside0.mk hb; have HZE := Aside0.mk hblk; clear hg hblk hb hsz) | ((with_reducible refine gate_store (t := 26) (p := 5) rfl ?_); refine wl_store_all rfl rfl 26 _ _ rfl g5 rfl _ _ HZE.out (.agg awI.cells) rfl rfl InoV.one info_ino ?_; intro w7 hk7 hg7 hs7; have hbx := grown_below HAL.out hg7 HAL.out.size (by rw [HGE.out]; exact Nat.le_refl _); have hk0 : w7.cell? ⟨g5, 0, none⟩ = some (.int .u8 2) := (show InoAt 26 w7 g5 awI from hk7).all.1; have hp0 := pw_cell_below hbx HP0.out; have hp1 := pw_cell_below hbx HP1.out; have hc45 := reads_some (l := awI.bytes) (Kd.C_below HR2.out hbx) (by decide); obtain ⟨ad9, e9, hc9⟩ := hc45; injection e9 with e9; subst e9; have hb4 : w7.cell? ⟨ad2.block, ad2.off + 4, none⟩ = some (.int .u8 2) := hc9 4 (by decide); have hb5 : w7.cell? ⟨ad2.block, ad2.off + 5, none⟩ = some (.int .u8 1) := hc9 5 (by decide); have HB9 := Aside0.mk (HB.out.trans (hbx.mono HB.out.size)); clear hc9 hk7 hg7 hs7 hbx HAL HGE HZE HP0 HP1 HR2 HB))
  go_ret
  exact ⟨rfl, HB9.out⟩
end Go.Proofs.Ytpdobinpndfgfaa.Q
