/- What the document's Put of an inode does. -/
import Derived.Test.YtpdobinpndfgfaaHIno
namespace Go.Proofs.Ytpdobinpndfgfaa.Q
open Go.RowKit Go.Proofs.YtpdobinpndfgfaaW.PrintWords Go.Proofs.YtpdobinpndfgfaaW.PrintLast Go.Proofs.YtpdobinpndfgfaaW.PrintMore Go.Proofs.Ytpdobinpndfgfaa.Pure
attribute [local go_sem] max2_int min2_int max_two min_two max_three min_three max_four min_four
set_option linter.unusedVariables false
set_option linter.unusedSimpArgs false
theorem InoAt.num {t : TypeId} {w : World} {g : Nat} {x : InoV} (h : InoAt t w g x) (i : Nat) (hi : i < 5) : w.cell? ⟨g, 3 + i, none⟩ = some (.int .u16 (x.num i)) := by
  obtain ⟨_, _, _, c3, c4, c5, c6, c7⟩ := h.all
  match i, hi with
  | 0, _ => exact c3
  | 1, _ => exact c4
  | 2, _ => exact c5
  | 3, _ => exact c6
  | 4, _ => exact c7
set_option maxHeartbeats 2000000 in
set_option maxRecDepth 100000 in
theorem ref_Put.calls (x : InoV) (hx : x.Ok) (w : World) :
    Calls Try.prog 12 #[.agg x.cells] w fun e w' => e = .returned (.string (strOfNums x.bytes)) ∧ Below w.heap.size w w' := by
  have HX := Aside0.mk hx
  have HP1 := Aside0.mk (rput2 x.li hx.li)
  have HP2 := Aside0.mk (rput4 x.sz hx.sz)
  have hw1 := w64_of hx.li.1 (by have := hx.li.2; omega)
  have hw2 := w64_of hx.sz.1 hx.sz.2
  clear hx
  go_enter Try.func12, Try.ntmps12
  go_wp2_with (first | ((with_reducible refine gate_op (N := .box 35 (.tmp 0)) rfl ?_); refine wl_box rfl 35 _ rfl (.agg x.cells) rfl ?_; intro g hg w1 hblk hb hsz; have HC := Aside0.mk (show InoAt 35 w1 g x from hblk); have HB := Aside0.mk hb; clear hg hblk hb hsz; obtain ⟨nn0, nn1, nn2, nn3, nn4, nn5, nn6, nn7⟩ := HC.out.all) | ((with_reducible refine gate_dst (N := 7) rfl ?_); refine wl_lit rfl .u8 5 [x.k, 0] (show 2 ≤ maxLen by decide) ?hr ?_; (case hr => first | (go_simp; done) | (go_simp; rfl)); intro v3 w3 ho hb; have HO := Aside0.mk (Kd.R_lower ho HB.out.size); have n0_ := Aside0.mk (show InoAt 35 w3 g x from blk_below HC.out.blk hb); have n1_ := Aside0.mk (HB.out.trans (hb.mono HB.out.size)); clear ho hb HC HB nn0 nn1 nn2 nn3 nn4 nn5 nn6 nn7; have HC := n0_; have HB := n1_; clear n0_ n1_; obtain ⟨nn0, nn1, nn2, nn3, nn4, nn5, nn6, nn7⟩ := HC.out.all) | ((with_reducible refine gate_callee (f := 24) rfl ?_); refine goesL_ (some 12) rfl rfl Try.func24 (by kernel_rfl) rfl #[.int .u64 x.li, .int .i64 2] rfl (by (try simp only [List.map_toArray, List.map_cons, List.map_nil]); first | done | rfl | (simp only [List.length_drop, List.length_take]; rfl)) ?_; (with_reducible refine (reliquaryref01_Put.calls 9 x.li 2 _ _ HP1.out).mono ?_); rintro e w4 ⟨v4, rfl, ho4, hb4⟩; refine ⟨_, rfl, ?_⟩; have n0_ := Aside0.mk (show Below w.heap.size w w4 from HB.out.trans (hb4.mono HB.out.size)); have n1_ := Aside0.mk (show InoAt 35 w4 g x from blk_below HC.out.blk hb4); obtain ⟨A4, c4, rfl, hl4, hc4⟩ := Kd.R_reads ho4; have HR := Aside0.mk hc4; have n2_ := Aside0.mk (Kd.R_below HO.out hb4); clear ho4 hb4 hl4 hc4 HO HC HB; have HB := n0_; have HC := n1_; have HO := n2_; clear n0_ n1_ n2_) | ((with_reducible refine gate_callee (f := 24) rfl ?_); refine goesL_ (some 18) rfl rfl Try.func24 (by kernel_rfl) rfl #[.int .u64 x.sz, .int .i64 4] rfl (by (try simp only [List.map_toArray, List.map_cons, List.map_nil]); first | done | rfl | (simp only [List.length_drop, List.length_take]; rfl)) ?_; (with_reducible refine (reliquaryref01_Put.calls 9 x.sz 4 _ _ HP2.out).mono ?_); rintro e w4 ⟨v4, rfl, ho4, hb4⟩; refine ⟨_, rfl, ?_⟩; have n0_ := Aside0.mk (show Below w.heap.size w w4 from HB.out.trans (hb4.mono HB.out.size)); have n1_ := Aside0.mk (show InoAt 35 w4 g x from blk_below HC.out.blk hb4); obtain ⟨A4, c4, rfl, hl4, hc4⟩ := Kd.R_reads ho4; have HR := Aside0.mk hc4; have n2_ := Aside0.mk (Kd.R_below HO.out hb4); clear ho4 hb4 hl4 hc4 HO HC HB; have HB := n0_; have HC := n1_; have HO := n2_; clear n0_ n1_ n2_) | ((with_reducible refine gate_builtin (b := .append) (xs := #[.tmp 8, .tmp 12]) rfl ?_); at_builtin; refine Kd.R_append_row (Value.int .u8) (0 : Int) (h1 := fun _ => rfl) (w0 := w) w.heap.size rfl (.tmp 8) (.tmp 12) 27 5 (.int .u8 0) 1 rfl Try.underlying27 info5 rfl (by decide) _ ([x.k, 0]) (lebytes 2 x.li) A4 (lebytes 2 x.li).length c4 (fun _ => True) rfl rfl (fun _ _ => trivial) HO.out HR.out HB.out HB.out.size (by simp only [List.length_cons, List.length_nil, lebytes_length]; omega) ?_; intro v_ w_ ho_ hb_ hg_ hat_; have n0_ := Aside0.mk (show InoAt 35 w_ g x from (hg_.block _ (blk_lt HC.out.blk) (Kd.R_ne HO.out HC.out.blk (by decide))).trans HC.out.blk); have n1_ := Aside0.mk ho_; have n2_ := Aside0.mk hb_; clear ho_ hb_ hg_ hat_ HO HC HB HR; have HC := n0_; have HO := n1_; have HB := n2_; clear n0_ n1_ n2_ nn0 nn1 nn2 nn3 nn4 nn5 nn6 nn7; obtain ⟨nn0, nn1, nn2, nn3, nn4, nn5, nn6, nn7⟩ := HC.out.all) | ((with_reducible refine gate_builtin (b := .append) (xs := #[.tmp 14, .tmp 18]) rfl ?_); at_builtin; refine Kd.R_append_row (Value.int .u8) (0 : Int) (h1 := fun _ => rfl) (w0 := w) w.heap.size rfl (.tmp 14) (.tmp 18) 27 5 (.int .u8 0) 1 rfl Try.underlying27 info5 rfl (by decide) _ ([x.k, 0] ++ lebytes 2 x.li) (lebytes 4 x.sz) A4 (lebytes 4 x.sz).length c4 (fun _ => True) rfl rfl (fun _ _ => trivial) HO.out HR.out HB.out HB.out.size (by simp only [List.length_append, List.length_cons, List.length_nil, lebytes_length]; omega) ?_; intro v_ w_ ho_ hb_ hg_ hat_; have n0_ := Aside0.mk (show InoAt 35 w_ g x from (hg_.block _ (blk_lt HC.out.blk) (Kd.R_ne HO.out HC.out.blk (by decide))).trans HC.out.blk); have n1_ := Aside0.mk ho_; have n2_ := Aside0.mk hb_; clear ho_ hb_ hg_ hat_ HO HC HB HR; have HC := n0_; have HO := n1_; have HB := n2_; clear n0_ n1_ n2_))
  have n0_ := Aside0.mk (show Kd.R (Kd.int .u8) 5 _ w.heap.size (fun _ => True) _ (x.upto 0) from by have := HO.out; rw [List.append_assoc] at this; exact this)
  clear HO nn0 nn1 nn2 nn3 nn4 nn5 nn6 nn7 hw1 hw2
  have HO := n0_
  clear n0_
  go_loopg [3, 4] 5 (fun gk v3 v4 w' => ∃ i : Nat, v4 = .int .i64 i ∧ Aside0 (gk + i = 5) ∧ Aside0 (Kd.R (Kd.int .u8) 5 w' w.heap.size (fun _ => True) v3 (x.upto i)) ∧ Aside0 (InoAt 35 w' g x) ∧ Aside0 (Below w.heap.size w w'))
  case atStart => exact ⟨0, rfl, ⟨rfl⟩, HO, HC, HB⟩
  case round =>
    clear HO HB HC
    obtain ⟨i, rfl, HI, HO, HC, HB⟩ := hrel
    by_cases hi : i < 5
    · have hcell := HC.out.num i hi
      obtain ⟨y, hy⟩ : ∃ y : Int, x.num i = y := ⟨_, rfl⟩
      have hyo := x.num_ok HX.out i
      rw [hy] at hyo hcell
      have hw := w64_of hyo.1 (by have := hyo.2; omega)
      have HY := Aside0.mk (rput2 y hyo)
      have HYY := Aside0.mk hy
      have HU := Aside0.mk (x.upto_length i)
      have hil : (i : Int) < 5 := by omega
      have hib : decide ((i : Int) < 5) = true := decide_eq_true hil
      have HIL := Aside0.mk hi
      clear hy hyo hi
      go_wp2_with (first | ((with_reducible refine gate_callee (f := 24) rfl ?_); refine goesL_ (some 30) rfl rfl Try.func24 (by kernel_rfl) rfl #[.int .u64 y, .int .i64 2] rfl (by (try simp only [List.map_toArray, List.map_cons, List.map_nil]); first | done | rfl | (simp only [List.length_drop, List.length_take]; rfl)) ?_; (with_reducible refine (reliquaryref01_Put.calls 9 y 2 _ _ HY.out).mono ?_); rintro e w4 ⟨v4, rfl, ho4, hb4⟩; refine ⟨_, rfl, ?_⟩; have n0_ := Aside0.mk (show Below w.heap.size w w4 from HB.out.trans (hb4.mono HB.out.size)); have n1_ := Aside0.mk (show InoAt 35 w4 g x from blk_below HC.out.blk hb4); obtain ⟨A4, c4, rfl, hl4, hc4⟩ := Kd.R_reads ho4; have HR := Aside0.mk hc4; have n2_ := Aside0.mk (Kd.R_below HO.out hb4); clear hcell ho4 hb4 hl4 hc4 HO HC HB; have HB := n0_; have HC := n1_; have HO := n2_; clear n0_ n1_ n2_) | ((with_reducible refine gate_builtin (b := .append) (xs := #[.tmp 24, .tmp 30]) rfl ?_); at_builtin; refine Kd.R_append_row (Value.int .u8) (0 : Int) (h1 := fun _ => rfl) (w0 := w) w.heap.size rfl (.tmp 24) (.tmp 30) 27 5 (.int .u8 0) 1 rfl Try.underlying27 info5 rfl (by decide) _ (x.upto i) (lebytes 2 y) A4 (lebytes 2 y).length c4 (fun _ => True) rfl rfl (fun _ _ => trivial) HO.out HR.out HB.out HB.out.size (by rw [HU.out, lebytes_length]; have := HIL.out; omega) ?_; intro v_ w_ ho_ hb_ hg_ hat_; have n0_ := Aside0.mk (show InoAt 35 w_ g x from (hg_.block _ (blk_lt HC.out.blk) (Kd.R_ne HO.out HC.out.blk (by decide))).trans HC.out.blk); have n1_ := Aside0.mk ho_; have n2_ := Aside0.mk hb_; clear ho_ hb_ hg_ hat_ HO HC HB HR; have HC := n0_; have HO := n1_; have HB := n2_; clear n0_ n1_ n2_))
      go_roundg (gk - 1)
      case measure => have := HI.out; have := HIL.out; omega
      case rel => exact ⟨i + 1, by go_num, ⟨by have := HI.out; have := HIL.out; omega⟩, ⟨by rw [InoV.upto, HYY.out]; exact HO.out⟩, HC, HB⟩
    · have h4 : i = 5 := by have := HI.out; omega
      subst h4
      have hib : decide (((5 : Nat) : Int) < 5) = false := by decide
      clear hi
      go_wp2
      go_loopg [3] 14 (fun gk v3 w' => ∃ j : Nat, Aside0 (gk + j = 14) ∧ Aside0 (Kd.R (Kd.int .u8) 5 w' w.heap.size (fun _ => True) v3 (x.upto 5 ++ List.replicate j 0)) ∧ Aside0 (Below w.heap.size w w'))
      case atStart => exact ⟨0, ⟨rfl⟩, ⟨by rw [List.replicate_zero, List.append_nil]; exact HO.out⟩, HB⟩
      case round =>
        clear HO HB HC
        obtain ⟨j, HJ, HO, HB⟩ := hrel
        obtain ⟨A3, c3, rfl, hl3, hr3⟩ := Kd.R_reads HO.out
        have hlen : (x.upto 5 ++ List.replicate j (0 : Int)).length = 18 + j := by rw [List.length_append, x.upto_length, List.length_replicate]
        rw [hlen] at hl3 hr3
        have HLN := Aside0.mk hlen
        have HR3 := Aside0.mk hr3
        by_cases hj : j < 14
        · have hd : decide (((18 + j : Nat) : Int) < 32) = true := decide_eq_true (by omega)
          have hd2 : decide (18 + j < 32) = true := decide_eq_true (by omega)
          have HJJ := Aside0.mk hj
          obtain ⟨L, hL⟩ : ∃ L : List Int, L = x.upto 5 ++ List.replicate j 0 := ⟨_, rfl⟩
          have HLL := Aside0.mk hL
          rw [← hL] at HO hlen ⊢
          rw [hlen]
          rw [← hL] at HLN
          have HO2 := Aside0.mk (show Kd.R (Kd.int .u8) 5 wr w.heap.size (fun _ => True) (.slice A3 (18 + j) c3) L from by have := HO.out; rwa [HLN.out] at this)
          clear hL hl3 hr3 hlen HO HR3
          go_wp2_with (first | ((with_reducible refine gate_builtin (b := .append) (xs := #[.tmp 35, .tmp 36]) rfl ?_); at_builtin; refine Kd.R_append (Kd.int .u8) (w0 := w) w.heap.size rfl (.tmp 35) (.tmp 36) 27 5 (.int .u8 0) 1 rfl Try.underlying27 info5 rfl (by decide) (by omega) _ L 0 [.int .u8 0] (fun _ => True) (fun _ => False) rfl rfl rfl (fun _ hk => hk.elim) (fun _ _ => trivial) HO2.out HB.out HB.out.size (by rw [HLN.out]; have := HJJ.out; omega) ?_; intro v_ w_ ho_ hb_ hg_ hat_; have n1_ := Aside0.mk ho_; have n2_ := Aside0.mk hb_; clear ho_ hb_ hg_ hat_ HO2 HB; have HO := n1_; have HB := n2_; clear n1_ n2_))
          go_roundg (gk - 1)
          case measure => have := HJ.out; have := HJJ.out; omega
          case rel => exact ⟨j + 1, ⟨by have := HJ.out; have := HJJ.out; omega⟩, ⟨by rw [List.replicate_succ', ← List.append_assoc, ← HLL.out]; exact HO.out⟩, HB⟩
        · have h14 : j = 14 := by have := HJ.out; omega
          subst h14
          have hd : decide (((18 + 14 : Nat) : Int) < 32) = false := by decide
          rw [hlen]
          clear hj hl3 hr3 hlen HO
          go_wp2_with (first | ((with_reducible refine gate_dst (N := 39) rfl ?_); refine wl_val rfl (.string (strOfNums x.bytes)) (ex_string_row _ _ _ _ _ rfl Try.underlying27 Try.underlying5 Try.underlying9 A3 c3 x.bytes rfl HR3.out) ?_))
          go_ret
          exact ⟨rfl, HB.out⟩
end Go.Proofs.Ytpdobinpndfgfaa.Q
