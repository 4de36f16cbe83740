/- What the document's Put of a cell does. -/
import Derived.Test.YtklhpnalchgkaaaHGet
namespace Go.Proofs.Ytklhpnalchgkaaa.Q
open Go.RowKit Go.Proofs.YtklhpnalchgkaaaW.PrintWords Go.Proofs.YtklhpnalchgkaaaW.PrintLast Go.Proofs.YtklhpnalchgkaaaW.PrintMore Go.Proofs.Ytklhpnalchgkaaa.Pure
attribute [local go_sem] max2_int min2_int max_two min_two max_three min_three max_four min_four
set_option linter.unusedVariables false
set_option linter.unusedSimpArgs false
theorem rput8 (x : Int) (h : 0 ≤ x ∧ x < 18446744073709551616) : reliquaryref01_Put.f 9 x 8 = some (lebytes 8 x) := by
  rw [refput_eq 9 (by decide) x 8 h.1 h.2]
  rfl
set_option maxHeartbeats 2000000 in
set_option maxRecDepth 100000 in
theorem ref_Put.calls (x : CellV) (hx : x.Ok) (w : World) :
    Calls Try.prog 11 #[.agg x.cells] w fun e w' => ∃ v0_ : Value, e = .returned v0_ ∧ Kd.R (Kd.int .u8) 5 w' w.heap.size (fun _ => True) v0_ x.bytes ∧ Below w.heap.size w w' := by
  have HX := Aside0.mk hx
  clear hx
  go_enter Try.func11, Try.ntmps11
  go_wp2_with (first | ((with_reducible refine gate_op (N := .box 26 (.tmp 0)) rfl ?_); refine wl_box rfl 26 _ rfl (.agg x.cells) rfl ?_; intro g hg w1 hblk hb hsz; have HG := Aside0.mk hg; have HC := Aside0.mk (show CellAt w1 g x from hblk); have HB := Aside0.mk hb; clear hg hblk hb hsz))
  go_loopg [3, 4] 32 (fun gk v3 v4 w' => ∃ i : Nat, v4 = .int .i64 i ∧ Aside0 (gk + i = 32) ∧ Aside0 (Kd.R (Kd.int .u8) 5 w' w.heap.size (fun _ => True) v3 (x.root.take i)) ∧ Aside0 (CellAt w' g x) ∧ Aside0 (Below w.heap.size w w'))
  case atStart => exact ⟨0, rfl, ⟨rfl⟩, ⟨by simpa using Kd.R_nil _ _ _ _ _⟩, HC, HB⟩
  case round =>
    clear HC HB
    obtain ⟨i, rfl, HI, HO, HC, HB⟩ := hrel
    by_cases hi : i < 32
    · have hcell : wr.cell? ⟨g, i, none⟩ = some (.int .u8 (x.root.getD i 0)) := (HC.out.cell (i)).trans (x.at_root HX.out i hi)
      have hsn : x.root.take (i + 1) = x.root.take i ++ [x.root.getD i 0] := by
        rw [List.take_succ_eq_append_getElem (by rw [HX.out.root]; exact hi), List.getD_eq_getElem?_getD, List.getElem?_eq_getElem (by rw [HX.out.root]; exact hi)]
        rfl
      have HSN := Aside0.mk hsn
      have hil : (i : Int) < 32 := by omega
      have HIL := Aside0.mk hi
      obtain ⟨y, hy⟩ : ∃ y : Int, y = x.root.getD i 0 := ⟨_, rfl⟩
      have HY := Aside0.mk hy
      rw [← hy] at hcell
      clear hi hsn hy
      go_wp2_with (first | ((with_reducible refine gate_builtin (b := .append) (xs := #[.tmp 10, .tmp 15]) rfl ?_); at_builtin; refine Kd.R_append (Kd.int .u8) (w0 := w) w.heap.size rfl (.tmp 10) (.tmp 15) 27 5 (.int .u8 0) 1 rfl Try.underlying27 info5 rfl (by decide) (by omega) _ (x.root.take i) y [.int .u8 y] (fun _ => True) (fun _ => False) rfl rfl rfl (fun _ hk => hk.elim) (fun _ _ => trivial) HO.out HB.out HB.out.size (by simp only [List.length_append, List.length_take, HX.out.root, HX.out.tag, CellV.upto_length HX.out]; have := HIL.out; omega) ?_; intro v_ w_ ho_ hb_ hg_ hat_; have n0_ := Aside0.mk (show CellAt w_ g x from (hg_.block _ HC.out.lt (Kd.R_ne HO.out HC.out (by decide))).trans HC.out); have n1_ := Aside0.mk ho_; have n2_ := Aside0.mk hb_; clear ho_ hb_ hg_ hat_ HO HC HB; have HC := n0_; have HO := n1_; have HB := n2_; clear n0_ n1_ n2_))
      go_roundg (gk - 1)
      case measure => have := HI.out; have := HIL.out; omega
      case rel => exact ⟨i + 1, by go_num, ⟨by have := HI.out; have := HIL.out; omega⟩, ⟨by rw [HSN.out, ← HY.out]; exact HO.out⟩, HC, HB⟩
    · have h32 : i = 32 := by have := HI.out; omega
      subst h32
      clear hi
      rw [List.take_of_length_le (by rw [HX.out.root]; exact Nat.le_refl _)] at HO
      obtain ⟨nn1, nn2, nn3, nn4⟩ := HC.out.nums HX.out
      have HOx := Aside0.mk (show Kd.R (Kd.int .u8) 5 wr w.heap.size (fun _ => True) _ (x.upto 0) from HO.out)
      clear HO
      have HO := HOx
      clear HOx
      go_wp2_with (first | ((with_reducible refine gate_callee (f := 20) rfl ?_); refine goesL_ (some 20) rfl rfl Try.func20 (by kernel_rfl) rfl #[.int .u64 x.ver, .int .i64 8] rfl (by (try simp only [List.map_toArray, List.map_cons, List.map_nil]); first | done | rfl | (simp only [List.length_drop, List.length_take]; rfl)) ?_; (with_reducible refine (reliquaryref01_Put.calls 9 x.ver 8 _ _ (rput8 _ HX.out.ver)).mono ?_); rintro e w4 ⟨v4, rfl, ho4, hb4⟩; refine ⟨_, rfl, ?_⟩; have n0_ := Aside0.mk (show Below w.heap.size w w4 from HB.out.trans (hb4.mono HB.out.size)); have n1_ := Aside0.mk (HC.out.below hb4 HC.out.lt); obtain ⟨A4, c4, rfl, hl4, hc4⟩ := Kd.R_reads ho4; have HR := Aside0.mk hc4; have n2_ := Aside0.mk (Kd.R_below HO.out hb4); clear ho4 hb4 hl4 hc4 HO HC HB; have HB := n0_; have HC := n1_; have HO := n2_; clear n0_ n1_ n2_ nn1 nn2 nn3 nn4) | ((with_reducible refine gate_builtin (b := .append) (xs := #[.tmp 17, .tmp 20]) rfl ?_); at_builtin; refine Kd.R_append_row (Value.int .u8) (0 : Int) (h1 := fun _ => rfl) (w0 := w) w.heap.size rfl (.tmp 17) (.tmp 20) 27 5 (.int .u8 0) 1 rfl Try.underlying27 info5 rfl (by decide) _ (x.upto 0) (lebytes 8 (x.num 0)) A4 ((lebytes 8 (x.num 0)).length) c4 (fun _ => True) rfl rfl (fun _ _ => trivial) HO.out HR.out HB.out HB.out.size (by rw [x.upto_length HX.out, lebytes_length]; omega) ?_; intro v_ w_ ho_ hb_ hg_ hat_; have n0_ := Aside0.mk (show CellAt w_ g x from (hg_.block _ HC.out.lt (Kd.R_ne HO.out HC.out (by decide))).trans HC.out); have n1_ := Aside0.mk ho_; have n2_ := Aside0.mk hb_; clear ho_ hb_ hg_ hat_ HO HC HB HR; have HC := n0_; have HO := n1_; have HB := n2_; clear n0_ n1_ n2_; obtain ⟨nn1, nn2, nn3, nn4⟩ := HC.out.nums HX.out) | ((with_reducible refine gate_callee (f := 20) rfl ?_); refine goesL_ (some 25) rfl rfl Try.func20 (by kernel_rfl) rfl #[.int .u64 x.cnt, .int .i64 8] rfl (by (try simp only [List.map_toArray, List.map_cons, List.map_nil]); first | done | rfl | (simp only [List.length_drop, List.length_take]; rfl)) ?_; (with_reducible refine (reliquaryref01_Put.calls 9 x.cnt 8 _ _ (rput8 _ HX.out.cnt)).mono ?_); rintro e w4 ⟨v4, rfl, ho4, hb4⟩; refine ⟨_, rfl, ?_⟩; have n0_ := Aside0.mk (show Below w.heap.size w w4 from HB.out.trans (hb4.mono HB.out.size)); have n1_ := Aside0.mk (HC.out.below hb4 HC.out.lt); obtain ⟨A4, c4, rfl, hl4, hc4⟩ := Kd.R_reads ho4; have HR := Aside0.mk hc4; have n2_ := Aside0.mk (Kd.R_below HO.out hb4); clear ho4 hb4 hl4 hc4 HO HC HB; have HB := n0_; have HC := n1_; have HO := n2_; clear n0_ n1_ n2_ nn1 nn2 nn3 nn4) | ((with_reducible refine gate_builtin (b := .append) (xs := #[.tmp 22, .tmp 25]) rfl ?_); at_builtin; refine Kd.R_append_row (Value.int .u8) (0 : Int) (h1 := fun _ => rfl) (w0 := w) w.heap.size rfl (.tmp 22) (.tmp 25) 27 5 (.int .u8 0) 1 rfl Try.underlying27 info5 rfl (by decide) _ (x.upto 1) (lebytes 8 (x.num 1)) A4 ((lebytes 8 (x.num 1)).length) c4 (fun _ => True) rfl rfl (fun _ _ => trivial) HO.out HR.out HB.out HB.out.size (by rw [x.upto_length HX.out, lebytes_length]; omega) ?_; intro v_ w_ ho_ hb_ hg_ hat_; have n0_ := Aside0.mk (show CellAt w_ g x from (hg_.block _ HC.out.lt (Kd.R_ne HO.out HC.out (by decide))).trans HC.out); have n1_ := Aside0.mk ho_; have n2_ := Aside0.mk hb_; clear ho_ hb_ hg_ hat_ HO HC HB HR; have HC := n0_; have HO := n1_; have HB := n2_; clear n0_ n1_ n2_; obtain ⟨nn1, nn2, nn3, nn4⟩ := HC.out.nums HX.out) | ((with_reducible refine gate_callee (f := 20) rfl ?_); refine goesL_ (some 30) rfl rfl Try.func20 (by kernel_rfl) rfl #[.int .u64 x.start, .int .i64 8] rfl (by (try simp only [List.map_toArray, List.map_cons, List.map_nil]); first | done | rfl | (simp only [List.length_drop, List.length_take]; rfl)) ?_; (with_reducible refine (reliquaryref01_Put.calls 9 x.start 8 _ _ (rput8 _ HX.out.start)).mono ?_); rintro e w4 ⟨v4, rfl, ho4, hb4⟩; refine ⟨_, rfl, ?_⟩; have n0_ := Aside0.mk (show Below w.heap.size w w4 from HB.out.trans (hb4.mono HB.out.size)); have n1_ := Aside0.mk (HC.out.below hb4 HC.out.lt); obtain ⟨A4, c4, rfl, hl4, hc4⟩ := Kd.R_reads ho4; have HR := Aside0.mk hc4; have n2_ := Aside0.mk (Kd.R_below HO.out hb4); clear ho4 hb4 hl4 hc4 HO HC HB; have HB := n0_; have HC := n1_; have HO := n2_; clear n0_ n1_ n2_ nn1 nn2 nn3 nn4) | ((with_reducible refine gate_builtin (b := .append) (xs := #[.tmp 27, .tmp 30]) rfl ?_); at_builtin; refine Kd.R_append_row (Value.int .u8) (0 : Int) (h1 := fun _ => rfl) (w0 := w) w.heap.size rfl (.tmp 27) (.tmp 30) 27 5 (.int .u8 0) 1 rfl Try.underlying27 info5 rfl (by decide) _ (x.upto 2) (lebytes 8 (x.num 2)) A4 ((lebytes 8 (x.num 2)).length) c4 (fun _ => True) rfl rfl (fun _ _ => trivial) HO.out HR.out HB.out HB.out.size (by rw [x.upto_length HX.out, lebytes_length]; omega) ?_; intro v_ w_ ho_ hb_ hg_ hat_; have n0_ := Aside0.mk (show CellAt w_ g x from (hg_.block _ HC.out.lt (Kd.R_ne HO.out HC.out (by decide))).trans HC.out); have n1_ := Aside0.mk ho_; have n2_ := Aside0.mk hb_; clear ho_ hb_ hg_ hat_ HO HC HB HR; have HC := n0_; have HO := n1_; have HB := n2_; clear n0_ n1_ n2_; obtain ⟨nn1, nn2, nn3, nn4⟩ := HC.out.nums HX.out) | ((with_reducible refine gate_callee (f := 20) rfl ?_); refine goesL_ (some 35) rfl rfl Try.func20 (by kernel_rfl) rfl #[.int .u64 x.count, .int .i64 8] rfl (by (try simp only [List.map_toArray, List.map_cons, List.map_nil]); first | done | rfl | (simp only [List.length_drop, List.length_take]; rfl)) ?_; (with_reducible refine (reliquaryref01_Put.calls 9 x.count 8 _ _ (rput8 _ HX.out.count)).mono ?_); rintro e w4 ⟨v4, rfl, ho4, hb4⟩; refine ⟨_, rfl, ?_⟩; have n0_ := Aside0.mk (show Below w.heap.size w w4 from HB.out.trans (hb4.mono HB.out.size)); have n1_ := Aside0.mk (HC.out.below hb4 HC.out.lt); obtain ⟨A4, c4, rfl, hl4, hc4⟩ := Kd.R_reads ho4; have HR := Aside0.mk hc4; have n2_ := Aside0.mk (Kd.R_below HO.out hb4); clear ho4 hb4 hl4 hc4 HO HC HB; have HB := n0_; have HC := n1_; have HO := n2_; clear n0_ n1_ n2_ nn1 nn2 nn3 nn4) | ((with_reducible refine gate_builtin (b := .append) (xs := #[.tmp 32, .tmp 35]) rfl ?_); at_builtin; refine Kd.R_append_row (Value.int .u8) (0 : Int) (h1 := fun _ => rfl) (w0 := w) w.heap.size rfl (.tmp 32) (.tmp 35) 27 5 (.int .u8 0) 1 rfl Try.underlying27 info5 rfl (by decide) _ (x.upto 3) (lebytes 8 (x.num 3)) A4 ((lebytes 8 (x.num 3)).length) c4 (fun _ => True) rfl rfl (fun _ _ => trivial) HO.out HR.out HB.out HB.out.size (by rw [x.upto_length HX.out, lebytes_length]; omega) ?_; intro v_ w_ ho_ hb_ hg_ hat_; have n0_ := Aside0.mk (show CellAt w_ g x from (hg_.block _ HC.out.lt (Kd.R_ne HO.out HC.out (by decide))).trans HC.out); have n1_ := Aside0.mk ho_; have n2_ := Aside0.mk hb_; clear ho_ hb_ hg_ hat_ HO HC HB HR; have HC := n0_; have HO := n1_; have HB := n2_; clear n0_ n1_ n2_; obtain ⟨nn1, nn2, nn3, nn4⟩ := HC.out.nums HX.out))
      go_loopg [3, 5] 32 (fun gk v3 v5 w' => ∃ i : Nat, v5 = .int .i64 i ∧ Aside0 (gk + i = 32) ∧ Aside0 (Kd.R (Kd.int .u8) 5 w' w.heap.size (fun _ => True) v3 (x.upto 4 ++ x.tag.take i)) ∧ Aside0 (CellAt w' g x) ∧ Aside0 (Below w.heap.size w w'))
      case atStart => exact ⟨0, rfl, ⟨rfl⟩, ⟨by rw [List.take_zero, List.append_nil]; exact HO.out⟩, HC, HB⟩
      case round =>
        clear HC HB HO
        obtain ⟨i, rfl, HI, HO, HC, HB⟩ := hrel
        by_cases hi : i < 32
        · have hcell : wr.cell? ⟨g, 36 + i, none⟩ = some (.int .u8 (x.tag.getD i 0)) := (HC.out.cell (36 + i)).trans (x.at_tag HX.out i hi)
          have hsn : x.tag.take (i + 1) = x.tag.take i ++ [x.tag.getD i 0] := by
            rw [List.take_succ_eq_append_getElem (by rw [HX.out.tag]; exact hi), List.getD_eq_getElem?_getD, List.getElem?_eq_getElem (by rw [HX.out.tag]; exact hi)]
            rfl
          have HSN := Aside0.mk hsn
          have hil : (i : Int) < 32 := by omega
          have HIL := Aside0.mk hi
          obtain ⟨y, hy⟩ : ∃ y : Int, y = x.tag.getD i 0 := ⟨_, rfl⟩
          have HY := Aside0.mk hy
          rw [← hy] at hcell
          clear hi hsn hy
          go_wp2_with (first | ((with_reducible refine gate_builtin (b := .append) (xs := #[.tmp 41, .tmp 46]) rfl ?_); at_builtin; refine Kd.R_append (Kd.int .u8) (w0 := w) w.heap.size rfl (.tmp 41) (.tmp 46) 27 5 (.int .u8 0) 1 rfl Try.underlying27 info5 rfl (by decide) (by omega) _ (x.upto 4 ++ x.tag.take i) y [.int .u8 y] (fun _ => True) (fun _ => False) rfl rfl rfl (fun _ hk => hk.elim) (fun _ _ => trivial) HO.out HB.out HB.out.size (by simp only [List.length_append, List.length_take, HX.out.root, HX.out.tag, CellV.upto_length HX.out]; have := HIL.out; omega) ?_; intro v_ w_ ho_ hb_ hg_ hat_; have n0_ := Aside0.mk (show CellAt w_ g x from (hg_.block _ HC.out.lt (Kd.R_ne HO.out HC.out (by decide))).trans HC.out); have n1_ := Aside0.mk ho_; have n2_ := Aside0.mk hb_; clear ho_ hb_ hg_ hat_ HO HC HB; have HC := n0_; have HO := n1_; have HB := n2_; clear n0_ n1_ n2_))
          go_roundg (gk - 1)
          case measure => have := HI.out; have := HIL.out; omega
          case rel => exact ⟨i + 1, by go_num, ⟨by have := HI.out; have := HIL.out; omega⟩, ⟨by rw [HSN.out, ← HY.out, ← List.append_assoc]; exact HO.out⟩, HC, HB⟩
        · have h32 : i = 32 := by have := HI.out; omega
          subst h32
          clear hi
          rw [List.take_of_length_le (by rw [HX.out.tag]; exact Nat.le_refl _)] at HO
          go_wp2
          go_ret
          exact ⟨_, rfl, by rw [← x.bytes_eq]; exact HO.out, HB.out⟩
end Go.Proofs.Ytklhpnalchgkaaa.Q
