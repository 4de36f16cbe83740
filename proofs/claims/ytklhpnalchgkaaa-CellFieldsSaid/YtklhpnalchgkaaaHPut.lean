/- What cell.Put does. -/
import Derived.Test.YtklhpnalchgkaaaHCell
namespace Go.Proofs.Ytklhpnalchgkaaa.Q
open Go.RowKit Go.Proofs.YtklhpnalchgkaaaW.PrintWords Go.Proofs.YtklhpnalchgkaaaW.PrintLast Go.Proofs.YtklhpnalchgkaaaW.PrintMore Go.Proofs.Ytklhpnalchgkaaa.Pure
attribute [local go_sem] max2_int min2_int max_two min_two max_three min_three max_four min_four
set_option linter.unusedVariables false
set_option linter.unusedSimpArgs false
set_option maxHeartbeats 1000000 in
set_option maxRecDepth 100000 in
theorem cell_Put.calls (x : CellV) (hx : x.Ok) (w : World) :
    Calls Try.prog 8 #[.agg x.cells] w fun e w' => ∃ v0_ : Value, e = .returned v0_ ∧ Kd.R (Kd.int .u8) 5 w' w.heap.size (fun _ => True) v0_ x.bytes ∧ Below w.heap.size w w' := by
  have HX := Aside0.mk hx
  have HB := Aside0.mk (Below.refl w.heap.size w)
  have hcl := slices_Clone_byte_byte.calls (some ⟨w.heap.size, 0, none⟩) 32 x.root x.root _ ((CellAt.new w x).root HX.out) (by rw [HX.out.root]; decide) (clone_eq _ (by rw [HX.out.root]; decide))
  rw [HX.out.root] at hcl
  have HCL := Aside0.mk hcl
  clear hx hcl
  go_enter Try.func8, Try.ntmps8
  go_wp2_with (go_at_call 16; refine HCL.out.mono ?_; rintro e w1 ⟨v1, rfl, ho, hb⟩; have HO := Aside0.mk ho; have HC := Aside0.mk ((CellAt.new w x).below hb (by simp)); have HBB := Aside0.mk hb; obtain ⟨n1, n2, n3, n4⟩ := HC.out.nums HX.out; clear ho hb)
  have HO1 := Aside0.mk (Kd.R_lower HO.out (show w.heap.size ≤ _ by simp))
  have HB1 := Aside0.mk (show Below w.heap.size w w1 from ((Below.refl _ _).alloc (Nat.le_refl _) _).trans (HBB.out.mono (by simp)))
  clear HO HBB HB HCL n1 n2 n3 n4
  go_loopg [3, 18] 4 (fun gk v3 v18 w' => ∃ i : Nat, v18 = .int .i64 i ∧ Aside0 (gk + i = 4) ∧ Aside0 (Kd.R (Kd.int .u8) 5 w' w.heap.size (fun _ => True) v3 (x.upto i)) ∧ Aside0 (CellAt w' w.heap.size x) ∧ Aside0 (Below w.heap.size w w'))
  case atStart => exact ⟨0, rfl, ⟨rfl⟩, HO1, HC, HB1⟩
  case round =>
    clear HO1 HC HB1
    obtain ⟨i, rfl, HI, HO, HC, HB⟩ := hrel
    by_cases hi : i < 4
    · have hn : ∃ y : Int, x.num i = y ∧ 0 ≤ y := by
        have h1 := HX.out.ver; have h2 := HX.out.cnt; have h3 := HX.out.start; have h4 := HX.out.count
        match i, hi with
        | 0, _ => exact ⟨_, rfl, h1.1⟩
        | 1, _ => exact ⟨_, rfl, h2.1⟩
        | 2, _ => exact ⟨_, rfl, h3.1⟩
        | 3, _ => exact ⟨_, rfl, h4.1⟩
      obtain ⟨y, hy, hy0⟩ := hn
      have ix : ∀ W : World, (Instr.index 43 (.agg #[.int .u64 x.ver, .int .u64 x.cnt, .int .u64 x.start, .int .u64 x.count]) (.int .i64 i)).run Try.prog W = .ok (.int .u64 y) W := by
        rw [← hy]
        match i, hi with
        | 0, _ => exact fun _ => by kernel_rfl
        | 1, _ => exact fun _ => by kernel_rfl
        | 2, _ => exact fun _ => by kernel_rfl
        | 3, _ => exact fun _ => by kernel_rfl
      have HY := Aside0.mk hy0
      have HYY := Aside0.mk hy
      have HU := Aside0.mk (x.upto_length HX.out i)
      have hil : (i : Int) < 4 := by omega
      have hib : decide ((i : Int) < 4) = true := decide_eq_true hil
      have HIL := Aside0.mk hi
      clear hy hy0 hi
      go_wp2_with (first | (go_at_call 17; (with_reducible refine (word_Put.calls 9 y 8 _ _ (put8 y HY.out)).mono ?_); rintro e w4 ⟨v4, rfl, ho4, hb4⟩; have HB4 := Aside0.mk (show Below w.heap.size w w4 from HB.out.trans (hb4.mono HB.out.size)); have HC4 := Aside0.mk (HC.out.below hb4 HC.out.lt); obtain ⟨A4, c4, rfl, hl4, hc4⟩ := Kd.R_reads ho4; have HR4 := Aside0.mk hc4; have HOO := Aside0.mk (Kd.R_below HO.out hb4); clear ho4 hb4 hl4 hc4) | ((with_reducible refine gate_builtin (b := .append) (xs := #[.tmp 21, .tmp 23]) rfl ?_); at_builtin; go_loud (refine Kd.R_append_row (Value.int .u8) (0 : Int) (h1 := fun _ => rfl) (w0 := w) w.heap.size rfl (.tmp 21) (.tmp 23) 27 5 (.int .u8 0) 1 rfl Try.underlying27 info5 rfl (by decide) _ (x.upto i) (lebytes 8 y) A4 (lebytes 8 y).length c4 (fun _ => True) rfl rfl (fun _ _ => trivial) HOO.out HR4.out HB4.out HB4.out.size (by rw [HU.out, lebytes_length]; have := HIL.out; omega) ?_; intro v5 w5 ho5 hb5 hg5 hat5; have HC5 := Aside0.mk (show CellAt w5 w.heap.size x from (hg5.block _ HC4.out.lt (Kd.R_ne HOO.out HC4.out (by decide))).trans HC4.out); have HO5 := Aside0.mk ho5; have HB5 := Aside0.mk hb5; clear ho5 hb5 hg5 hat5 HO HOO HC HC4 HB HB4 HR4)))
      go_roundg (gk - 1)
      case measure => have := HI.out; have := HIL.out; omega
      case rel => exact ⟨i + 1, by go_num, ⟨by have := HI.out; have := HIL.out; omega⟩, ⟨by rw [CellV.upto, HYY.out]; exact HO5.out⟩, HC5, HB5⟩
    · have h4 : i = 4 := by have := HI.out; omega
      subst h4
      have hib : decide (((4 : Nat) : Int) < 4) = false := by decide
      have HU := Aside0.mk (x.upto_length HX.out 4)
      have HT := Aside0.mk (show Kd.C (Kd.int .u8) wr (some ⟨w.heap.size, 36, none⟩) 32 x.tag from by have := HC.out.tag HX.out; rwa [HX.out.tag] at this)
      clear hi
      go_wp2_with (first | ((with_reducible refine gate_builtin (b := .append) (xs := #[.tmp 26, .tmp 28]) rfl ?_); at_builtin; go_loud (refine Kd.R_append_row (Value.int .u8) (0 : Int) (h1 := fun _ => rfl) (w0 := w) w.heap.size rfl (.tmp 26) (.tmp 28) 27 5 (.int .u8 0) 1 rfl Try.underlying27 info5 rfl (by decide) _ (x.upto 4) x.tag (some ⟨w.heap.size, 36, none⟩) 32 32 (fun _ => True) rfl rfl (fun _ _ => trivial) HO.out HT.out HB.out HB.out.size (by rw [HU.out]; omega) ?_; intro v5 w5 ho5 hb5 hg5 hat5; have HO5 := Aside0.mk ho5; have HB5 := Aside0.mk hb5; clear ho5 hb5 hg5 hat5 HO HC HB HT)))
      go_ret
      exact ⟨_, rfl, by rw [← x.bytes_eq]; exact HO5.out, HB5.out⟩
end Go.Proofs.Ytklhpnalchgkaaa.Q
