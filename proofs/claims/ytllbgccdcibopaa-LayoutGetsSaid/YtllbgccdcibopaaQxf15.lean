-- Written by this session's own program (ext_print.py) over the kit's print.py, hand proofs among it. Not trusted: Lean checks it.
import Derived.Test.YtllbgccdcibopaaQx0
import Derived.Test.YtllbgccdcibopaaQxf21
import Derived.Test.YtllbgccdcibopaaQxw
namespace Go.Proofs.Ytllbgccdcibopaa.Q
open Go.RowKit Go.Proofs.YtllbgccdcibopaaW.PrintWords Go.Proofs.YtllbgccdcibopaaW.PrintLast Go.Proofs.YtllbgccdcibopaaW.PrintMore
attribute [local go_sem] max2_int min2_int max_two min_two max_three min_three max_four min_four   -- for this text's walks alone
set_option linter.unusedVariables false
set_option linter.unusedSimpArgs false

-- EXT reliquaryref17_Put: function 15
/-! ### reliquaryref17_Put: function 15 -/
def reliquaryref17_Put.f (a0_0 : Int) (a0_1 : Int) (a0_2 : Int) (a0_3 : Int) : Option (ByteArray) := (reliquaryref01_Put.f 20 (IntKind.u64.wrap a0_0) 4).bind fun p1 => (reliquaryref01_Put.f 20 (IntKind.u64.wrap a0_1) 4).bind fun p2 => if p1.length = 4 ∧ p2.length = 4 then some (strOfNums ([82, 76, 81, 49] ++ p1 ++ p2 ++ List.replicate 148 0)) else none
set_option maxHeartbeats 8000000 in
set_option maxRecDepth 100000 in
theorem reliquaryref17_Put.calls (a0_0 : Int) (a0_1 : Int) (a0_2 : Int) (a0_3 : Int) (r : ByteArray) (w : World) (h : reliquaryref17_Put.f a0_0 a0_1 a0_2 a0_3 = some r) :
    Calls Try.prog 15 #[.agg #[.int .i64 a0_0, .int .i64 a0_1, .int .i64 a0_2, .int .i64 a0_3]] w fun e w' => e = .returned (.string r) ∧ Below w.heap.size w w' := by
  have hu := Try.underlying28
  have HB := Aside0.mk (Below.refl w.heap.size w)
  unfold reliquaryref17_Put.f at h
  obtain ⟨p1, hp1, h⟩ := Option.bind_eq_some_iff.mp h
  obtain ⟨p2, hp2, h⟩ := Option.bind_eq_some_iff.mp h
  by_cases c2 : p1.length = 4 ∧ p2.length = 4
  · rw [if_pos c2] at h
    obtain ⟨lit, hlit⟩ : ∃ l : List Int, l = [82, 76, 81, 49] := ⟨_, rfl⟩
    obtain ⟨B, hB⟩ : ∃ l : List Int, l = lit ++ p1 ++ p2 := ⟨_, rfl⟩
    rw [← hlit, ← hB] at h
    have hbl : B.length = 12 := by rw [hB, hlit]; simp [c2.1, c2.2]
    have hll : lit.length = 4 := by rw [hlit]; rfl
    have HR := Aside0.mk (Option.some.inj h)
    have HLIT := Aside0.mk hlit
    have HBE := Aside0.mk hB
    have HBL := Aside0.mk hbl
    have HLL := Aside0.mk hll
    have HC2 := Aside0.mk c2
    have HP1 := Aside0.mk hp1
    have HP2 := Aside0.mk hp2
    clear h hlit hB hbl c2 hp1 hp2 hll
    go_enter Try.func15, Try.ntmps15
    go_wp2_with (first | ((with_reducible refine gate_dst (N := 1) rfl ?_); refine box_event ?hg (N := 1) ?hd (cs := #[.int .i64 a0_0, .int .i64 a0_1, .int .i64 a0_2, .int .i64 a0_3]) (t := 28) ?hr ?_; (case hd => rfl); (case hg => rfl); (case hr => first | (go_simp; done) | (go_simp; rfl)); intro gb hg w6 hbox hb; have HB6 := Aside0.mk (below_step HB.out hb); have BK6 := Aside0.mk hbox; clear hb hbox hg) | ((with_reducible refine gate_dst (N := 4) rfl ?_); refine Kd.event_run rfl (v := .slice (some ⟨w6.heap.size, 0, none⟩) lit.length lit.length) (w1 := w6.alloc (.cells (encs (Value.int .u8) lit).toArray 5)) (by rw [HLIT.out]; go_simp; rfl) ?_; have HL6 := Aside0.mk (SeenRow.lit w6 w.heap.size 5 lit HB6.out.size (by rw [HLL.out]; decide))) | ((with_reducible refine gate_dst (N := 5) rfl ?_); obtain ⟨w8, hrun, hl8, hb8, hsz, hk⟩ := HL6.out.mark (P := Try.prog) Try.underlying35 Try.underlying5 (below_alloc HB6.out _); refine Kd.event_run rfl (v := .slice (some ⟨w6.heap.size, 0, none⟩) lit.length lit.length) (w1 := w8) (by first | (go_simp; done) | (go_simp; rfl)) ?_; have BK8 := Aside0.mk ((hk gb (by intro e_; have e2_ : gb = w6.heap.size := (by simpa [Value.ownBlock] using e_); have := blk_lt BK6.out; omega)).trans (blk_alloc BK6.out _)); have hc0 : w8.cell? ⟨gb, 0, none⟩ = some (.int .i64 a0_0) := (blk_cell BK8.out 0).trans rfl; have HL8 := Aside0.mk hl8; have HB8 := Aside0.mk hb8; clear hrun hl8 hb8 hsz hk) | ((with_reducible refine gate_dst (N := 10) rfl ?_); refine goesL_ (some 10) rfl rfl Try.func21 (by kernel_rfl) rfl #[.int .u64 (IntKind.u64.wrap a0_0), .int .i64 4] rfl (by (try simp only [List.map_toArray, List.map_cons, List.map_nil]); first | done | rfl | (simp only [List.length_drop, List.length_take]; rfl)) ?_; (with_reducible refine (reliquaryref01_Put.calls 20 (IntKind.u64.wrap a0_0) 4 p1 _ HP1.out).mono ?_); rintro e w9 ⟨v9, rfl, ho9, hb9⟩; refine ⟨_, rfl, ?_⟩; obtain ⟨A9, c9, e9, l9, g9⟩ := Kd.R_reads ho9; subst e9; have HC9 := Aside0.mk g9; have HL9 := Aside0.mk (HL8.out.below hb9); have HB9 := Aside0.mk (below_step HB8.out hb9); have BK9 := Aside0.mk (blk_below BK8.out hb9); clear ho9 hb9 l9 g9) | ((with_reducible refine gate_dst (N := 11) rfl ?_); obtain ⟨A8, c8, e8, l8, g8⟩ := HL9.out.reads; injection e8 with ea8 en8 ec8; subst ec8; refine ext_append_grows (w0 := w) w.heap.size rfl (.tmp 6) (.tmp 10) 35 5 rfl Try.underlying35 info5 (some ⟨w6.heap.size, 0, none⟩) A9 lit.length lit.length p1.length c9 lit p1 rfl rfl (by rw [ea8]; exact g8) HC9.out (by rw [HLL.out]; decide) (by rw [HC2.out.1]; decide) (by have := HC2.out.1; omega) (by have := HLL.out; have := HC2.out.1; omega) HB9.out HB9.out.size ?_; intro v10 w10 ho10 hb10 hb10'; have HO10 := Aside0.mk ho10; have HB10 := Aside0.mk hb10; have BK10 := Aside0.mk (blk_below BK9.out hb10'); have hc1 : w10.cell? ⟨gb, 1, none⟩ = some (.int .i64 a0_1) := (blk_cell BK10.out 1).trans rfl; clear ho10 hb10 hb10' ea8 en8 l8 g8 hc0) | ((with_reducible refine gate_dst (N := 16) rfl ?_); refine goesL_ (some 16) rfl rfl Try.func21 (by kernel_rfl) rfl #[.int .u64 (IntKind.u64.wrap a0_1), .int .i64 4] rfl (by (try simp only [List.map_toArray, List.map_cons, List.map_nil]); first | done | rfl | (simp only [List.length_drop, List.length_take]; rfl)) ?_; (with_reducible refine (reliquaryref01_Put.calls 20 (IntKind.u64.wrap a0_1) 4 p2 _ HP2.out).mono ?_); rintro e w11 ⟨v11, rfl, ho11, hb11⟩; refine ⟨_, rfl, ?_⟩; obtain ⟨A11, c11, e11, l11, g11⟩ := Kd.R_reads ho11; subst e11; have HC11 := Aside0.mk g11; have HO11 := Aside0.mk (Kd.R_below HO10.out hb11); have HB11 := Aside0.mk (below_step HB10.out hb11); clear ho11 hb11 l11 g11 hc1) | ((with_reducible refine gate_dst (N := 17) rfl ?_); refine Kd.R_append_row (Value.int .u8) (0 : Int) (h1 := fun _ => rfl) (w0 := w) w.heap.size rfl (.tmp 12) (.tmp 16) 35 5 (.int .u8 0) 1 rfl Try.underlying35 info5 rfl (by decide) v10 (lit ++ p1) p2 A11 p2.length c11 (fun _ => True) rfl rfl (fun _ _ => trivial) HO11.out HC11.out HB11.out HB11.out.size (by have := HLL.out; have := HC2.out; simp; omega) ?_; intro v12 w12 ho12 hb12 hg12 hat12; clear hg12 hat12; rw [← HBE.out] at ho12; have HO12 := Aside0.mk ho12; have HB12 := Aside0.mk hb12; clear ho12 hb12))
    go_loopg [3] 148 (fun gk v3 w' => ∃ (i : Nat), Aside0 (gk + i = 148) ∧ Aside0 (Kd.R (Kd.int .u8) 5 w' w.heap.size (fun _ => True) v3 (B ++ List.replicate i 0)) ∧ Aside0 (Below w.heap.size w w'))
    case atStart => exact ⟨0, ⟨rfl⟩, ⟨by rw [List.replicate_zero, List.append_nil]; exact HO12.out⟩, HB12⟩
    case round =>
      obtain ⟨i, HI, HO, HBr⟩ := hrel
      obtain ⟨X, hX⟩ : ∃ X : List Int, X = B ++ List.replicate i 0 := ⟨_, rfl⟩
      have hxl : X.length = 12 + i := by rw [hX, List.length_append, HBL.out, List.length_replicate]
      rw [← hX] at HO
      obtain ⟨AX, cX, eX, lX, gX⟩ := Kd.R_reads HO.out
      subst eX
      by_cases c3 : i < 148
      · have hX2 : X ++ [0] = B ++ List.replicate (i + 1) 0 := by rw [hX, List.append_assoc, List.replicate_succ']
        have HX2 := Aside0.mk hX2
        have hb1 : X.length < 160 := by omega
        have hb2 : decide ((X.length : Int) < 160) = true := decide_eq_true (by omega)
        have HXL := Aside0.mk hxl
        have c3' := Aside0.mk c3
        clear hX hX2 hxl c3 lX gX
        go_wp2_with (first | ((with_reducible refine gate_dst (N := 23) rfl ?_); refine Kd.R_append_row (Value.int .u8) (0 : Int) (h1 := fun _ => rfl) (w0 := w) w.heap.size rfl (.tmp 21) (.tmp 22) 35 5 (.int .u8 0) 1 rfl Try.underlying35 info5 rfl (by decide) (.slice AX X.length cX) X [0] (some ⟨wr.heap.size, 0, none⟩) 1 1 (fun _ => True) rfl rfl (fun _ _ => trivial) (Kd.R_alloc HO.out _) (ext_C_one .u8 5 wr 0) (below_alloc HBr.out _) (by have := HBr.out.size; simp; omega) (by have := HXL.out; have := c3'.out; omega) ?_; intro v5 w5 ho5 hb5 hg5 hat5; clear hg5 hat5; rw [HX2.out] at ho5; have HO5 := Aside0.mk ho5; have HB5 := Aside0.mk hb5; clear ho5 hb5))
        go_roundg (gk - 1)
        case measure => have := HI.out; have := c3'.out; omega
        case rel => exact ⟨i + 1, ⟨by have := HI.out; have := c3'.out; omega⟩, HO5, HB5⟩
      · have hi : i = 148 := by have := HI.out; omega
        subst hi
        have hr : strOfNums X = r := by rw [hX, HR.out]
        subst hr
        have hb1 : ¬ X.length < 160 := by omega
        have hb2 : decide ((X.length : Int) < 160) = false := decide_eq_false (by omega)
        have hcv := Kd.C_string (P := Try.prog) (A := AX) (c := cX) Try.underlying35 Try.underlying5 Try.underlying9 gX
        clear hX hxl c3 lX gX
        go_wp2
        go_ret
        exact ⟨rfl, HBr.out⟩
  · rw [if_neg c2] at h
    exact absurd h (by simp)

end Go.Proofs.Ytllbgccdcibopaa.Q
