-- Written by this session's own program (ext_print.py) over the kit's print.py, hand proofs among it. Not trusted: Lean checks it.
import Derived.Test.YtjpkjakdhbnehaaQx0
import Derived.Test.YtjpkjakdhbnehaaQxf35
import Derived.Test.YtjpkjakdhbnehaaQxw
namespace Go.Proofs.Ytjpkjakdhbnehaa.Q
open Go.RowKit Go.Proofs.YtjpkjakdhbnehaaW.PrintWords Go.Proofs.YtjpkjakdhbnehaaW.PrintLast Go.Proofs.YtjpkjakdhbnehaaW.PrintMore
attribute [local go_sem] max2_int min2_int max_two min_two max_three min_three max_four min_four   -- for this text's walks alone
set_option linter.unusedVariables false
set_option linter.unusedSimpArgs false

-- EXT word_Get: function 27
/-! ### word_Get: function 27 -/
def word_Get.f (l0 : List Int) (a1 : Int) (a2 : Int) : Option (Int × Int) := (word_inside.f l0 a1 a2).bind fun t => if t = 0 then (if 0 ≤ a1 ∧ 1 ≤ a2 ∧ a2 ≤ 8 ∧ a1 + a2 ≤ l0.length ∧ l0.length ≤ 140737488351232 ∧ u8s ((l0.take (a1 + a2).toNat).drop a1.toNat) then some (leval ((l0.take (a1 + a2).toNat).drop a1.toNat), 0) else none) else some (0, t)
set_option maxHeartbeats 8000000 in
set_option maxRecDepth 100000 in
theorem word_Get.calls (A0 : Option Addr) (c0 : Nat) (l0 : List Int) (a1 : Int) (a2 : Int) (r1 : Int) (r2 : Int) (w : World) (hr0 : Kd.C (Kd.int .u8) w A0 l0.length l0) (hc0 : l0.length ≤ c0) (h : word_Get.f l0 a1 a2 = some (r1, r2)) :
    Calls Try.prog 27 #[.slice A0 l0.length c0, .int .i64 a1, .int .i64 a2] w fun e w' => e = .returned (.tuple #[.int .u64 r1, .int .i64 r2]) ∧ Drawn0 w w' := by
  have HR0 := Aside0.mk hr0
  have HC0 := Aside0.mk hc0
  clear hr0 hc0
  unfold word_Get.f at h
  obtain ⟨t, hin, h⟩ := Option.bind_eq_some_iff.mp h
  have HIN := Aside0.mk hin
  clear hin
  by_cases c1 : t = 0
  · rw [if_pos c1] at h
    subst c1
    obtain ⟨seg, hseg⟩ : ∃ s : List Int, s = (l0.take (a1 + a2).toNat).drop a1.toNat := ⟨_, rfl⟩
    by_cases c2 : 0 ≤ a1 ∧ 1 ≤ a2 ∧ a2 ≤ 8 ∧ a1 + a2 ≤ l0.length ∧ l0.length ≤ 140737488351232 ∧ u8s ((l0.take (a1 + a2).toNat).drop a1.toNat)
    · rw [if_pos c2, ← hseg] at h
      have h2 := Option.some.inj h
      obtain ⟨hr1, rfl⟩ := (Prod.mk.injEq _ _ _ _).mp h2
      have hw : wrap64 (a1 + a2) = a1 + a2 := by unfold wrap64; omega
      obtain ⟨i0, hi0, _, hsz0, _⟩ := info_parts info5
      obtain ⟨A9, hcut, hA9, hC9⟩ := print_mid_of (P := Try.prog) (Value.int .u8) 0 23 5 .i64 .i64 Try.underlying23 hi0 hsz0 A0 c0 l0 a1 (a1 + a2) c2.1 (by omega) (by omega) HC0.out
      have hread := Kd.C_of_reads (h1 := fun _ => rfl) (hA9 _ (Kd.reads_of_C HR0.out))
      have hlen : seg.length ≤ 8 := by rw [hseg, List.length_drop, List.length_take]; omega
      have hus := c2.2.2.2.2.2
      rw [← hseg] at hcut hread hus
      rw [← hw] at hcut
      have HRS := Aside0.mk hread
      have HUS := Aside0.mk hus
      have HLEN := Aside0.mk hlen
      have HR1 := Aside0.mk hr1
      have b1 := eq_true c2.1
      have b2 : decide (0 ≤ a1) = true := decide_eq_true c2.1
      clear h h2 hr1 c2 hw hi0 hsz0 hA9 hC9 hread hlen hseg hus
      go_enter Try.func27, Try.ntmps27
      go_wp2_with (first | ((with_reducible refine gate_callee (f := 35) rfl ?_); refine goesL_ (some 15) rfl rfl Try.func35 (by kernel_rfl) rfl #[.slice A0 l0.length c0, .int .i64 a1, .int .i64 a2] rfl (by (try simp only [List.map_toArray, List.map_cons, List.map_nil]); first | done | rfl | (simp only [List.length_drop, List.length_take]; rfl)) ?_; (with_reducible refine (word_inside.calls _ _ l0 a1 a2 0 _ HR0.out HC0.out HIN.out).mono ?_); rintro e w' ⟨rfl, ⟨nd, rfl⟩⟩; refine ⟨_, rfl, ?_⟩))
      go_loopg [9, 26] seg.length (fun gk v9 v26 w' => ∃ (x i : Int), v9 = .int .u64 x ∧ v26 = .int .i64 i ∧ Aside0 (0 ≤ i ∧ (gk : Int) + i = seg.length) ∧ Aside0 (x = leval (seg.take i.toNat)) ∧ Drawn0 w w')
      case atStart => exact ⟨0, 0, rfl, rfl, ⟨by omega⟩, ⟨by simp [leval]⟩, by repeat (first | exact Drawn0.refl _ | apply Drawn0.step)⟩
      case round =>
        obtain ⟨x, i, rfl, rfl, HX, HA, ⟨m1, rfl⟩⟩ := hrel
        by_cases c2 : i < (seg.length : Int)
        · have p1 := HX.out.1
          have hx := Aside0.mk (Kd.at_int HRS.out i p1 c2)
          obtain ⟨ad, e1, hcell⟩ := hx.out
          have hst := leval_step seg HUS.out HLEN.out i p1 c2
          rw [← HA.out] at hst
          have c2b : decide (i < (seg.length : Int)) = true := decide_eq_true c2
          have HW := Aside0.mk (show wrap64 (i + 1) = i + 1 from by have := HLEN.out; unfold wrap64; omega)
          obtain ⟨ji13, hji13⟩ : ∃ j_ : Int, (IntKind.u64.wrap (wrap64 (8 * i))) = j_ := ⟨_, rfl⟩
          rw [hji13] at hst
          have c14 : 0 ≤ ji13 := by
            rw [← hji13]
            simp [IntKind.wrap, IntKind.bits, IntKind.signed]
            omega
          obtain ⟨ji15, hji15⟩ : ∃ j_ : Int, (shl .u64 (IntKind.u64.wrap (rd seg i)) ji13) = j_ := ⟨_, rfl⟩
          rw [hji15] at hst
          have HST := Aside0.mk hst
          have c14b0 := eq_true c14
          have c14b1 : decide (0 ≤ (ji13)) = true := decide_eq_true c14
          have hji15_ : (IntKind.u64.wrap ((IntKind.u64.wrap (rd seg i)) * 2 ^ min (ji13).toNat 64)) = ji15 := hji15
          have hji15z : (ji13) ≤ 64 → (IntKind.u64.wrap ((IntKind.u64.wrap (rd seg i)) * 2 ^ (ji13).toNat)) = ji15 := shl_small hji15
          cases e1
          have c2' := Aside0.mk c2
          have p1' : decide (0 ≤ i) = true := decide_eq_true p1
          have p2 := eq_true p1
          have q2 := eq_true c2
          clear hx hst HA c2 p1 c14
          go_wp2
          go_roundg (gk - 1)
          case measure => have := HX.out; have := c2'.out; omega
          case rel => exact ⟨Go.bits .or .u64 x ji15, i + 1, (by first | rfl | (simp; done) | (simp only [← hji15] <;> (first | rfl | simp)) | (simp [*]; done)), by rw [HW.out], ⟨by have := HX.out; have := c2'.out; omega⟩, HST, by repeat (first | exact Drawn0.refl _ | apply Drawn0.step)⟩
        · have hend : x = r1 := by rw [HA.out, ← HR1.out, List.take_of_length_le (by have := HX.out; omega)]
          subst hend
          have c2b : decide (i < (seg.length : Int)) = false := decide_eq_false c2
          clear c2 HA
          go_wp2
          go_ret2
          exact ⟨rfl, by repeat (first | exact Drawn0.refl _ | apply Drawn0.step)⟩
    · rw [if_neg c2] at h
      exact absurd h (by simp)
  · rw [if_neg c1] at h
    have h2 := Option.some.inj h
    obtain ⟨rfl, rfl⟩ := (Prod.mk.injEq _ _ _ _).mp h2
    have c1b1 : (t != 0) = true := bne_iff_ne.mpr c1
    have c1b0 : (t == 0) = false := beq_eq_false_iff_ne.mpr c1
    clear h h2 c1
    go_enter Try.func27, Try.ntmps27
    go_wp2_with (first | ((with_reducible refine gate_callee (f := 35) rfl ?_); refine goesL_ (some 15) rfl rfl Try.func35 (by kernel_rfl) rfl #[.slice A0 l0.length c0, .int .i64 a1, .int .i64 a2] rfl (by (try simp only [List.map_toArray, List.map_cons, List.map_nil]); first | done | rfl | (simp only [List.length_drop, List.length_take]; rfl)) ?_; (with_reducible refine (word_inside.calls _ _ l0 a1 a2 t _ HR0.out HC0.out HIN.out).mono ?_); rintro e w' ⟨rfl, ⟨nd, rfl⟩⟩; refine ⟨_, rfl, ?_⟩))
    go_ret2
    exact ⟨rfl, by repeat (first | exact Drawn0.refl _ | apply Drawn0.step)⟩

end Go.Proofs.Ytjpkjakdhbnehaa.Q
