-- Written by this session's own program (ext_print.py) over the kit's print.py, hand proofs among it. Not trusted: Lean checks it.
import Derived.Test.YtgdgidlbpeimoaaQx0
import Derived.Test.YtgdgidlbpeimoaaQxf11
import Derived.Test.YtgdgidlbpeimoaaQxf15
namespace Go.Proofs.Ytgdgidlbpeimoaa.Q
open Go.RowKit Go.Proofs.YtgdgidlbpeimoaaW.PrintWords Go.Proofs.YtgdgidlbpeimoaaW.PrintLast Go.Proofs.YtgdgidlbpeimoaaW.PrintMore
attribute [local go_sem] max2_int min2_int max_two min_two max_three min_three max_four min_four   -- for this text's walks alone
set_option linter.unusedVariables false
set_option linter.unusedSimpArgs false

-- EXT reliquaryref01_Set: function 13
/-! ### reliquaryref01_Set: function 13 -/
def reliquaryref01_Set.f (l0 : List Int) (a1 : Int) (a2 : Int) (a3 : Int) : Option (List Int × Int) := (reliquaryref01_Get.f 20 l0 a1 a2).bind fun t => if t.2 = 0 then ((reliquaryref01_Put.f 20 a3 a2).bind fun p => if l0.length ≤ 140737488351232 ∧ p.length ≤ 8 ∧ 0 ≤ a1 ∧ a1 ≤ l0.length ∧ 0 ≤ a2 ∧ a1 + a2 ≤ l0.length then some (l0.take a1.toNat ++ (p ++ l0.drop (a1 + a2).toNat), 0) else none) else some ([], t.2)
set_option maxHeartbeats 8000000 in
set_option maxRecDepth 100000 in
theorem reliquaryref01_Set.calls (A0 : Option Addr) (c0 : Nat) (l0 : List Int) (a1 : Int) (a2 : Int) (a3 : Int) (r1 : List Int) (r2 : Int) (w : World) (hr0 : Kd.C (Kd.int .u8) w A0 l0.length l0) (hc0 : l0.length ≤ c0) (h : reliquaryref01_Set.f l0 a1 a2 a3 = some (r1, r2)) :
    Calls Try.prog 13 #[.slice A0 l0.length c0, .int .i64 a1, .int .i64 a2, .int .u64 a3] w fun e w' => ∃ v0_ : Value, e = .returned (.tuple #[v0_, .int .i64 r2]) ∧ Kd.R (Kd.int .u8) 5 w' w.heap.size (fun _ => True) v0_ r1 ∧ Below w.heap.size w w' := by
  have HB := Aside0.mk (Below.refl w.heap.size w)
  have HR0 := Aside0.mk hr0
  have HC0 := Aside0.mk hc0
  clear hr0 hc0
  unfold reliquaryref01_Set.f at h
  obtain ⟨⟨t1, t⟩, hin, h⟩ := Option.bind_eq_some_iff.mp h
  replace h : (if t = 0 then ((reliquaryref01_Put.f 20 a3 a2).bind fun p => if l0.length ≤ 140737488351232 ∧ p.length ≤ 8 ∧ 0 ≤ a1 ∧ a1 ≤ l0.length ∧ 0 ≤ a2 ∧ a1 + a2 ≤ l0.length then some (l0.take a1.toNat ++ (p ++ l0.drop (a1 + a2).toNat), 0) else none) else some ([], t)) = some (r1, r2) := h
  have HIN := Aside0.mk hin
  clear hin
  by_cases c1 : t = 0
  · rw [if_pos c1] at h
    subst c1
    obtain ⟨p, hp, h⟩ := Option.bind_eq_some_iff.mp h
    have HP := Aside0.mk hp
    clear hp
    by_cases c2 : l0.length ≤ 140737488351232 ∧ p.length ≤ 8 ∧ 0 ≤ a1 ∧ a1 ≤ l0.length ∧ 0 ≤ a2 ∧ a1 + a2 ≤ l0.length
    · rw [if_pos c2] at h
      have h2 := Option.some.inj h
      obtain ⟨hr1, rfl⟩ := (Prod.mk.injEq _ _ _ _).mp h2
      obtain ⟨s1, hs1⟩ : ∃ s : List Int, s = l0.take a1.toNat := ⟨_, rfl⟩
      obtain ⟨s2, hs2⟩ : ∃ s : List Int, s = l0.drop (a1 + a2).toNat := ⟨_, rfl⟩
      rw [← hs1, ← hs2] at hr1
      have hl1 : s1.length ≤ 140737488351232 := by rw [hs1, List.length_take]; omega
      have hl2 : s2.length ≤ 140737488351232 := by rw [hs2, List.length_drop]; omega
      have hl3 : s1.length + p.length + s2.length ≤ 140737488355328 := by rw [hs1, hs2, List.length_take, List.length_drop]; omega
      have hw : wrap64 (a1 + a2) = a1 + a2 := by unfold wrap64; omega
      obtain ⟨i0, hi0, _, hsz0, _⟩ := info_parts info5
      obtain ⟨hcut1, hA1, hC1⟩ := print_take_of (P := Try.prog) (Value.int .u8) 0 22 5 .i64 Try.underlying22 hi0 hsz0 A0 c0 l0 a1 c2.2.2.1 c2.2.2.2.1 HC0.out
      obtain ⟨A9, hcut2, hA2, hC2⟩ := print_drop_of (P := Try.prog) (Value.int .u8) 0 22 5 .i64 Try.underlying22 hi0 hsz0 A0 c0 l0 (a1 + a2) (by omega) c2.2.2.2.2.2 HC0.out
      have hread1 := Kd.C_of_reads (h1 := fun _ => rfl) (hA1 _ (Kd.reads_of_C HR0.out))
      have hread2 := Kd.C_of_reads (h1 := fun _ => rfl) (hA2 _ (Kd.reads_of_C HR0.out))
      rw [← hs1] at hcut1 hread1
      rw [← hs2] at hcut2 hread2
      rw [← hw] at hcut2
      have HR1 := Aside0.mk hread1
      have HR2 := Aside0.mk hread2
      have HZ := Aside0.mk hr1
      have HL := Aside0.mk hl3
      clear h h2 hr1 c2 hw hi0 hsz0 hA1 hC1 hA2 hC2 hread1 hread2 hs1 hs2 hl1 hl2 hl3
      go_enter Try.func13, Try.ntmps13
      go_wp2_with (first | ((with_reducible refine gate_callee (f := 11) rfl ?_); refine goesL_ (some 17) rfl rfl Try.func11 (by kernel_rfl) rfl #[.slice A0 l0.length c0, .int .i64 a1, .int .i64 a2] rfl (by (try simp only [List.map_toArray, List.map_cons, List.map_nil]); first | done | rfl | (simp only [List.length_drop, List.length_take]; rfl)) ?_; (with_reducible refine (reliquaryref01_Get.calls 20 _ _ l0 a1 a2 t1 0 _ HR0.out HC0.out HIN.out).mono ?_); rintro e w' ⟨rfl, ⟨nd, rfl⟩⟩; refine ⟨_, rfl, ?_⟩) | ((with_reducible refine gate_builtin (b := .append) (xs := #[.tmp 23, .tmp 26]) rfl ?_); at_builtin; refine Kd.R_append_row (Value.int .u8) (0 : Int) (h1 := fun _ => rfl) (w0 := w) w.heap.size rfl (.tmp 23) (.tmp 26) 22 5 (.int .u8 0) 1 rfl Try.underlying22 info5 rfl (by decide) (.slice none 0 0) ([] : List Int) s1 _ _ _ (fun _ => True) rfl rfl (fun _ _ => trivial) (Kd.R_nil _ _ _ _ _) (Kd.C_drewN HR1.out _) (pw_below_drewN HB.out _) (by simp) (by have := HL.out; simp; omega) ?_; intro v2 w2 ho2 hb2 hg2 hat2; clear hg2 hat2; rw [List.nil_append] at ho2; have HO2 := Aside0.mk ho2; have HB2 := Aside0.mk hb2; clear ho2 hb2) | ((with_reducible refine gate_callee (f := 15) rfl ?_); refine goesL_ (some 31) rfl rfl Try.func15 (by kernel_rfl) rfl #[.int .u64 a3, .int .i64 a2] rfl (by (try simp only [List.map_toArray, List.map_cons, List.map_nil]); first | done | rfl | (simp only [List.length_drop, List.length_take]; rfl)) ?_; (with_reducible refine (reliquaryref01_Put.calls 20 a3 a2 p _ HP.out).mono ?_); rintro e w3 ⟨v3, rfl, ho3, hb3⟩; refine ⟨_, rfl, ?_⟩; obtain ⟨A3, cc3, e3, hl3, hr3⟩ := Kd.R_reads ho3; subst e3; have HO3 := Aside0.mk (Kd.R_below HO2.out hb3); have HB3 := Aside0.mk (below_step HB2.out hb3); have HR3 := Aside0.mk hr3; clear ho3 hb3 hl3 hr3 HO2 HB2) | ((with_reducible refine gate_builtin (b := .append) (xs := #[.tmp 28, .tmp 31]) rfl ?_); at_builtin; refine Kd.R_append_row (Value.int .u8) (0 : Int) (h1 := fun _ => rfl) (w0 := w) w.heap.size rfl (.tmp 28) (.tmp 31) 22 5 (.int .u8 0) 1 rfl Try.underlying22 info5 rfl (by decide) v2 s1 p A3 p.length cc3 (fun _ => True) rfl rfl (fun _ _ => trivial) HO3.out HR3.out HB3.out HB3.out.size (by have := HL.out; simp; omega) ?_; intro v4 w4 ho4 hb4 hg4 hat4; clear hg4 hat4; have HO4 := Aside0.mk ho4; have HB4 := Aside0.mk hb4; clear ho4 hb4 HO3 HB3 HR3) | ((with_reducible refine gate_builtin (b := .append) (xs := #[.tmp 33, .tmp 38]) rfl ?_); at_builtin; refine Kd.R_append_row (Value.int .u8) (0 : Int) (h1 := fun _ => rfl) (w0 := w) w.heap.size rfl (.tmp 33) (.tmp 38) 22 5 (.int .u8 0) 1 rfl Try.underlying22 info5 rfl (by decide) v4 (s1 ++ p) s2 _ _ _ (fun _ => True) rfl rfl (fun _ _ => trivial) HO4.out (Kd.C_below HR2.out HB4.out) HB4.out HB4.out.size (by have := HL.out; simp; omega) ?_; intro v5 w5 ho5 hb5 hg5 hat5; clear hg5 hat5; rw [List.append_assoc, HZ.out] at ho5; have HO5 := Aside0.mk ho5; have HB5 := Aside0.mk hb5; clear ho5 hb5))
      go_ret2
      exact ⟨_, rfl, HO5.out, HB5.out⟩
    · rw [if_neg c2] at h
      exact absurd h (by simp)
  · rw [if_neg c1] at h
    have h2 := Option.some.inj h
    obtain ⟨rfl, rfl⟩ := (Prod.mk.injEq _ _ _ _).mp h2
    have c1b1 : (t != 0) = true := bne_iff_ne.mpr c1
    have c1b0 : (t == 0) = false := beq_eq_false_iff_ne.mpr c1
    clear h h2 c1
    go_enter Try.func13, Try.ntmps13
    go_wp2_with (first | ((with_reducible refine gate_callee (f := 11) rfl ?_); refine goesL_ (some 17) rfl rfl Try.func11 (by kernel_rfl) rfl #[.slice A0 l0.length c0, .int .i64 a1, .int .i64 a2] rfl (by (try simp only [List.map_toArray, List.map_cons, List.map_nil]); first | done | rfl | (simp only [List.length_drop, List.length_take]; rfl)) ?_; (with_reducible refine (reliquaryref01_Get.calls 20 _ _ l0 a1 a2 t1 t _ HR0.out HC0.out HIN.out).mono ?_); rintro e w' ⟨rfl, ⟨nd, rfl⟩⟩; refine ⟨_, rfl, ?_⟩))
    go_ret2
    exact ⟨_, rfl, Kd.R_nil _ _ _ _ _, pw_below_drewN HB.out _⟩

end Go.Proofs.Ytgdgidlbpeimoaa.Q
