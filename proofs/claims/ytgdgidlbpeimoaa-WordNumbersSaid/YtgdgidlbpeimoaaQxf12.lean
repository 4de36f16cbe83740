-- Written by this session's own program (ext_print.py) over the kit's print.py, hand proofs among it. Not trusted: Lean checks it.
import Derived.Test.YtgdgidlbpeimoaaQx0
import Derived.Test.YtgdgidlbpeimoaaQxf14
import Derived.Test.YtgdgidlbpeimoaaQxf20
import Derived.Test.YtgdgidlbpeimoaaQxf21
import Derived.Test.YtgdgidlbpeimoaaQxw
namespace Go.Proofs.Ytgdgidlbpeimoaa.Q
open Go.RowKit Go.Proofs.YtgdgidlbpeimoaaW.PrintWords Go.Proofs.YtgdgidlbpeimoaaW.PrintLast Go.Proofs.YtgdgidlbpeimoaaW.PrintMore
attribute [local go_sem] max2_int min2_int max_two min_two max_three min_three max_four min_four   -- for this text's walks alone
set_option linter.unusedVariables false
set_option linter.unusedSimpArgs false

-- EXT word_Set: function 12
/-! ### word_Set: function 12 -/
def word_Set.f (l0 : List Int) (a1 : Int) (a2 : Int) (a3 : Int) : Option (List Int × Int) := (word_inside.f l0 a1 a2).bind fun t => if t = 0 then ((word_Put.f 9 a3 a2).bind fun p => if l0.length ≤ 140737488351232 ∧ 0 ≤ a1 ∧ 0 < p.length ∧ a1.toNat + p.length ≤ l0.length then some (l0.take a1.toNat ++ (p ++ l0.drop (a1.toNat + p.length)), 0) else none) else some ([], t)
set_option maxHeartbeats 8000000 in
set_option maxRecDepth 100000 in
theorem word_Set.calls (A0 : Option Addr) (c0 : Nat) (l0 : List Int) (a1 : Int) (a2 : Int) (a3 : Int) (r1 : List Int) (r2 : Int) (w : World) (hr0 : Kd.C (Kd.int .u8) w A0 l0.length l0) (hc0 : l0.length ≤ c0) (h : word_Set.f l0 a1 a2 a3 = some (r1, r2)) :
    Calls Try.prog 12 #[.slice A0 l0.length c0, .int .i64 a1, .int .i64 a2, .int .u64 a3] w fun e w' => ∃ v0_ : Value, e = .returned (.tuple #[v0_, .int .i64 r2]) ∧ Kd.R (Kd.int .u8) 5 w' w.heap.size (fun _ => True) v0_ r1 ∧ Below w.heap.size w w' := by
  have HB := Aside0.mk (Below.refl w.heap.size w)
  have HR0 := Aside0.mk hr0
  have HC0 := Aside0.mk hc0
  clear hr0 hc0
  unfold word_Set.f at h
  obtain ⟨t, hin, h⟩ := Option.bind_eq_some_iff.mp h
  have HIN := Aside0.mk hin
  clear hin
  by_cases c1 : t = 0
  · rw [if_pos c1] at h
    subst c1
    obtain ⟨p, hp, h⟩ := Option.bind_eq_some_iff.mp h
    have HP := Aside0.mk hp
    clear hp
    by_cases c2 : l0.length ≤ 140737488351232 ∧ 0 ≤ a1 ∧ 0 < p.length ∧ a1.toNat + p.length ≤ l0.length
    · rw [if_pos c2] at h
      have h2 := Option.some.inj h
      obtain ⟨hr1, rfl⟩ := (Prod.mk.injEq _ _ _ _).mp h2
      have HZ := Aside0.mk hr1
      have HC2 := Aside0.mk c2
      have hsz : (Try.prog.info? 5).map (·.size) = some 1 := by kernel_rfl
      have HS := Aside0.mk hsz
      clear h h2 hr1 c2 hsz
      go_enter Try.func12, Try.ntmps12
      go_wp2_with (first | ((with_reducible refine gate_callee (f := 20) rfl ?_); refine goesL_ (some 15) rfl rfl Try.func20 (by kernel_rfl) rfl #[.slice A0 l0.length c0, .int .i64 a1, .int .i64 a2] rfl (by (try simp only [List.map_toArray, List.map_cons, List.map_nil]); first | done | rfl | (simp only [List.length_drop, List.length_take]; rfl)) ?_; (with_reducible refine (word_inside.calls _ _ l0 a1 a2 0 _ HR0.out HC0.out HIN.out).mono ?_); rintro e w' ⟨rfl, ⟨nd, rfl⟩⟩; refine ⟨_, rfl, ?_⟩) | ((with_reducible refine gate_callee (f := 21) rfl ?_); refine goesL_ (some 20) rfl rfl Try.func21 (by kernel_rfl) rfl #[.slice A0 l0.length c0] rfl (by (try simp only [List.map_toArray, List.map_cons, List.map_nil]); first | done | rfl | (simp only [List.length_drop, List.length_take]; rfl)) ?_; (with_reducible refine (slices_Clone_byte_byte.calls _ _ l0 l0 _ ?side1 HC0.out (by unfold slices_Clone_byte_byte.f; rw [if_pos HC2.out.1])).mono ?_); (case side1 => exact Kd.C_drewN HR0.out _); rintro e w1 ⟨v1, rfl, ho, hb⟩; refine ⟨_, rfl, ?_⟩; obtain ⟨go, co, eo, gb, gl, cl⟩ := Kd.R_form ho (by have := HC2.out; omega); cases eo; have HO := Aside0.mk ho; have HB1 := Aside0.mk (show Below w.heap.size w w1 from below_step (pw_below_drewN HB.out _) hb); clear ho hb gb gl cl))
      have hcut := ext_cut (P := Try.prog) 22 5 .i64 Try.underlying22 HS.out go l0.length co a1 HC2.out.2.1 (by have := HC2.out; omega) (ext_R_le HO.out)
      go_region_law (first | (refine goes_ Try.func14 (by kernel_rfl) rfl #[.int .u64 a3, .int .i64 a2] (by rfl) rfl rfl (by (try simp only [List.map_toArray, List.map_cons, List.map_nil]); first | done | rfl | (simp only [List.length_drop, List.length_take]; rfl)) ?_; refine (word_Put.calls 9 a3 a2 p _ HP.out).mono ?_; rintro e w2 ⟨v2, rfl, ho2, hb2⟩; refine ⟨_, rfl, ?_⟩; obtain ⟨A2, cc2, e2, hl2, hr2⟩ := Kd.R_reads ho2; subst e2; have HO2 := Aside0.mk (Kd.R_below (Kd.R_drew HO.out) hb2); have HB2 := Aside0.mk (below_step (below_drew1 HB1.out) hb2); have HR2 := Aside0.mk hr2; clear ho2 hb2 hl2 hr2) | (refine ext_copy_step (w0 := w) w.heap.size rfl (.tmp 23) (.tmp 26) 22 22 5 rfl Try.underlying22 HS.out .u8 (fun _ => True) go co l0 p a1.toNat (l0.length - a1.toNat) (co - a1.toNat) (some ⟨go, a1.toNat, none⟩) A2 p.length cc2 rfl rfl HO2.out HR2.out (by have := HC2.out; omega) (fun _ => rfl) HB2.out ?_; intro w3 ho3 hb3 hg3; clear hg3; have HO3 := Aside0.mk ho3; have HB3 := Aside0.mk hb3; clear ho3 hb3))
      all_goals
        have hz : l0.take a1.toNat ++ (p.take (l0.length - a1.toNat) ++ l0.drop (a1.toNat + min p.length (l0.length - a1.toNat))) = r1 := by
          rw [← HZ.out, List.take_of_length_le (show p.length ≤ l0.length - a1.toNat by have := HC2.out; omega), Nat.min_eq_left (show p.length ≤ l0.length - a1.toNat by have := HC2.out; omega)]
        have ho4 := HO3.out
        rw [hz] at ho4
        have HO4 := Aside0.mk ho4
        clear ho4 hz
        go_wp2
        go_ret2
        exact ⟨_, rfl, HO4.out, HB3.out⟩
    · rw [if_neg c2] at h
      exact absurd h (by simp)
  · rw [if_neg c1] at h
    have h2 := Option.some.inj h
    obtain ⟨rfl, rfl⟩ := (Prod.mk.injEq _ _ _ _).mp h2
    have c1b1 : (t != 0) = true := bne_iff_ne.mpr c1
    have c1b0 : (t == 0) = false := beq_eq_false_iff_ne.mpr c1
    clear h h2 c1
    go_enter Try.func12, Try.ntmps12
    go_wp2_with (first | ((with_reducible refine gate_callee (f := 20) rfl ?_); refine goesL_ (some 15) rfl rfl Try.func20 (by kernel_rfl) rfl #[.slice A0 l0.length c0, .int .i64 a1, .int .i64 a2] rfl (by (try simp only [List.map_toArray, List.map_cons, List.map_nil]); first | done | rfl | (simp only [List.length_drop, List.length_take]; rfl)) ?_; (with_reducible refine (word_inside.calls _ _ l0 a1 a2 t _ HR0.out HC0.out HIN.out).mono ?_); rintro e w' ⟨rfl, ⟨nd, rfl⟩⟩; refine ⟨_, rfl, ?_⟩))
    go_ret2
    exact ⟨_, rfl, Kd.R_nil _ _ _ _ _, pw_below_drewN HB.out _⟩

end Go.Proofs.Ytgdgidlbpeimoaa.Q
