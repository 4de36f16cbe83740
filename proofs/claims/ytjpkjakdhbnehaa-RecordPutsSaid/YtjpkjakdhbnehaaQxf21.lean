-- Written by this session's own program (ext_print.py) over the kit's print.py, hand proofs among it. Not trusted: Lean checks it.
import Derived.Test.YtjpkjakdhbnehaaQx0
import Derived.Test.YtjpkjakdhbnehaaQxw
namespace Go.Proofs.Ytjpkjakdhbnehaa.Q
open Go.RowKit Go.Proofs.YtjpkjakdhbnehaaW.PrintWords Go.Proofs.YtjpkjakdhbnehaaW.PrintLast Go.Proofs.YtjpkjakdhbnehaaW.PrintMore
attribute [local go_sem] max2_int min2_int max_two min_two max_three min_three max_four min_four   -- for this text's walks alone
set_option linter.unusedVariables false
set_option linter.unusedSimpArgs false

-- EXT slices_Concat_byte_byte: function 21
/-! ### slices_Concat_byte_byte: function 21 -/
set_option maxHeartbeats 8000000 in
set_option maxRecDepth 100000 in
theorem slices_Grow_nil (n : Int) (h0 : 0 ≤ n) (hn : n.toNat ≤ 140737488351232) (w : World) :
    Calls Try.prog 32 #[.slice none 0 0, .int .i64 n] w fun e w' => ∃ v0_ : Value, e = .returned (v0_) ∧ Kd.R (Kd.int .u8) 5 w' w.heap.size (fun _ => True) v0_ [] ∧ Below w.heap.size w w' := by
  have HB := Aside0.mk (Below.refl w.heap.size w)
  have HN := Aside0.mk hn
  have H0 := Aside0.mk h0
  have hsz : (Try.prog.info? 5).map (·.size) = some 1 := by kernel_rfl
  have HS := Aside0.mk hsz
  clear hn hsz
  by_cases c : n = 0
  · subst c
    go_enter Try.func32, Try.ntmps32
    go_wp2
    go_ret
    exact ⟨_, rfl, Kd.R_nil _ _ _ _ _, HB.out⟩
  · have b1 : decide (n < 0) = false := decide_eq_false (by omega)
    have b2 : decide (0 < n) = true := decide_eq_true (by omega)
    have HP := Aside0.mk (show 0 < n by omega)
    have h1 : n ≤ 140737488351232 := by have := HN.out; omega
    clear c
    go_enter Try.func32, Try.ntmps32
    go_wp2_with (first | ((with_reducible refine gate_builtin (b := .append) (xs := #[.tmp 20, .tmp 21]) rfl ?_); refine Kd.R_append_zeros (Kd.int .u8) (w0 := w) w.heap.size rfl (.tmp 20) (.tmp 21) 23 3 5 (.int .u8 0) 1 rfl Try.underlying23 Try.underlying3 info5 rfl (by decide) (by decide) (.slice none 0 0) ([] : List Int) 0 n (fun _ => True) rfl rfl rfl (fun _ _ => trivial) (Kd.R_nil _ _ _ _ _) H0.out HB.out (Nat.le_refl _) (by have := HN.out; simp; omega) ?_; intro v1 w1 ho hb hg hat; clear hg hat; rw [List.nil_append] at ho; obtain ⟨go, co, eo, gb, gl, cl⟩ := Kd.R_form ho (by have := HP.out; rw [List.length_replicate]; omega); cases eo; have ho2 := Kd.R_take ho (Nat.zero_le _); rw [List.take_zero] at ho2; have hcut := ext_take0 (P := Try.prog) 23 5 .i64 Try.underlying23 HS.out go n.toNat co; have HO := Aside0.mk ho2; have HB1 := Aside0.mk hb; clear ho ho2 hb gb gl cl))
    go_ret
    exact ⟨_, rfl, HO.out, HB1.out⟩
def slices_Concat_byte_byte.f (l0 : List (List Int)) : Option (List Int) := if l0.flatten.length ≤ 140737488351232 then some l0.flatten else none
set_option maxHeartbeats 8000000 in
set_option maxRecDepth 100000 in
theorem slices_Concat_byte_byte.calls (A0 : Option Addr) (c0 : Nat) (l0 : List (List Int)) (r : List Int) (w : World) (hr0 : Kd.C (Kd.slice 5 (Kd.int .u8)) w A0 l0.length l0) (hc0 : l0.length ≤ c0) (h : slices_Concat_byte_byte.f l0 = some r) :
    Calls Try.prog 21 #[.slice A0 l0.length c0] w fun e w' => ∃ v0_ : Value, e = .returned (v0_) ∧ Kd.R (Kd.int .u8) 5 w' w.heap.size (fun _ => True) v0_ r ∧ Below w.heap.size w w' := by
  have HB := Aside0.mk (Below.refl w.heap.size w)
  have HR0 := Aside0.mk hr0
  have HM := Aside0.mk hr0.2.1
  clear hr0 hc0
  unfold slices_Concat_byte_byte.f at h
  by_cases c1 : l0.flatten.length ≤ 140737488351232
  · rw [if_pos c1] at h
    have HF := Aside0.mk (Option.some.inj h)
    have HL := Aside0.mk c1
    clear c1 h
    go_enter Try.func21, Try.ntmps21
    go_wp2
    go_loopg [3, 11] l0.length (fun gk v3 v11 w' => ∃ (S x : Int), v3 = .int .i64 S ∧ v11 = .int .i64 x ∧ Aside0 (0 ≤ x ∧ (gk : Int) + x = l0.length) ∧ Aside0 (S = ((l0.take x.toNat).flatten.length : Int)) ∧ Drawn0 w w')
    case atStart => exact ⟨0, 0, rfl, rfl, ⟨by omega⟩, ⟨by simp⟩, Drawn0.refl _⟩
    case round =>
      obtain ⟨S, x, rfl, rfl, HX, HA, ⟨m1, rfl⟩⟩ := hrel
      by_cases c2 : x < (l0.length : Int)
      · have p1 := HX.out.1
        have hx := Aside0.mk (ext_row_at HR0.out x p1 c2)
        obtain ⟨ad, A9, c9, e1, hcell, _, _⟩ := hx.out
        have hs := flat_snoc l0 x.toNat (by omega)
        have hs1 := flat_le l0 (x.toNat + 1)
        obtain ⟨E, hE⟩ : ∃ E, E = l0.getD x.toNat [] := ⟨_, rfl⟩
        rw [← hE] at hcell hs
        have hs2 : ((l0.take (x.toNat + 1)).flatten.length : Int) = S + E.length := by rw [hs, List.length_append, HA.out]; omega
        have HS2 := Aside0.mk hs2
        have s0 : 0 ≤ S := by rw [HA.out]; omega
        have s1 : S + (E.length : Int) ≤ 140737488351232 := by have := HL.out; omega
        have HW := Aside0.mk (show wrap64 (x + 1) = x + 1 from by have := HM.out; unfold wrap64; omega)
        have c2b : decide (x < (l0.length : Int)) = true := decide_eq_true c2
        have c2' := Aside0.mk c2
        have p1' : decide (0 ≤ x) = true := decide_eq_true p1
        have p2 := eq_true p1
        have q2 := eq_true c2
        cases e1
        clear hx hs hs1 hs2 hE HA c2 p1
        go_wp2
        go_roundg (gk - 1)
        case measure => have := HX.out; have := c2'.out; omega
        case rel => exact ⟨S + E.length, x + 1, rfl, by rw [HW.out], ⟨by have := HX.out; have := c2'.out; omega⟩, ⟨by rw [← HS2.out]; have := HX.out; rw [show (x + 1).toNat = x.toNat + 1 by omega]⟩, by repeat (first | exact Drawn0.refl _ | apply Drawn0.step)⟩
      · have hS : S = (l0.flatten.length : Int) := by rw [HA.out, List.take_of_length_le (by have := HX.out; omega)]
        have HSS := Aside0.mk hS
        have c2b : decide (x < (l0.length : Int)) = false := decide_eq_false c2
        clear c2 HA hS
        go_wp2_with (first | ((with_reducible refine gate_callee (f := 32) rfl ?_); refine goesL_ (some 24) rfl rfl Try.func32 (by kernel_rfl) rfl #[.slice none 0 0, .int .i64 S] rfl (by (try simp only [List.map_toArray, List.map_cons, List.map_nil]); first | done | rfl | (simp only [List.length_drop, List.length_take]; rfl)) ?_; (with_reducible refine (slices_Grow_nil S (by have := HSS.out; omega) (by have := HSS.out; have := HL.out; omega) _).mono ?_); rintro e w1 ⟨v1, rfl, ho, hb⟩; refine ⟨_, rfl, ?_⟩; have HO := Aside0.mk ho; have HB1 := Aside0.mk (show Below w.heap.size w w1 from below_step (pw_below_drewN HB.out _) hb); clear ho hb))
        go_loopg [6, 27] l0.length (fun gk v6 v27 w' => ∃ (x : Int), v27 = .int .i64 x ∧ Aside0 (0 ≤ x ∧ (gk : Int) + x = l0.length) ∧ Aside0 (Kd.R (Kd.int .u8) 5 w' w.heap.size (fun _ => True) v6 (l0.take x.toNat).flatten) ∧ Aside0 (Below w.heap.size w w'))
        case atStart => exact ⟨0, rfl, ⟨by omega⟩, ⟨by simpa using HO.out⟩, HB1⟩
        case round =>
          obtain ⟨y, rfl, HY, HO2, HB2⟩ := hrel
          by_cases c3 : y < (l0.length : Int)
          · have p1 := HY.out.1
            have hx := Aside0.mk (ext_row_at (Kd.C_below HR0.out HB2.out) y p1 c3)
            obtain ⟨ad, A9, c9, e1, hcell, _, hrow⟩ := hx.out
            have hs := flat_snoc l0 y.toNat (by omega)
            have hs1 := flat_le l0 (y.toNat + 1)
            obtain ⟨E, hE⟩ : ∃ E, E = l0.getD y.toNat [] := ⟨_, rfl⟩
            rw [← hE] at hcell hs hrow
            obtain ⟨F, hF⟩ : ∃ F, F = (l0.take y.toNat).flatten := ⟨_, rfl⟩
            rw [← hF] at HO2 hs
            have HROW := Aside0.mk hrow
            have HSN := Aside0.mk hs
            have HLN := Aside0.mk (show F.length + E.length ≤ 140737488351232 by have := HL.out; rw [hs, List.length_append] at hs1; omega)
            have HW := Aside0.mk (show wrap64 (y + 1) = y + 1 from by have := HM.out; unfold wrap64; omega)
            have c3b : decide (y < (l0.length : Int)) = true := decide_eq_true c3
            have c3' := Aside0.mk c3
            have p1' : decide (0 ≤ y) = true := decide_eq_true p1
            have p2 := eq_true p1
            have q2 := eq_true c3
            cases e1
            clear hx hs hs1 hE hF hrow c3 p1
            go_wp2_with (first | ((with_reducible refine gate_builtin (b := .append) (xs := #[.tmp 31, .tmp 32]) rfl ?_); at_builtin; refine Kd.R_append_row (Value.int .u8) (0 : Int) (h1 := fun _ => rfl) (w0 := w) w.heap.size rfl (.tmp 31) (.tmp 32) 23 5 (.int .u8 0) 1 rfl Try.underlying23 info5 rfl (by decide) _ F E A9 E.length c9 (fun _ => True) rfl rfl (fun _ _ => trivial) HO2.out HROW.out HB2.out HB2.out.size (by have := HLN.out; omega) ?_; intro v4 w4 ho4 hb4 hg4 hat4; clear hg4 hat4; have HO4 := Aside0.mk ho4; have HB4 := Aside0.mk hb4; clear ho4 hb4 HO2 HB2 HROW))
            go_roundg (gk - 1)
            case measure => have := HY.out; have := c3'.out; omega
            case rel => exact ⟨y + 1, by rw [HW.out], ⟨by have := HY.out; have := c3'.out; omega⟩, ⟨by have := HY.out; rw [show (y + 1).toNat = y.toNat + 1 by omega, HSN.out]; exact HO4.out⟩, HB4⟩
          · have hF : (l0.take y.toNat).flatten = r := by rw [List.take_of_length_le (by have := HY.out; omega), HF.out]
            rw [hF] at HO2
            have c3b : decide (y < (l0.length : Int)) = false := decide_eq_false c3
            clear c3 hF
            go_wp2
            go_ret
            exact ⟨_, rfl, HO2.out, HB2.out⟩
  · rw [if_neg c1] at h
    exact absurd h (by simp)

end Go.Proofs.Ytjpkjakdhbnehaa.Q
