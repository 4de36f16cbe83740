-- Written by this session's own program (ext_print.py) over the kit's print.py, hand proofs among it. Not trusted: Lean checks it.
import Derived.Test.YtjpkjakdhbnehaaQx0
import Derived.Test.YtjpkjakdhbnehaaQxw
namespace Go.Proofs.Ytjpkjakdhbnehaa.Q
open Go.RowKit Go.Proofs.YtjpkjakdhbnehaaW.PrintWords Go.Proofs.YtjpkjakdhbnehaaW.PrintLast Go.Proofs.YtjpkjakdhbnehaaW.PrintMore
attribute [local go_sem] max2_int min2_int max_two min_two max_three min_three max_four min_four   -- for this text's walks alone
set_option linter.unusedVariables false
set_option linter.unusedSimpArgs false

-- EXT word_Pad: function 22
/-! ### word_Pad: function 22 -/
def word_Pad.f (l0 : List Int) (a1 : Int) : Option (List Int) := if a1 < 1 then some [] else if a1.toNat ≤ 281474976710656 then some (l0.take a1.toNat ++ List.replicate (a1.toNat - l0.length) 0) else none
set_option maxHeartbeats 8000000 in
set_option maxRecDepth 100000 in
theorem word_Pad.calls (A0 : Option Addr) (c0 : Nat) (l0 : List Int) (a1 : Int) (r : List Int) (w : World) (hr0 : Kd.C (Kd.int .u8) w A0 l0.length l0) (hc0 : l0.length ≤ c0) (h : word_Pad.f l0 a1 = some r) :
    Calls Try.prog 22 #[.slice A0 l0.length c0, .int .i64 a1] w fun e w' => ∃ v0_ : Value, e = .returned (v0_) ∧ Kd.R (Kd.int .u8) 5 w' w.heap.size (fun _ => True) v0_ r ∧ Below w.heap.size w w' := by
  have HB := Aside0.mk (Below.refl w.heap.size w)
  have HR0 := Aside0.mk hr0
  clear hr0 hc0
  unfold word_Pad.f at h
  by_cases c1 : a1 < 1
  · rw [if_pos c1] at h
    obtain rfl := Option.some.inj h
    have c1b : decide (a1 < 1) = true := decide_eq_true c1
    clear c1 h
    go_enter Try.func22, Try.ntmps22
    go_wp2
    go_ret
    exact ⟨_, rfl, Kd.R_nil _ _ _ _ _, HB.out⟩
  · rw [if_neg c1] at h
    by_cases c2 : a1.toNat ≤ 281474976710656
    · rw [if_pos c2] at h
      have hr := Option.some.inj h
      have hz : r = (List.replicate a1.toNat (0 : Int)).take 0 ++ (l0.take a1.toNat ++ (List.replicate a1.toNat (0 : Int)).drop (0 + min l0.length a1.toNat)) := by
        rw [← hr, List.take_zero, List.nil_append, List.drop_replicate]
        congr 2
        omega
      have HZ := Aside0.mk hz
      have H0 := Aside0.mk (show 0 ≤ a1 by omega)
      have H1 := Aside0.mk (show 0 < a1.toNat by omega)
      have H2 := Aside0.mk c2
      have c1b : decide (a1 < 1) = false := decide_eq_false c1
      have hsz : (Try.prog.info? 5).map (·.size) = some 1 := by kernel_rfl
      have HS := Aside0.mk hsz
      clear c1 c2 h hr hz hsz
      go_enter Try.func22, Try.ntmps22
      go_wp2_with (first | ((with_reducible refine gate_dst (N := 9) rfl ?_); refine Kd.R_make (Kd.int .u8) _ 5 rfl (N := 9) rfl 23 _ _ rfl a1 rfl rfl Try.underlying23 (.int .u8 0) 1 info5 rfl (by decide) (by omega) 0 (ok := fun _ => True) (okp := fun _ => True) rfl (fun _ hk => hk) trivial H0.out (by have := H2.out; omega) (Below.refl _ _) (Nat.le_refl _) ?_; intro v1 w1 ho hb hg_ hn_; clear hg_ hn_; obtain ⟨go, co, eo, gb, gl, cl⟩ := Kd.R_form ho (by rw [List.length_replicate]; exact H1.out); cases eo; have HO := Aside0.mk ho; have HC1 := Aside0.mk (Kd.C_below HR0.out hb); have HB1 := Aside0.mk hb; clear ho hb gb gl cl) | ((with_reducible refine gate_builtin (b := .copy) (xs := #[.tmp 10, .tmp 11]) rfl ?_); refine ext_copy (w0 := w) w.heap.size rfl (.tmp 10) (.tmp 11) 23 23 5 rfl Try.underlying23 HS.out .u8 (fun _ => True) go co (List.replicate a1.toNat 0) l0 0 a1.toNat co (some ⟨go, 0, none⟩) A0 l0.length c0 rfl rfl HO.out HC1.out (by simp) (fun _ => rfl) HB1.out ?_; intro w2 ho2 hb2 hg2; clear hg2; rw [← HZ.out] at ho2; have HO2 := Aside0.mk ho2; have HB2 := Aside0.mk hb2; clear ho2 hb2))
      go_ret
      have ho3 := HO2.out
      rw [List.length_replicate] at ho3
      exact ⟨_, rfl, ho3, HB2.out⟩
    · rw [if_neg c2] at h
      exact absurd h (by simp)

end Go.Proofs.Ytjpkjakdhbnehaa.Q
