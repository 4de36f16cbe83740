/- A first block is that of just one layout; with any bytes behind it is none. -/
import Derived.Test.YtllbgccdcibopaaPureL
import Derived.Test.YtllbgccdcibopaaPureS
import Derived.Test.YtllbgccdcibopaaQxf7
namespace Go.Proofs.Ytllbgccdcibopaa.Pure
open Go.RowKit Go.Proofs.Ytllbgccdcibopaa.Q Go.Proofs.YtllbgccdcibopaaW.PrintWords Go.Proofs.YtllbgccdcibopaaW.PrintLast Go.Proofs.YtllbgccdcibopaaW.PrintMore
set_option linter.unusedVariables false
set_option linter.unusedSimpArgs false

theorem putL_inj {b n c m : Int} (hb : 0 ≤ b ∧ b < 4294967296) (hn : 0 ≤ n ∧ n < 4294967296) (hc : 0 ≤ c ∧ c < 4294967296) (hm : 0 ≤ m ∧ m < 4294967296) (h : putL b n = putL c m) : b = c ∧ n = m := by
  have h1 := putL_cut4 b n hb.1 hb.2
  have h2 := putL_cut8 b n hn.1 hn.2
  rw [h, putL_cut4 c m hc.1 hc.2] at h1
  rw [h, putL_cut8 c m hm.1 hm.2] at h2
  exact ⟨((Prod.mk.inj h1).1).symm, ((Prod.mk.inj h2).1).symm⟩
theorem putL_behind (b n : Int) (i : Nat) (h : i < 160) (h12 : 12 ≤ i) : (putL b n)[i]? = some 0 := by
  unfold putL
  rw [List.getElem?_append_right (by simp [lebytes_length]; omega), List.getElem?_replicate_of_lt (by simp [lebytes_length]; omega)]
theorem formL_set (b n : Int) (h : newOk b n) (i : Nat) (hi : i < 160) (h12 : 12 ≤ i) (v : Int) : formL ((putL b n).set i v) = if v = 0 then (b, n, 3, 3 + (n + 4) / 5, 0) else (0, 0, 0, 0, 11) := by
  by_cases hv : v = 0
  · have : (putL b n).set i v = putL b n := by
      rw [hv]
      apply List.ext_getElem?
      intro j
      rw [List.getElem?_set]
      by_cases hj : i = j
      · subst hj
        rw [if_pos rfl, if_pos (by rw [putL_length]; omega), putL_behind b n i hi h12]
      · rw [if_neg hj]
    rw [if_pos hv, this, formL_putL b n h]
  · rw [if_neg hv]
    unfold formL
    refine if_neg fun z => hv ?_
    have h1 : ((putL b n).set i v)[i]? = some v := by rw [List.getElem?_set_self (by rw [putL_length]; omega)]
    rw [z.2.2.2, putL_behind _ _ i hi h12] at h1
    exact (Option.some.inj h1).symm
theorem u8s_set {l : List Int} (h : u8s l) (i : Nat) {v : Int} (hv : 0 ≤ v ∧ v < 256) : u8s (l.set i v) := by
  intro x hx
  rcases List.mem_or_eq_of_mem_set hx with hx | rfl
  · exact h x hx
  · exact hv
theorem LayoutForms : reliquarylaw17_LayoutForms.Pure := by
  intro a b c d at' ov ha hb hc hd hat hov
  have ka := wf_u16 ha
  have kb := wf_u16 hb
  have kc := wf_u16 hc
  have kd := wf_u16 hd
  have kt := wf_u8 hat
  have ko := wf_u8 hov
  refine ⟨1000, ?_⟩
  unfold reliquarylaw17_LayoutForms.f
  rw [awake17_ok 1000 (by omega), Option.bind_some, if_pos rfl, wrap64_id (n := a) (by omega) (by omega), wrap64_id (n := b) (by omega) (by omega), wrap64_id (n := c) (by omega) (by omega), wrap64_id (n := d) (by omega) (by omega), layout_New_eq 1000 (by omega), Option.bind_some, layout_New_eq 1000 (by omega), Option.bind_some]
  by_cases h : newOk a b
  · by_cases g : newOk c d
    · have h1 := h
      have g1 := g
      unfold newOk at h1 g1
      rw [newV_ok h, newV_ok g]
      simp only [if_true]
      have hk : wrap64 (12 + (wrap64 at').tmod 148) = 12 + at' % 148 := by
        rw [wrap64_id (n := at') (by omega) (by omega), Int.tmod_eq_emod_of_nonneg (by omega), wrap64_id (by omega) (by omega)]
      simp only [reliquarylaw17_LayoutForms.j0]
      rw [if_neg (by simp), layout_Put_eq _ _ _ _ (by omega) (by omega) (by omega) (by omega), Option.bind_some, layout_Put_eq _ _ _ _ (by omega) (by omega) (by omega) (by omega), Option.bind_some, putL_length, if_pos (by rfl), hk, str_eq (putL_u8s a b) (putL_u8s c d)]
      have e1 : (decide (putL a b = putL c d) != (a == c && (b == d && ((3 : Int) == 3 && (3 + (b + 4) / 5 == 3 + (d + 4) / 5))))) = false := by
        by_cases e : putL a b = putL c d
        · obtain ⟨rfl, rfl⟩ := putL_inj (by omega) (by omega) (by omega) (by omega) e
          simp
        · rw [decide_eq_false e]
          by_cases e2 : a = c
          · by_cases e3 : b = d
            · subst e2; subst e3; exact absurd rfl e
            · simp [e3]
          · simp [e2]
      rw [e1, if_neg (by simp), if_pos (by omega), if_pos (by omega), layout_Get_eq _ _ (by rw [List.length_set, putL_length]; omega) (u8s_set (putL_u8s a b) _ ko) (by rw [List.length_set, putL_length]; decide), Option.bind_some, formL_set a b h _ (by omega) (by omega)]
      by_cases hv : ov = 0
      · subst hv
        simp
      · simp [hv]
    · rw [newV_ok h, newV_no g]
      simp [reliquarylaw17_LayoutForms.j0]
  · rw [newV_no h]
    simp [reliquarylaw17_LayoutForms.j0]
end Go.Proofs.Ytllbgccdcibopaa.Pure
