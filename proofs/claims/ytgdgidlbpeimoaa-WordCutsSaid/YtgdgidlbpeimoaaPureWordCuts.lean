/- Padded bytes begin as they were, and end in noughts; padded twice they are as padded to the lesser length, and on. -/
import Derived.Test.YtgdgidlbpeimoaaPureA01
import Derived.Test.YtgdgidlbpeimoaaQxf8
namespace Go.Proofs.Ytgdgidlbpeimoaa.Pure
open Go.RowKit Go.Proofs.Ytgdgidlbpeimoaa.Q Go.Proofs.YtgdgidlbpeimoaaW.PrintWords Go.Proofs.YtgdgidlbpeimoaaW.PrintLast Go.Proofs.YtgdgidlbpeimoaaW.PrintMore
set_option linter.unusedVariables false

theorem rd_padV (l : List Int) (n : Int) (i : Nat) : rd (padV l n) i = if (i : Int) < n then rd l i else 0 := by
  have hlen := padV_length l n
  by_cases h : (i : Int) < n
  · rw [if_pos h, rd_nat _ _ (by omega), padV_get]
  · rw [if_neg h]
    simp [rd, List.getD_eq_getElem?_getD, List.getElem?_eq_none (show (padV l n).length ≤ i by omega)]
theorem rd_ext {l m : List Int} (hl : l.length = m.length) (h : ∀ i : Nat, i < l.length → rd l i = rd m i) : l = m := by
  apply List.ext_getElem hl
  intro i h1 h2
  have := h i h1
  rwa [rd_nat l i h1, rd_nat m i h2] at this
theorem pad_pad (l : List Int) (k j : Int) : padV (padV l k) j = padV (padV l (if j < k then j else k)) j := by
  apply rd_ext
  · rw [padV_length, padV_length]
  · intro i hi
    rw [padV_length] at hi
    simp only [rd_padV]
    by_cases h : j < k
    · rw [if_pos h]
      by_cases h1 : (i : Int) < j
      · have h2 : (i : Int) < k := by omega
        simp only [if_pos h1, if_pos h2]
      · omega
    · rw [if_neg h]
theorem cuts_loop (l : List Int) (k j : Int) (hk0 : 0 ≤ k) (hk : k < 400) (hj : j < 400) (hl : l.length ≤ 1000) (d : Nat) : ∀ (r i : Nat), k.toNat - i = d → (i : Int) ≤ k → d + 1 < r →
    reliquarylaw01_WordCuts.l0 r l k j (padV l k) i = some true := by
  have hlen := padV_length l k
  induction d with
  | zero =>
    intro r i hd hi hr
    obtain ⟨r, rfl⟩ : ∃ m, r = m + 1 := ⟨r - 1, by omega⟩
    have hp := pad_pad l k j
    simp only [reliquarylaw01_WordCuts.l0]
    rw [if_neg (by omega)]
    by_cases h : j < k
    · rw [if_pos h] at hp
      rw [if_pos h, word_Pad_eq _ _ (by omega), Option.bind_some, word_Pad_eq _ _ (by omega), Option.bind_some, word_Pad_eq _ _ (by omega), Option.bind_some, hp]
      simp
    · rw [if_neg h] at hp
      rw [if_neg h, word_Pad_eq _ _ (by omega), Option.bind_some, word_Pad_eq _ _ (by omega), Option.bind_some, word_Pad_eq _ _ (by omega), Option.bind_some, hp]
      simp
  | succ d ih =>
    intro r i hd hi hr
    obtain ⟨r, rfl⟩ : ∃ m, r = m + 1 := ⟨r - 1, by omega⟩
    have hrd := rd_padV l k i
    rw [if_pos (by omega)] at hrd
    simp only [reliquarylaw01_WordCuts.l0]
    rw [if_pos (by omega), hrd, wrap64_id (by omega) (by omega)]
    have hstep := ih r (i + 1) (by omega) (by omega) (by omega)
    by_cases h : (i : Int) < l.length
    · rw [if_pos h, if_pos (by omega), if_pos (by omega), if_pos rfl, if_neg (by omega)]
      exact hstep
    · have hz : rd l i = 0 := by simp [rd, List.getD_eq_getElem?_getD, List.getElem?_eq_none (show l.length ≤ i by omega)]
      rw [if_neg h, if_pos (by omega), if_pos (by omega), if_pos (by omega), if_pos hz]
      exact hstep
theorem WordCuts : reliquarylaw01_WordCuts.Pure := by
  intro l n m hl1 hl2 hl3 hn hm
  have h1 := wf_u16 hn
  have h2 := wf_u16 hm
  refine ⟨1000, ?_⟩
  unfold reliquarylaw01_WordCuts.f
  rw [awake_ok 1000 (by omega), Option.bind_some, if_pos rfl]
  by_cases h : (l.length : Int) > 1000
  · rw [if_pos h]
  · rw [if_neg h]
    rw [Int.tmod_eq_emod_of_nonneg h1.1, Int.tmod_eq_emod_of_nonneg h2.1, wrap64_id (n := n % 400) (by omega) (by omega), wrap64_id (n := m % 400) (by omega) (by omega)]
    rw [word_Pad_eq _ _ (by omega), Option.bind_some, if_pos (by rw [padV_length]; omega)]
    exact cuts_loop l (n % 400) (m % 400) (by omega) (by omega) (by omega) (by omega) (n % 400).toNat 1000 0 (by omega) (by omega) (by omega)
end Go.Proofs.Ytgdgidlbpeimoaa.Pure
