/- Bytes are padded, or cut, and numbers are summed up, as the document says. -/
import Derived.Test.YtgdgidlbpeimoaaPureA01
import Derived.Test.YtgdgidlbpeimoaaQxf4
import Derived.Test.YtgdgidlbpeimoaaQxf19
namespace Go.Proofs.Ytgdgidlbpeimoaa.Pure
open Go.RowKit Go.Proofs.Ytgdgidlbpeimoaa.Q Go.Proofs.YtgdgidlbpeimoaaW.PrintWords Go.Proofs.YtgdgidlbpeimoaaW.PrintLast Go.Proofs.YtgdgidlbpeimoaaW.PrintMore
set_option linter.unusedVariables false

theorem padV_snoc (l : List Int) (n : Nat) : padV l (n + 1 : Nat) = padV l n ++ [rd l n] := by
  apply List.ext_getElem
  · rw [List.length_append, padV_length, padV_length, List.length_singleton]
    omega
  · intro i h1 h2
    rw [padV_get]
    rw [padV_length] at h1
    by_cases hi : i < n
    · rw [List.getElem_append_left (by rw [padV_length]; omega), padV_get]
    · rw [List.getElem_append_right (by rw [padV_length]; omega)]
      simp only [List.getElem_singleton]
      rw [show i = n by omega]
theorem refpad_loop (l : List Int) (hl : l.length ≤ 3000) (n : Nat) (hn : n ≤ 3000) (d : Nat) : ∀ (k i : Nat), n - i = d → i ≤ n → d < k →
    reliquaryref01_Pad.l0 k l n (padV l i) i = some (padV l n) := by
  induction d with
  | zero =>
    intro k i hd hi hk
    obtain ⟨k, rfl⟩ : ∃ m, k = m + 1 := ⟨k - 1, by omega⟩
    simp only [reliquaryref01_Pad.l0]
    rw [if_neg (by omega), show i = n by omega]
  | succ d ih =>
    intro k i hd hi hk
    obtain ⟨k, rfl⟩ : ∃ m, k = m + 1 := ⟨k - 1, by omega⟩
    have hs := padV_snoc l i
    have hp := padV_length l i
    simp only [reliquaryref01_Pad.l0]
    rw [if_pos (by omega), wrap64_id (by omega) (by omega)]
    by_cases h : i < l.length
    · rw [if_pos (by omega), if_pos (by omega), if_pos (by omega), ← hs]
      exact ih k (i + 1) (by omega) (by omega) (by omega)
    · have hz : rd l i = 0 := by simp [rd, List.getD_eq_getElem?_getD, List.getElem?_eq_none (show l.length ≤ i by omega)]
      rw [hz] at hs
      rw [if_neg (by omega), if_pos (by omega), ← hs]
      exact ih k (i + 1) (by omega) (by omega) (by omega)
theorem refpad_eq (k : Nat) (l : List Int) (n : Int) (hl : l.length ≤ 3000) (hn : n ≤ 3000) (hk : 3001 ≤ k) : reliquaryref01_Pad.f k l n = some (padV l n) := by
  unfold reliquaryref01_Pad.f
  by_cases h : 0 ≤ n
  · obtain ⟨m, rfl⟩ := Int.eq_ofNat_of_zero_le h
    have := refpad_loop l hl m (by omega) m k 0 (by omega) (by omega) (by omega)
    rw [show padV l ((0 : Nat) : Int) = [] by simp [padV]] at this
    exact this
  · obtain ⟨k, rfl⟩ : ∃ m, k = m + 1 := ⟨k - 1, by omega⟩
    simp only [reliquaryref01_Pad.l0]
    rw [if_neg (by omega)]
    unfold padV
    rw [show n.toNat = 0 by omega]
    simp
theorem WordPads : reliquarylaw01_WordPads.Pure := by
  intro b n l hb1 hb2 hb3 hn hl1 hl2 hl3
  refine ⟨5000, ?_⟩
  unfold reliquarylaw01_WordPads.f
  rw [awake_ok 5000 (by omega), Option.bind_some, if_pos rfl]
  have hyes : reliquarylaw01_WordPads.j0 5000 b n l true = some true := by
    simp [reliquarylaw01_WordPads.j0]
  by_cases h1 : (b.length : Int) > 3000
  · rw [if_pos h1]
    exact hyes
  · rw [if_neg h1]
    by_cases h2 : n > 3000
    · rw [if_pos h2]
      exact hyes
    · rw [if_neg h2]
      by_cases h3 : (l.length : Int) > 1000
      · rw [decide_eq_true h3]
        exact hyes
      · rw [decide_eq_false h3]
        have hu := wf_u64s hl3
        simp only [reliquarylaw01_WordPads.j0]
        rw [if_neg (by simp), word_Add_eq l hu, Option.bind_some, refadd_eq 4999 l (by omega) hu (by omega), Option.bind_some, word_Pad_eq b n (by omega), Option.bind_some, refpad_eq 4999 b n (by omega) (by omega) (by omega), Option.bind_some, if_pos rfl, if_pos rfl]
        simp
end Go.Proofs.Ytgdgidlbpeimoaa.Pure
