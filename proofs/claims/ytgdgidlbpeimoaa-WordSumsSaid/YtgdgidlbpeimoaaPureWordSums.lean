/- A sum is told just if none of its parts goes over; nothing added changes nothing; parts may be summed up first. -/
import Derived.Test.YtgdgidlbpeimoaaPureA01
import Derived.Test.YtgdgidlbpeimoaaQxf6
namespace Go.Proofs.Ytgdgidlbpeimoaa.Pure
open Go.RowKit Go.Proofs.Ytgdgidlbpeimoaa.Q Go.Proofs.YtgdgidlbpeimoaaW.PrintWords Go.Proofs.YtgdgidlbpeimoaaW.PrintLast Go.Proofs.YtgdgidlbpeimoaaW.PrintMore
set_option linter.unusedVariables false

theorem addGo2 (a b : Int) (ha : a < m64) : addGo 0 [a, b] = if a + b < m64 then (a + b, true) else (0, false) := by
  simp only [addGo]
  rw [Int.zero_add, if_pos ha]
theorem addGo3 (a b c : Int) (ha : a < m64) : addGo 0 [a, b, c] = if a + b < m64 then (if a + b + c < m64 then (a + b + c, true) else (0, false)) else (0, false) := by
  simp only [addGo]
  rw [Int.zero_add, if_pos ha]
theorem WordSums : reliquarylaw01_WordSums.Pure := by
  intro a b c ha hb hc
  have h1 := wf_u64 ha
  have h2 := wf_u64 hb
  have h3 := wf_u64 hc
  refine ⟨9, ?_⟩
  have hm : m64 = 18446744073709551616 := rfl
  unfold reliquarylaw01_WordSums.f
  rw [awake_ok 9 (by omega), Option.bind_some, if_pos rfl, word_Add_eq [a, b] (by intro x hx; simp at hx; omega), Option.bind_some, word_Add_eq [a, b, c] (by intro x hx; simp at hx; omega), Option.bind_some]
  rw [addGo2 a b (by omega), addGo3 a b c (by omega)]
  by_cases h : a + b < m64
  · rw [if_pos h, if_pos h]
    rw [word_Add_eq [a + b, c] (by intro x hx; simp at hx; omega), Option.bind_some, word_Add_eq [a, 0, 0] (by intro x hx; simp at hx; omega), Option.bind_some, word_Add_eq [] (by intro x hx; simp at hx), Option.bind_some]
    rw [addGo2 (a + b) c h, addGo3 a 0 0 (by omega), if_pos (show a + 0 < m64 by omega), if_pos (show a + 0 + 0 < m64 by omega), wrapu_id (n := 18446744073709551615 - b) (by omega) (by omega), wrapu_id (n := a + b) (by omega) (by omega)]
    have hd : decide (a ≤ 18446744073709551615 - b) = true := decide_eq_true (by omega)
    rw [hd]
    by_cases h4 : a + b + c < m64
    · rw [if_pos h4]
      simp [addGo]
    · rw [if_neg h4]
      simp [addGo]
  · rw [if_neg h, if_neg h]
    rw [word_Add_eq [0, c] (by intro x hx; simp at hx; omega), Option.bind_some, word_Add_eq [a, 0, 0] (by intro x hx; simp at hx; omega), Option.bind_some, word_Add_eq [] (by intro x hx; simp at hx), Option.bind_some]
    rw [addGo3 a 0 0 (by omega), if_pos (show a + 0 < m64 by omega), if_pos (show a + 0 + 0 < m64 by omega), wrapu_id (n := 18446744073709551615 - b) (by omega) (by omega)]
    have hd : decide (a ≤ 18446744073709551615 - b) = false := decide_eq_false (by omega)
    rw [hd]
    simp [addGo]
end Go.Proofs.Ytgdgidlbpeimoaa.Pure
