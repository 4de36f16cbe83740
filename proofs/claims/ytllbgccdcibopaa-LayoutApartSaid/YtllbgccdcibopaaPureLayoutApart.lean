/- No two inodes stand at one place; each stands whole in its block, ahead of data. -/
import Derived.Test.YtllbgccdcibopaaPureL
import Derived.Test.YtllbgccdcibopaaQxf5
namespace Go.Proofs.Ytllbgccdcibopaa.Pure
open Go.RowKit Go.Proofs.Ytllbgccdcibopaa.Q Go.Proofs.YtllbgccdcibopaaW.PrintWords Go.Proofs.YtllbgccdcibopaaW.PrintLast Go.Proofs.YtllbgccdcibopaaW.PrintMore
set_option linter.unusedVariables false
set_option linter.unusedSimpArgs false

theorem inodeV_in' {m n : Int} (h1 : 1 ≤ n) (h2 : n < m) : inodeV m n = (3 + n / 5, n % 5 * 32, 0) := by unfold inodeV; rw [if_neg (by omega)]
theorem inodeV_zero' {m : Int} : inodeV m 0 = (0, 0, 12) := by unfold inodeV; rw [if_pos (by omega)]
theorem LayoutApart : reliquarylaw17_LayoutApart.Pure := by
  intro b n p q hb hn hp hq
  have h1 := wf_u16 hb
  have h2 := wf_u16 hn
  have h3 := wf_u16 hp
  have h4 := wf_u16 hq
  refine ⟨1000, ?_⟩
  unfold reliquarylaw17_LayoutApart.f
  rw [awake17_ok 1000 (by omega), Option.bind_some, if_pos rfl, layout_New_eq 1000 (by omega), Option.bind_some, wrap64_id (n := b) (by omega) (by omega), wrap64_id (n := n) (by omega) (by omega), wrap64_id (n := p) (by omega) (by omega), wrap64_id (n := q) (by omega) (by omega)]
  by_cases h : newOk b n
  · rw [newV_ok h]
    unfold newOk at h
    simp only [if_true]
    rw [wrap64_id (n := n - 1) (by omega) (by omega), if_neg (by omega), Int.tmod_eq_emod_of_nonneg (by omega), Int.tmod_eq_emod_of_nonneg (by omega)]
    have hp0 := Int.emod_nonneg p (show n - 1 ≠ 0 by omega)
    have hp1 := Int.emod_lt_of_pos p (show 0 < n - 1 by omega)
    have hq0 := Int.emod_nonneg q (show n - 1 ≠ 0 by omega)
    have hq1 := Int.emod_lt_of_pos q (show 0 < n - 1 by omega)
    obtain ⟨x, hx⟩ : ∃ x, x = 1 + p % (n - 1) := ⟨_, rfl⟩
    obtain ⟨y, hy⟩ : ∃ y, y = 1 + q % (n - 1) := ⟨_, rfl⟩
    rw [← hx, ← hy]
    have hx0 : 1 ≤ x ∧ x < n := by omega
    have hy0 : 1 ≤ y ∧ y < n := by omega
    clear hx hy hp0 hp1 hq0 hq1
    rw [wrap64_id (n := x) (by omega) (by omega), wrap64_id (n := y) (by omega) (by omega), layout_Inode_eq _ _ _ _ (by omega), Option.bind_some, layout_Inode_eq _ _ _ _ (by omega), Option.bind_some, layout_Inode_eq _ _ _ _ (by omega), Option.bind_some,
      inodeV_in' hx0.1 hx0.2, inodeV_in' hy0.1 hy0.2, inodeV_zero']
    simp only [if_true]
    have t1 : (3 + x / 5 ≥ 3) := by omega
    have t2 : (3 + x / 5 < 3 + (n + 4) / 5) := by omega
    have t3 : (x % 5 * 32 ≥ 0) := by omega
    have t4 : wrap64 (x % 5 * 32 + 32) ≤ 160 := by rw [wrap64_id (by omega) (by omega)]; omega
    have t5 : Int.tmod (x % 5 * 32) 32 = 0 := by rw [Int.tmod_eq_emod_of_nonneg (by omega)]; omega
    have t6 : 3 + (n + 4) / 5 < b := by omega
    by_cases he : 3 + x / 5 = 3 + y / 5
    · have t7 : ((x % 5 * 32 == y % 5 * 32) == (x == y)) = true := by
        by_cases e : x = y
        · subst e; simp
        · have e1 : ¬ x % 5 * 32 = y % 5 * 32 := by omega
          rw [beq_eq_false_iff_ne.mpr e1, beq_eq_false_iff_ne.mpr e]
          rfl
      rw [if_pos he, if_pos t7, if_pos t1, if_pos t2, if_pos t3, if_pos t4, if_pos t5, decide_eq_true t6]
    · have e : ¬ x = y := fun e => he (by rw [e])
      have t7 : (false == (x == y)) = true := by rw [beq_eq_false_iff_ne.mpr e]; rfl
      rw [if_neg he, if_pos t7, if_pos t1, if_pos t2, if_pos t3, if_pos t4, if_pos t5, decide_eq_true t6]
  · rw [newV_no h]
    simp
end Go.Proofs.Ytllbgccdcibopaa.Pure
