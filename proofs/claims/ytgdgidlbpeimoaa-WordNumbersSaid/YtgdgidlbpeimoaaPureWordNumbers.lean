/- Numbers as bytes are the document's. -/
import Derived.Test.YtgdgidlbpeimoaaPureA01
import Derived.Test.YtgdgidlbpeimoaaQxf3
namespace Go.Proofs.Ytgdgidlbpeimoaa.Pure
open Go.RowKit Go.Proofs.Ytgdgidlbpeimoaa.Q Go.Proofs.YtgdgidlbpeimoaaW.PrintWords Go.Proofs.YtgdgidlbpeimoaaW.PrintLast Go.Proofs.YtgdgidlbpeimoaaW.PrintMore
set_option linter.unusedVariables false
set_option linter.unusedSimpArgs false

theorem WordNumbers : reliquarylaw01_WordNumbers.Pure := by
  intro l a n x hl1 hl2 hl3 ha hn hx
  have ka := wf_i64 ha
  have kn := wf_i64 hn
  have kx := wf_u64 hx
  have hu := wf_u8s hl3
  refine ⟨1000, ?_⟩
  unfold reliquarylaw01_WordNumbers.f
  rw [awake_ok 1000 (by omega), Option.bind_some, if_pos rfl]
  by_cases h : (l.length : Int) > 3000
  · rw [if_pos h]
  · rw [if_neg h, word_Get_eq l a n hu (by omega) ka.2, Option.bind_some, refget_eq 1000 (by omega) l a n hu (by omega) ka.2, Option.bind_some, word_Set_eq l a n x (by omega) ka.2 kx.1, Option.bind_some, refset_eq l a n x hu (by omega) ka.2 kx.1 kx.2, Option.bind_some, if_pos rfl, if_pos rfl, if_pos rfl, if_pos rfl, word_Put_eq 1000 (by omega) x n kx.1, Option.bind_some, refput_eq 1000 (by omega) x n kx.1 kx.2, Option.bind_some, beq_self_eq_true]
end Go.Proofs.Ytgdgidlbpeimoaa.Pure
