/- The layout of any numbers, and where any inode stands, are the document's, or refused. -/
import Derived.Test.YtllbgccdcibopaaPureL
import Derived.Test.YtllbgccdcibopaaQxf3
import Derived.Test.YtllbgccdcibopaaQxf11
namespace Go.Proofs.Ytllbgccdcibopaa.Pure
open Go.RowKit Go.Proofs.Ytllbgccdcibopaa.Q Go.Proofs.YtllbgccdcibopaaW.PrintWords Go.Proofs.YtllbgccdcibopaaW.PrintLast Go.Proofs.YtllbgccdcibopaaW.PrintMore
set_option linter.unusedVariables false
set_option linter.unusedSimpArgs false

theorem LayoutTells : reliquarylaw17_LayoutTells.Pure := by
  intro b n x hb hn hx
  refine ⟨1000, ?_⟩
  unfold reliquarylaw17_LayoutTells.f
  rw [awake17_ok 1000 (by omega), Option.bind_some, if_pos rfl, layout_New_eq 1000 (by omega), Option.bind_some, refnew_eq 1000 (by omega), Option.bind_some, if_pos rfl]
  unfold reliquarylaw17_modelOf.f
  rw [Option.bind_some]
  by_cases h : newOk b n
  · have h1 := h
    unfold newOk at h1
    rw [newV_ok h]
    simp only [reliquarylaw17_LayoutTells.j0, beq_self_eq_true, Bool.not_true, Bool.or_false, Bool.false_eq_true, if_false, if_true]
    rw [layout_Inode_eq _ _ _ _ (by omega), Option.bind_some, refinode_eq 999 (by omega) _ _ _ _ _ (by omega), Option.bind_some, if_pos rfl, if_pos rfl, if_pos rfl, layout_Put_eq _ _ _ _ (by omega) (by omega) (by omega) (by omega), Option.bind_some, refputL_eq _ _ _ _ (by omega) (by omega) (by omega) (by omega), Option.bind_some]
    simp
  · rw [newV_no h]
    simp [reliquarylaw17_LayoutTells.j0]
end Go.Proofs.Ytllbgccdcibopaa.Pure
