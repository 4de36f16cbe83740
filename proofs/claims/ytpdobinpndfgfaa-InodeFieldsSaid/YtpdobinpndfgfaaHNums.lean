/- Arrays of numbers that come in: their data, opened. -/
import Derived.Test.YtpdobinpndfgfaaProg
import Derived.WalkKit
import Derived.ProofKit
import Derived.OpenShut
import Derived.ShutString
import Derived.ChangeOld
import Derived.SizedLaws
namespace Go.Proofs.Ytpdobinpndfgfaa.Q
open Go.ChangeShapes Go.WideShapes Go.ChangeAt Go.RowKit
set_option linter.unusedVariables false
set_option linter.unusedSimpArgs false
/-- A list each of whose places holds a number is a list of numbers. -/
theorem nums_of {k : IntKind} {p : Int → Prop} : ∀ (cs : List Value), (∀ i, i < cs.length → ∃ z, cs[i]? = some (.int k z) ∧ p z) → ∃ l : List Int, cs = l.map (Value.int k) ∧ ∀ z ∈ l, p z
  | [], _ => ⟨[], rfl, fun _ h => by cases h⟩
  | c :: cs, h => by
    obtain ⟨z, hz, hp⟩ := h 0 (by simp)
    obtain ⟨l, hl, hq⟩ := nums_of cs (fun i hi => by
      obtain ⟨y, hy, hp⟩ := h (i + 1) (by simp; omega)
      exact ⟨y, by simpa using hy, hp⟩)
    refine ⟨z :: l, ?_, fun y hy => ?_⟩
    · simp at hz
      rw [hz, hl]
      rfl
    · rcases List.mem_cons.1 hy with rfl | hy
      · exact hp
      · exact hq y hy
section
variable {H : Type} {enc : TypeId × Value → H} {P : Program} {w : World} {base : Nat} {spare : Nat → Bool} {held : Bool} {fuel : Nat} {t : TypeId} {cs : List Value} {x : DataW H × List MemPlace}
theorem open_nums {n : Nat} {e : TypeId} {k : IntKind} (ht : P.underlying t = some (.array n e)) (he : P.underlying e = some (.int k)) (hce : P.cellsOf e = 1) (hct : P.cellsOf t = n) (h : DataW.trod enc P w base spare held fuel t cs = some x) :
    ∃ l : List Int, cs = l.map (Value.int k) ∧ l.length = n ∧ ∀ z ∈ l, (Lit.int k z).wf = true := by
  obtain ⟨xs, m, _, _, hl, hlen, hf⟩ := DataW.trod_array ht h
  rw [hct] at hl
  obtain ⟨l, h1, h2⟩ := nums_of (k := k) (p := fun z => (Lit.int k z).wf = true) cs (fun i hi => by
    have hq := hf i (by omega)
    rw [hce, Nat.mul_one, List.getElem?_eq_getElem (by omega)] at hq
    obtain ⟨z, h1, _, h3⟩ := DataW.trod_int he hq
    refine ⟨z, ?_, h3⟩
    have h4 : (cs.drop i).take 1 = [cs[i]] := by
      rw [List.drop_eq_getElem_cons hi]
      rfl
    rw [h4] at h1
    injection h1 with h1
    rw [List.getElem?_eq_getElem hi, h1])
  exact ⟨l, h1, by rw [← hl, h1, List.length_map], h2⟩
end
end Go.Proofs.Ytpdobinpndfgfaa.Q
