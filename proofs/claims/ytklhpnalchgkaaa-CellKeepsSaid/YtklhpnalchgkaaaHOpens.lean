/- A slice of cells that comes in. -/
import Derived.Test.YtklhpnalchgkaaaHOpen
import Derived.Test.YtklhpnalchgkaaaHKeeps
namespace Go.Proofs.Ytklhpnalchgkaaa.Q
open Go.ChangeShapes Go.WideShapes Go.ChangeAt Go.RowKit Go.Proofs.YtklhpnalchgkaaaW.PrintWords Go.Proofs.Ytklhpnalchgkaaa.Pure
set_option linter.unusedVariables false
set_option linter.unusedSimpArgs false
/-- What came in, and what is known of it. -/
structure CellsIn where
  a : Option Addr
  c : Nat
  xs : List CellV
def CellsIn.Ok (W : World) (x : CellsIn) : Prop := CellsAt W x.a x.xs ∧ ∀ y ∈ x.xs, y.Ok
theorem list_of {p : Nat → CellV → Prop} : ∀ (n : Nat), (∀ i, i < n → ∃ x, p i x) → ∃ l : List CellV, l.length = n ∧ ∀ i x, l[i]? = some x → p i x
  | 0, _ => ⟨[], rfl, fun i x h => by simp at h⟩
  | n + 1, h => by
    obtain ⟨l, h1, h2⟩ := list_of n (fun i hi => h i (by omega))
    obtain ⟨y, hy⟩ := h n (by omega)
    refine ⟨l ++ [y], by simp [h1], fun i x hx => ?_⟩
    by_cases hi : i < l.length
    · rw [List.getElem?_append_left hi] at hx
      exact h2 i x hx
    · have hlt := (List.getElem?_eq_some_iff.1 hx).1
      simp at hlt
      have : i = l.length := by omega
      subst this
      rw [List.getElem?_append_right (Nat.le_refl _), Nat.sub_self] at hx
      simp at hx
      subst hx
      rw [h1]
      exact hy
theorem open_cells {H : Type} {enc : TypeId × Value → H} {W : World} {base : Nat} {r : _} {v : Value} {d : DataW H} {p : List MemPlace} {ts : List TypeId} {ds : List (DataW H)} {j : Nat} (hsz : (DataW.weightsEach Try.prog ts ds).all (· ≤ reachBytes) = true) (ht : ts[j]? = some 34) (hd : ds[j]? = some d)
    (hv : Value.okWide Try.prog W r base 34 v) (h : DataW.Trod enc Try.prog W 0 (fun _ => true) true 34 v d p) : ∃ x : CellsIn, CellsIn.Ok W x ∧ v = .slice x.a x.xs.length x.c := by
  obtain ⟨a, len, cap, rfl⟩ := okWide_slice Try.underlying34 hv
  obtain ⟨fuel, hf⟩ := h
  have uc : Try.prog.cellsOf 26 = 68 := by kernel_rfl
  have ub : Try.prog.bytesOf 26 = 96 := by kernel_rfl
  rcases DataW.trod_slice Try.underlying34 hf with ⟨hcs, _⟩ | ⟨ad, len', cap', elems, rest, n, _, hcs, hx, _, hle, hm, hlen, hel, _, _⟩
  · simp [Value.cells] at hcs
    obtain ⟨rfl, rfl, rfl⟩ := hcs
    exact ⟨⟨none, 0, []⟩, ⟨⟨by simp, fun h => absurd h (by simp)⟩, fun y hy => by cases hy⟩, rfl⟩
  · simp [Value.cells] at hcs
    obtain ⟨rfl, rfl, rfl⟩ := hcs
    obtain ⟨hx, _⟩ := Prod.mk.inj hx
    subst hx
    have z := sized_slice hsz ht hd Try.underlying34
    rw [ub, List.length_map, hlen] at z
    obtain ⟨l, h1, h2⟩ := list_of (p := fun i x => x.Ok ∧ ∀ (k : Nat) (u : Value), x.cellL[k]? = some u → W.cell? (ad.add (i * 68 + k)) = some u) len (fun i hi => by
      have hq := hel i hi
      rw [List.getElem?_eq_getElem (by omega), Option.bind_eq_some_iff] at hq
      obtain ⟨cs, hc, hq⟩ := hq
      obtain ⟨x, hx, rfl⟩ := open_cellL hq
      refine ⟨x, hx, fun k u hu => ?_⟩
      rw [uc] at hc
      obtain ⟨_, hcl, hcg⟩ := World.cells?_some hc
      have hk := (List.getElem?_eq_some_iff.1 hu).1
      have := hcg k (by omega)
      rw [add_add] at this
      rw [this, hu])
    have hr : reachBytes = 140737488351232 := rfl
    refine ⟨⟨some ad, cap, l⟩, ⟨⟨by rw [h1]; rw [hr] at z; have := Nat.le_trans (Nat.mul_le_mul_right 96 (Nat.le_add_right len _)) z; omega, fun _ => ⟨ad, rfl, fun j x hj => (h2 j x hj).2⟩⟩, fun y hy => ?_⟩, by rw [h1]⟩
    obtain ⟨i, hi⟩ := List.mem_iff_getElem?.1 hy
    exact (h2 i y hi).1
theorem CellKeeps.walk2 (w : World) (x : CellsIn) (hx : CellsIn.Ok w x) :
    Calls Try.prog 4 #[.slice x.a x.xs.length x.c] w fun e w' => e = .returned (.bool true) ∧ Below w.heap.size w w' := CellKeeps.walk w x.a x.c x.xs hx.1 hx.2
end Go.Proofs.Ytklhpnalchgkaaa.Q
