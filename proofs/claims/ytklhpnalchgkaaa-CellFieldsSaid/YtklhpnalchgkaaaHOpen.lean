/- A cell that comes in. -/
import Derived.Test.YtklhpnalchgkaaaHNums
import Derived.Test.YtklhpnalchgkaaaHAwake
namespace Go.Proofs.Ytklhpnalchgkaaa.Q
open Go.ChangeShapes Go.WideShapes Go.ChangeAt Go.RowKit Go.Proofs.YtklhpnalchgkaaaW.PrintWords Go.Proofs.Ytklhpnalchgkaaa.Pure
set_option linter.unusedVariables false
set_option linter.unusedSimpArgs false
theorem open_cellL {H : Type} {enc : TypeId × Value → H} {W : World} {base fuel : Nat} {spare : Nat → Bool} {held : Bool} {cs : List Value} {y : DataW H × List MemPlace} (hf : DataW.trod enc Try.prog W base spare held fuel 26 cs = some y) : ∃ x : CellV, x.Ok ∧ cs = x.cellL := by
  obtain ⟨xs, n, _, _, hl, hlen, hff⟩ := DataW.trod_struct Try.underlying26 hf
  have u1 : Try.prog.cellsOf 24 = 1 := by kernel_rfl
  have u8 : Try.prog.cellsOf 5 = 1 := by kernel_rfl
  have u32 : Try.prog.cellsOf 23 = 32 := by kernel_rfl
  have uc : Try.prog.cellsOf 26 = 68 := by kernel_rfl
  rw [uc] at hl
  have hq0 := hff 0 _ rfl
  rw [List.getElem?_eq_getElem (show 0 < xs.length by rw [hlen]; decide)] at hq0
  obtain ⟨root, hr1, hr2, hr3⟩ := open_nums Try.underlying23 Try.underlying5 u8 u32 hq0
  have hq5 := hff 5 _ rfl
  rw [List.getElem?_eq_getElem (show 5 < xs.length by rw [hlen]; decide)] at hq5
  obtain ⟨tag, ht1, ht2, ht3⟩ := open_nums Try.underlying23 Try.underlying5 u8 u32 hq5
  have num : ∀ (off : Nat) (x : DataW H × List MemPlace), off < 68 → DataW.trod enc Try.prog W base spare held n 24 ((cs.drop off).take (Try.prog.cellsOf 24)) = some x → ∃ z, cs[off]? = some (.int .u64 z) ∧ (Lit.int .u64 z).wf = true := by
    intro off x ho hq
    rw [u1] at hq
    obtain ⟨z, h1, _, h3⟩ := DataW.trod_int Try.underlying24 hq
    refine ⟨z, ?_, h3⟩
    have h4 : (cs.drop off).take 1 = [cs[off]'(by omega)] := by
      rw [List.drop_eq_getElem_cons (by omega)]
      rfl
    rw [h4] at h1
    injection h1 with h1
    rw [List.getElem?_eq_getElem (by omega), h1]
  obtain ⟨z1, a1, b1⟩ := num 32 _ (by decide) ((hff 1 _ rfl).trans (List.getElem?_eq_getElem (show 1 < xs.length by rw [hlen]; decide)))
  obtain ⟨z2, a2, b2⟩ := num 33 _ (by decide) ((hff 2 _ rfl).trans (List.getElem?_eq_getElem (show 2 < xs.length by rw [hlen]; decide)))
  obtain ⟨z3, a3, b3⟩ := num 34 _ (by decide) ((hff 3 _ rfl).trans (List.getElem?_eq_getElem (show 3 < xs.length by rw [hlen]; decide)))
  obtain ⟨z4, a4, b4⟩ := num 35 _ (by decide) ((hff 4 _ rfl).trans (List.getElem?_eq_getElem (show 4 < xs.length by rw [hlen]; decide)))
  have w8 : ∀ {l : List Int}, (∀ z ∈ l, (Lit.int .u8 z).wf = true) → u8s l := fun h => wf_u8s h
  refine ⟨⟨root, z1, z2, z3, z4, tag⟩, ⟨hr2, ht2, w8 hr3, w8 ht3, wf_u64 b1, wf_u64 b2, wf_u64 b3, wf_u64 b4⟩, ?_⟩
  have h0 : cs.take 32 = root.map (Value.int .u8) := by
    replace hr1 : (cs.drop 0).take (Try.prog.cellsOf 23) = root.map (Value.int .u8) := hr1
    rw [u32] at hr1
    exact hr1
  have h5 : cs.drop 36 = tag.map (Value.int .u8) := by
    replace ht1 : (cs.drop 36).take (Try.prog.cellsOf 23) = tag.map (Value.int .u8) := ht1
    rw [u32] at ht1
    have : (cs.drop 36).take 32 = cs.drop 36 := List.take_of_length_le (by rw [List.length_drop]; omega)
    rw [← this]
    exact ht1
  have e : ∀ (i : Nat) (u : Value), cs[i]? = some u → cs.drop i = u :: cs.drop (i + 1) := by
    intro i u hu
    obtain ⟨hi, rfl⟩ := List.getElem?_eq_some_iff.1 hu
    exact List.drop_eq_getElem_cons hi
  have key : cs = cs.take 32 ++ ([Value.int .u64 z1, Value.int .u64 z2, Value.int .u64 z3, Value.int .u64 z4] ++ cs.drop 36) := by
    conv => lhs; rw [← List.take_append_drop 32 cs, e 32 _ a1, e 33 _ a2, e 34 _ a3, e 35 _ a4]
    rfl
  rw [key, h0, h5]
  rfl
theorem open_cell {H : Type} {enc : TypeId × Value → H} {W : World} {base : Nat} {r : _} {v : Value} {d : DataW H} {p : List MemPlace} (hv : Value.okWide Try.prog W r base 26 v) (h : DataW.Trod enc Try.prog W 0 (fun _ => true) true 26 v d p) : ∃ x : CellV, x.Ok ∧ v = .agg x.cells := by
  obtain ⟨cs, rfl, hz⟩ := okWide_struct Try.underlying26 hv
  obtain ⟨fuel, hf⟩ := h
  obtain ⟨x, hx, he⟩ := open_cellL hf
  refine ⟨x, hx, ?_⟩
  congr 1
  apply Array.toList_inj.1
  exact he
end Go.Proofs.Ytklhpnalchgkaaa.Q
