/- An inode that comes in. -/
import Derived.Test.YtpdobinpndfgfaaHNums
import Derived.Test.YtpdobinpndfgfaaHAwake
namespace Go.Proofs.Ytpdobinpndfgfaa.Q
open Go.ChangeShapes Go.WideShapes Go.ChangeAt Go.RowKit Go.Proofs.YtpdobinpndfgfaaW.PrintWords Go.Proofs.Ytpdobinpndfgfaa.Pure
set_option linter.unusedVariables false
set_option linter.unusedSimpArgs false
theorem open_inoL {H : Type} {enc : TypeId × Value → H} {W : World} {base fuel : Nat} {spare : Nat → Bool} {held : Bool} {cs : List Value} {y : DataW H × List MemPlace} (hf : DataW.trod enc Try.prog W base spare held fuel 26 cs = some y) : ∃ x : InoV, x.Ok ∧ cs = x.cellL := by
  obtain ⟨xs, n, _, _, hl, hlen, hff⟩ := DataW.trod_struct Try.underlying26 hf
  have u8 : Try.prog.cellsOf 5 = 1 := by kernel_rfl
  have u16 : Try.prog.cellsOf 22 = 1 := by kernel_rfl
  have u32 : Try.prog.cellsOf 23 = 1 := by kernel_rfl
  have ua : Try.prog.cellsOf 24 = 3 := by kernel_rfl
  have uc : Try.prog.cellsOf 26 = 8 := by kernel_rfl
  rw [uc] at hl
  have hq3 := hff 3 _ rfl
  rw [List.getElem?_eq_getElem (show 3 < xs.length by rw [hlen]; decide)] at hq3
  obtain ⟨nums, hr1, hr2, hr3⟩ := open_nums Try.underlying24 Try.underlying22 u16 ua hq3
  have num : ∀ (t : TypeId) (k : IntKind), Try.prog.underlying t = some (.int k) → Try.prog.cellsOf t = 1 → ∀ (off : Nat) (x : DataW H × List MemPlace), off < 8 → DataW.trod enc Try.prog W base spare held n t ((cs.drop off).take (Try.prog.cellsOf t)) = some x → ∃ z, cs[off]? = some (.int k z) ∧ (Lit.int k z).wf = true := by
    intro t k ht ut off x ho hq
    rw [ut] at hq
    obtain ⟨z, h1, _, h3⟩ := DataW.trod_int ht hq
    refine ⟨z, ?_, h3⟩
    have h4 : (cs.drop off).take 1 = [cs[off]'(by omega)] := by
      rw [List.drop_eq_getElem_cons (by omega)]
      rfl
    rw [h4] at h1
    injection h1 with h1
    rw [List.getElem?_eq_getElem (by omega), h1]
  obtain ⟨z0, a0, b0⟩ := num 5 .u8 Try.underlying5 u8 0 _ (by decide) ((hff 0 _ rfl).trans (List.getElem?_eq_getElem (show 0 < xs.length by rw [hlen]; decide)))
  obtain ⟨z1, a1, b1⟩ := num 22 .u16 Try.underlying22 u16 1 _ (by decide) ((hff 1 _ rfl).trans (List.getElem?_eq_getElem (show 1 < xs.length by rw [hlen]; decide)))
  obtain ⟨z2, a2, b2⟩ := num 23 .u32 Try.underlying23 u32 2 _ (by decide) ((hff 2 _ rfl).trans (List.getElem?_eq_getElem (show 2 < xs.length by rw [hlen]; decide)))
  obtain ⟨z6, a6, b6⟩ := num 22 .u16 Try.underlying22 u16 6 _ (by decide) ((hff 4 _ rfl).trans (List.getElem?_eq_getElem (show 4 < xs.length by rw [hlen]; decide)))
  obtain ⟨z7, a7, b7⟩ := num 22 .u16 Try.underlying22 u16 7 _ (by decide) ((hff 5 _ rfl).trans (List.getElem?_eq_getElem (show 5 < xs.length by rw [hlen]; decide)))
  match nums, hr2 with
  | [n0, n1, n2], _ =>
    have w8 : ∀ {z : Int}, (Lit.int .u8 z).wf = true → 0 ≤ z ∧ z < 256 := fun {z} h => by simp [Lit.wf, IntKind.min, IntKind.max, IntKind.bits, IntKind.signed] at h; omega
    have w16 : ∀ {z : Int}, (Lit.int .u16 z).wf = true → u16r z := fun {z} h => by unfold u16r; simp [Lit.wf, IntKind.min, IntKind.max, IntKind.bits, IntKind.signed] at h; omega
    have w32 : ∀ {z : Int}, (Lit.int .u32 z).wf = true → 0 ≤ z ∧ z < 4294967296 := fun {z} h => by simp [Lit.wf, IntKind.min, IntKind.max, IntKind.bits, IntKind.signed] at h; omega
    refine ⟨⟨z0, z1, z2, n0, n1, n2, z6, z7⟩, ⟨w8 b0, w16 b1, w32 b2, w16 (hr3 _ (by simp)), w16 (hr3 _ (by simp)), w16 (hr3 _ (by simp)), w16 b6, w16 b7⟩, ?_⟩
    have h3 : (cs.drop 3).take 3 = [Value.int .u16 n0, Value.int .u16 n1, Value.int .u16 n2] := by
      replace hr1 : (cs.drop 3).take (Try.prog.cellsOf 24) = [Value.int .u16 n0, Value.int .u16 n1, Value.int .u16 n2] := hr1
      rw [ua] at hr1
      exact hr1
    match cs, hl with
    | [c0, c1, c2, c3, c4, c5, c6, c7], _ =>
      injection a0 with a0
      injection a1 with a1
      injection a2 with a2
      injection a6 with a6
      injection a7 with a7
      replace h3 : [c3, c4, c5] = [Value.int .u16 n0, Value.int .u16 n1, Value.int .u16 n2] := h3
      injection h3 with e3 h3
      injection h3 with e4 h3
      injection h3 with e5 h3
      replace a0 : c0 = _ := a0
      replace a1 : c1 = _ := a1
      replace a2 : c2 = _ := a2
      replace a6 : c6 = _ := a6
      replace a7 : c7 = _ := a7
      rw [a0, a1, a2, e3, e4, e5, a6, a7]
      rfl
theorem open_ino {H : Type} {enc : TypeId × Value → H} {W : World} {base : Nat} {r : _} {v : Value} {d : DataW H} {p : List MemPlace} (hv : Value.okWide Try.prog W r base 26 v) (h : DataW.Trod enc Try.prog W 0 (fun _ => true) true 26 v d p) : ∃ x : InoV, x.Ok ∧ v = .agg x.cells := by
  obtain ⟨cs, rfl, hz⟩ := okWide_struct Try.underlying26 hv
  obtain ⟨fuel, hf⟩ := h
  obtain ⟨x, hx, he⟩ := open_inoL hf
  refine ⟨x, hx, ?_⟩
  congr 1
  apply Array.toList_inj.1
  exact he
end Go.Proofs.Ytpdobinpndfgfaa.Q
