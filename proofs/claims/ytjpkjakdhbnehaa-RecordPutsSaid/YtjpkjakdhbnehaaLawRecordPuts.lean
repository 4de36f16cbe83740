-- Written by this session's own program (hand_row.py). Not trusted: Lean checks it.
import Derived.Test.YtjpkjakdhbnehaaRows
import Derived.Test.YtjpkjakdhbnehaaHPutsAll
import Derived.WalkKit
import Derived.ProofKit
import Derived.OpenShut
import Derived.ShutString
import Derived.ChangeOld
import Derived.Below
import Derived.SizedLaws
import Derived.Test.YtjpkjakdhbnehaaWSized
namespace Go.Proofs.Ytjpkjakdhbnehaa.recordPuts
open Go.ChangeShapes Go.WideShapes Go.ChangeAt Go.RowKit
open Go.ChangeMaps (open_string shut_string)
set_option linter.unusedVariables false
theorem own : ownKnob Try.prog.godebug = none := by kernel_rfl
theorem laidOut : laidOutB Try.prog = true := by kernel_rfl
def IsRow (k : IntKind) (w : World) (a : Option Addr) (len cap : Nat) (zs : List Int) : Prop :=
  (a = none ∧ len = 0 ∧ cap = 0 ∧ zs = []) ∨
  ∃ x, a = some x ∧ len ≤ cap ∧ cap ≤ maxLen ∧ zs.length = cap ∧ (∀ i, i < zs.length → w.cell? (x.add i) = some (.int k (zs.getD i 0))) ∧ ∀ n ∈ zs, (Lit.int k n).wf = true
set_option maxRecDepth 100000 in
theorem lifted (os : Os) (started : os.Started) (H : Type) (enc : TypeId × Value → H) :
    ReturnsInHanded {} Try.checked os 3 .any (Rows.recordPutsSpec.pre6 enc Try.prog Try.f3 Rows.recordPutsRow.domain false) (Rows.recordPutsSpec.post enc Try.prog Try.f3 false true false false) := by
  refine returnsInHanded_of_change_sized (C := Try.checked) own started (by kernel_rfl) Try.func3
    (ChangeSpec.witness6 (enc := enc) (C := Try.checked) false ⟨#[], #[.agg #[.int .u64 0, .slice none 0 0], .bool false, .bool false, .slice none 0 0], []⟩ 8 (by kernel_rfl) (by kernel_rfl) (by kernel_rfl) (by kernel_rfl)) ?_
  intro W base args ds gs before hval0 hW hcnd hsz0 _
  have hsz : (DataW.weightsEach Try.prog (Try.f3.params.toList ++ Rows.recordPutsSpec.plain.varTypes Try.prog) (ds ++ gs)).all (· ≤ reachBytes) = true := hsz0
  have hval : ∀ (j : Nat) t v, Try.f3.params[j]? = some t → args[j]? = some v → Value.okWide Try.prog W .any base t v := hval0
  have hW' := hW
  obtain ⟨p, q, hA0, hV, rfl, hfz, hnd⟩ := hW
  have hA : DataW.TrodAll enc Try.prog W 0 (fun _ => true) true Try.f3.params.toList args.toList ds p := hA0
  rw [Try.params3] at hA hval hsz
  obtain ⟨v0, vs0, d0, ds0, p0, q0, hargs, rfl, rfl, h0, r0⟩ := trodAll_cons hA
  obtain ⟨v1, vs1, d1, ds1, p1, q1, rfl, rfl, rfl, h1, r1⟩ := trodAll_cons r0
  obtain ⟨v2, vs2, d2, ds2, p2, q2, rfl, rfl, rfl, h2, r2⟩ := trodAll_cons r1
  obtain ⟨v3, vs3, d3, ds3, p3, q3, rfl, rfl, rfl, h3, r3⟩ := trodAll_cons r2
  obtain ⟨rfl, rfl, rfl⟩ := trodAll_nil r3
  obtain rfl : args = #[v0, v1, v2, v3] := by cases args; simp_all
  obtain ⟨rfl, rfl⟩ := trodVars_none hV
  obtain ⟨cs0, rfl, hz0⟩ := okWide_struct Try.underlying25 (hval 0 25 v0 rfl rfl)
  have k0 := h0
  have lt0 : ∀ x ∈ p0, x.block < W.heap.size := by obtain ⟨m, hm⟩ := k0; exact DataW.trod_lt m _ _ _ hm
  obtain ⟨a0_0, a0_1, len0_1, cap0_1, z0_1, hcs0, w0_0, w0_1⟩ : ∃ (a0_0 : Int) (a0_1 : Option Addr) (len0_1 cap0_1 : Nat) (z0_1 : List Int), cs0 = #[.int .u64 a0_0, .slice a0_1 len0_1 cap0_1] ∧ (Lit.int .u64 a0_0).wf = true ∧ IsRow .u8 W a0_1 len0_1 cap0_1 z0_1 := by
    have hz2 : cs0.size = 2 := hz0.trans (by kernel_rfl)
    obtain ⟨c0, c1, rfl⟩ : ∃ c0 c1 : Value, cs0 = #[c0, c1] := by
      rcases cs0 with ⟨_ | ⟨c0, _ | ⟨c1, _ | ⟨_, _⟩⟩⟩⟩ <;> simp at hz2
      exact ⟨c0, c1, rfl⟩
    obtain ⟨fuel, hf⟩ := h0
    obtain ⟨xs, n, _, _, hl, hlen, hff⟩ := DataW.trod_struct Try.underlying25 hf
    have hq0 := hff 0 _ rfl
    rw [List.getElem?_eq_getElem (show 0 < xs.length by rw [hlen]; decide)] at hq0
    have u0 : Try.prog.cellsOf 22 = 1 := by kernel_rfl
    obtain ⟨a0_0, e_, _, w0_0⟩ := DataW.trod_int Try.underlying22 hq0
    obtain rfl : c0 = .int .u64 a0_0 := by simpa [Value.cells, u0] using e_
    have hq1 := hff 1 _ rfl
    rw [List.getElem?_eq_getElem (show 1 < xs.length by rw [hlen]; decide)] at hq1
    have u1 : Try.prog.cellsOf 23 = 1 := by kernel_rfl
    obtain ⟨a0_1, len0_1, cap0_1, z0_1, rfl, w0_1⟩ : ∃ (a : Option Addr) (len cap : Nat) (zs : List Int), c1 = .slice a len cap ∧ IsRow .u8 W a len cap zs := by
      rcases open_ints Try.underlying23 Try.underlying5 (by kernel_rfl) hq1 with ⟨e_, _⟩ | ⟨x, l, c, zs, e_, _, hl_, hm_, hz_, _, hc_, hw_⟩
      · have e2_ : c1 = .slice none 0 0 := by simpa [Value.cells, u1] using e_
        exact ⟨none, 0, 0, [], e2_, .inl ⟨rfl, rfl, rfl, rfl⟩⟩
      · have e2_ : c1 = .slice (some x) l c := by simpa [Value.cells, u1] using e_
        exact ⟨some x, l, c, zs, e2_, .inr ⟨_, rfl, hl_, hm_, by simpa using hz_, hc_, hw_⟩⟩
    exact ⟨a0_0, a0_1, len0_1, cap0_1, z0_1, rfl, w0_0, w0_1⟩
  subst hcs0
  obtain ⟨l0, rfl, hr0, hm0, hw0, hc0⟩ := Go.Proofs.YtjpkjakdhbnehaaW.PrintWords.ReadsInt.ofRowC w0_1
  obtain ⟨a1, rfl, rfl, rfl⟩ := open_bool Try.underlying4 (hval 1 4 v1 rfl rfl) h1
  obtain ⟨a2, rfl, rfl, rfl⟩ := open_bool Try.underlying4 (hval 2 4 v2 rfl rfl) h2
  obtain ⟨a3, len3, cap3, rfl⟩ := okWide_slice Try.underlying23 (hval 3 23 v3 rfl rfl)
  have k3 := h3
  have lt3 : ∀ x ∈ p3, x.block < W.heap.size := by obtain ⟨m, hm⟩ := k3; exact DataW.trod_lt m _ _ _ hm
  obtain ⟨z3, w3⟩ : ∃ zs, IsRow .u8 W a3 len3 cap3 zs := by
    obtain ⟨fuel, hf⟩ := h3
    rcases open_ints Try.underlying23 Try.underlying5 (by kernel_rfl) hf with ⟨hcs, _⟩ | ⟨x, l, c, zs, hcs, _, hl, hm, hz, _, hcell, hwz⟩
    · simp [Value.cells] at hcs
      obtain ⟨rfl, rfl, rfl⟩ := hcs
      exact ⟨[], .inl ⟨rfl, rfl, rfl, rfl⟩⟩
    · simp [Value.cells] at hcs
      obtain ⟨rfl, rfl, rfl⟩ := hcs
      exact ⟨zs, .inr ⟨_, rfl, hl, hm, by simpa using hz, hcell, hwz⟩⟩
  have y3 : len3 * 1 ≤ 140737488351232 := Go.Proofs.YtjpkjakdhbnehaaW.PrintWords.sized_ints hsz (j := 3) (t := 23) rfl rfl Try.underlying23 Try.underlying5 (by kernel_rfl) (by kernel_rfl) h3
  obtain ⟨l3, rfl, hr3, hm3, hw3, hc3⟩ := Go.Proofs.YtjpkjakdhbnehaaW.PrintWords.ReadsInt.ofRowC w3
  clear hA0 hval0 hsz0 hsz
  refine (Q.RecordPuts.walk W a0_0 (Pure.wf_u64 w0_0).1 (Pure.wf_u64 w0_0).2 a0_1 cap0_1 l0 (Go.Proofs.YtjpkjakdhbnehaaW.PrintWords.Kd.C_of_reads (d := (0 : Int)) (h1 := fun _ => rfl) hr0) hc0 (Pure.wf_u8s hw0) a1 a2 a3 cap3 l3 (Go.Proofs.YtjpkjakdhbnehaaW.PrintWords.Kd.C_of_reads (d := (0 : Int)) (h1 := fun _ => rfl) hr3) hc3 (Pure.wf_u8s hw3) (by omega)).mono fun e W' ⟨he, bel⟩ => ?_
  subst he
  exact ⟨_, rfl, _, _, _, [], _, [], hW', trodAll_mk1 (shut_bool Try.underlying4 _), (trodAll_cons_mk (Below.trod laidOut (by kernel_rfl) (of_decide_eq_true (by kernel_rfl)) k0 bel lt0) (trodAll_cons_mk (shut_bool Try.underlying4 _) (trodAll_cons_mk (shut_bool Try.underlying4 _) (trodAll_cons_mk (Below.trod laidOut (by kernel_rfl) (of_decide_eq_true (by kernel_rfl)) k3 bel lt3) trodAll_mk0)))), rfl, bel.frame _, fun h => by cases h⟩
theorem over : Rows.recordPutsRow.holds Try.pinned (OpenSpec.ofChange Rows.recordPutsSpec) :=
  OpenClaim.holds_of_wide 3 Try.f3 rfl rfl rfl rfl rfl rfl rfl ⟨rfl, rfl, rfl, rfl, rfl⟩ rfl rfl rfl rfl rfl (by kernel_rfl) Try.func3 (by kernel_rfl)
    (of_decide_eq_true (by kernel_rfl)) (by unfold Func.isWrapper; first | (rw [if_pos (by decide +kernel)]; kernel_rfl) | (rw [if_neg (by decide +kernel)]; exact ⟨rfl, rfl⟩))
    (fun os started H enc _ => lifted os started H enc)
theorem proved : Rows.RecordPutsSaid := over
#print axioms proved
end Go.Proofs.Ytjpkjakdhbnehaa.recordPuts
namespace Go.Proofs.Ytjpkjakdhbnehaa
/-- The row, under a short name, for the claim. -/
theorem recordPuts_holds : Rows.RecordPutsSaid := recordPuts.proved
end Go.Proofs.Ytjpkjakdhbnehaa
