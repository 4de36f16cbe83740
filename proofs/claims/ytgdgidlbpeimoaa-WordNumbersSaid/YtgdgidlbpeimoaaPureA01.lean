/- The document's examples of layer 1 hold; small facts on masks and shifts. -/
import Derived.Test.YtgdgidlbpeimoaaPureW
import Derived.Test.YtgdgidlbpeimoaaQxf9
namespace Go.Proofs.Ytgdgidlbpeimoaa.Pure
open Go.RowKit Go.Proofs.Ytgdgidlbpeimoaa.Q Go.Proofs.YtgdgidlbpeimoaaW.PrintWords Go.Proofs.YtgdgidlbpeimoaaW.PrintLast Go.Proofs.YtgdgidlbpeimoaaW.PrintMore
set_option linter.unusedVariables false

theorem awake_ok (k : Nat) (hk : 9 ≤ k) : reliquarylaw01_awake.f k = some true := by
  unfold reliquarylaw01_awake.f
  rw [word_Put_eq k hk 258 2 (by decide), Option.bind_some, word_Get_eq [2, 1] 0 2 (by decide) (by decide) (by decide), Option.bind_some, word_Set_eq [9, 9, 9] 1 1 5 (by decide) (by decide) (by decide), Option.bind_some,
    word_Add_eq [1, 2, 3] (by decide), Option.bind_some, word_Pad_eq [1, 2, 3] 2 (by decide)]
  decide +kernel

theorem wf_u8s {l : List Int} (h : ∀ x ∈ l, (Lit.int .u8 x).wf = true) : u8s l := fun x hx => by
  have := h x hx
  simp [Lit.wf, IntKind.min, IntKind.max, IntKind.signed, IntKind.bits] at this
  omega
theorem wf_u64 {n : Int} (h : (Lit.int .u64 n).wf = true) : 0 ≤ n ∧ n < 18446744073709551616 := by
  simp [Lit.wf, IntKind.min, IntKind.max, IntKind.signed, IntKind.bits] at h
  omega
theorem wf_i64 {n : Int} (h : (Lit.int .i64 n).wf = true) : -9223372036854775808 ≤ n ∧ n ≤ 9223372036854775807 := by
  simp [Lit.wf, IntKind.min, IntKind.max, IntKind.signed, IntKind.bits] at h
  omega
theorem wf_u16 {n : Int} (h : (Lit.int .u16 n).wf = true) : 0 ≤ n ∧ n < 65536 := by
  simp [Lit.wf, IntKind.min, IntKind.max, IntKind.signed, IntKind.bits] at h
  omega
theorem wf_u64s {l : List Int} (h : ∀ x ∈ l, (Lit.int .u64 x).wf = true) : u64s l := fun x hx => by
  have := wf_u64 (h x hx)
  unfold m64
  omega
theorem and7 (x : Int) : 0 ≤ Go.bits .and .i64 x 7 ∧ Go.bits .and .i64 x 7 ≤ 7 := by
  have h : (BitVec.ofInt IntKind.i64.bits x &&& BitVec.ofInt IntKind.i64.bits 7).toNat ≤ 7 := by
    rw [BitVec.toNat_and]
    exact Nat.and_le_right
  have e : Go.bits .and .i64 x 7 = IntKind.i64.wrap ((BitVec.ofInt IntKind.i64.bits x &&& BitVec.ofInt IntKind.i64.bits 7).toNat : Int) := rfl
  rw [e, i64_w, wrap64_id (by omega) (by omega)]
  omega
theorem shift_back (x : Int) (k : Nat) (hk : 1 ≤ k) (hk8 : k ≤ 8) (hx : 0 ≤ x) (hx1 : x < 18446744073709551616) :
    shr .u64 (shl .u64 x (64 - 8 * (k : Int))) (64 - 8 * (k : Int)) = x % 256 ^ k := by
  unfold shr shl
  have e : (64 - 8 * (k : Int)).toNat = 64 - 8 * k := by omega
  rw [e, show IntKind.u64.bits = 64 from rfl, Nat.min_eq_left (by omega)]
  have hw : IntKind.u64.wrap (x * 2 ^ (64 - 8 * k)) = x * 2 ^ (64 - 8 * k) % 18446744073709551616 := by simp [IntKind.wrap, IntKind.bits, IntKind.signed]
  have hp : (18446744073709551616 : Int) = 256 ^ k * 2 ^ (64 - 8 * k) := by
    rw [pow256, ← Int.pow_add, show 8 * k + (64 - 8 * k) = 64 by omega]
    rfl
  have h0 : (0 : Int) < 2 ^ (64 - 8 * k) := Int.pow_pos (by decide)
  rw [hw, hp, Int.mul_comm x, Int.mul_comm (256 ^ k), Int.mul_emod_mul_of_pos _ _ h0, Int.mul_ediv_cancel_left _ (by omega)]
theorem kshift (k : Nat) (hk : 1 ≤ k) (hk8 : k ≤ 8) : IntKind.u64.wrap (wrap64 (64 - (wrap64 (8 * (k : Int))))) = 64 - 8 * (k : Int) := by
  rw [wrap64_id (n := 8 * (k : Int)) (by omega) (by omega), wrap64_id (by omega) (by omega), wrapu_id (by omega) (by omega)]
end Go.Proofs.Ytgdgidlbpeimoaa.Pure
