/- Numbers that were put one behind the other are got at their places. -/
import Derived.Test.YtgdgidlbpeimoaaPureA01
import Derived.Test.YtgdgidlbpeimoaaQxf7
namespace Go.Proofs.Ytgdgidlbpeimoaa.Pure
open Go.RowKit Go.Proofs.Ytgdgidlbpeimoaa.Q Go.Proofs.YtgdgidlbpeimoaaW.PrintWords Go.Proofs.YtgdgidlbpeimoaaW.PrintLast Go.Proofs.YtgdgidlbpeimoaaW.PrintMore
set_option linter.unusedVariables false

/-- The rows, one behind the other. -/
def rowsV (n : Nat) (l : List Int) : List Int := l.flatMap (lebytes n)
theorem rowsV_length (n : Nat) (l : List Int) : (rowsV n l).length = l.length * n := by
  unfold rowsV
  induction l with
  | nil => simp
  | cons x t ih => rw [List.flatMap_cons, List.length_append, ih, lebytes_length, List.length_cons, Nat.succ_mul, Nat.add_comm]
theorem rowsV_u8s (n : Nat) (l : List Int) : u8s (rowsV n l) := by
  intro x hx
  obtain ⟨y, _, hy⟩ := List.mem_flatMap.1 hx
  exact lebytes_u8s n y x hy
theorem rowsV_split (n : Nat) (l : List Int) (i : Nat) (h : i < l.length) : rowsV n l = rowsV n (l.take i) ++ (lebytes n l[i] ++ rowsV n (l.drop (i + 1))) := by
  conv => lhs; rw [← List.take_append_drop i l, List.drop_eq_getElem_cons h]
  unfold rowsV
  rw [List.flatMap_append, List.flatMap_cons]
theorem rowsV_cut (n : Nat) (l : List Int) (i : Nat) (h : i < l.length) : cutV (rowsV n l) ((i * n : Nat) : Int) n = lebytes n l[i] := by
  have h1 : (rowsV n (l.take i)).length = i * n := by rw [rowsV_length, List.length_take, Nat.min_eq_left (by omega)]
  unfold cutV
  rw [rowsV_split n l i h, show (((i * n : Nat) : Int) + (n : Int)).toNat = i * n + n by omega, Int.toNat_natCast, List.take_append, List.take_of_length_le (by omega), List.drop_append_of_le_length (by omega), List.drop_eq_nil_of_le (by omega), List.nil_append, h1,
    show i * n + n - i * n = n by omega, List.take_append_of_le_length (by rw [lebytes_length]; omega), List.take_of_length_le (by rw [lebytes_length]; omega)]
theorem rows_l1 (l : List Int) (n : Nat) (hl : l.length ≤ 100) (hn : 1 ≤ n) (hn8 : n ≤ 8) (hu : u64s l) (d : Nat) : ∀ (k i : Nat), l.length - i = d → i ≤ l.length → d < k →
    reliquarylaw01_WordRows.l1 k l n (rowsV n l) i = some true := by
  have hlen := rowsV_length n l
  have hmul : l.length * n ≤ 800 := Nat.le_trans (Nat.mul_le_mul hl hn8) (by omega)
  have hm : m64 = 18446744073709551616 := rfl
  induction d with
  | zero =>
    intro k i hd hi hk
    obtain ⟨k, rfl⟩ : ∃ m, k = m + 1 := ⟨k - 1, by omega⟩
    simp only [reliquarylaw01_WordRows.l1]
    have e : (l.length : Int) * (n : Int) = ((l.length * n : Nat) : Int) := by omega
    rw [if_neg (by omega), e, wrap64_id (by omega) (by omega), word_Get_eq _ _ _ (rowsV_u8s n l) (by omega) (by omega), Option.bind_some]
    unfold getV
    have hv : insideV (rowsV n l).length ((l.length * n : Nat) : Int) n = 12 := by
      unfold insideV
      rw [if_neg (by omega), if_pos (by omega)]
    rw [hv]
    rfl
  | succ d ih =>
    intro k i hd hi hk
    obtain ⟨k, rfl⟩ : ∃ m, k = m + 1 := ⟨k - 1, by omega⟩
    have hil : i < l.length := by omega
    have hin : i * n + n ≤ l.length * n := by rw [← Nat.succ_mul]; exact Nat.mul_le_mul_right n hil
    have e : (i : Int) * (n : Int) = ((i * n : Nat) : Int) := by omega
    have hx := hu l[i] (List.getElem_mem hil)
    simp only [reliquarylaw01_WordRows.l1]
    rw [if_pos (by omega), e, wrap64_id (by omega) (by omega), word_Get_eq _ _ _ (rowsV_u8s n l) (by omega) (by omega), Option.bind_some]
    unfold getV
    rw [if_pos (insideV_of (by omega) (by omega) (by omega) (by omega)), rowsV_cut n l i hil, if_pos rfl, if_pos (by omega), kshift n hn hn8, if_pos (by omega), rd_nat l i hil, leval_lebytes, shift_back _ n hn hn8 hx.1 (by omega), if_pos rfl, wrap64_id (by omega) (by omega)]
    exact ih k (i + 1) (by omega) (by omega) (by omega)
theorem rows_l0 (l : List Int) (n : Nat) (hl : l.length ≤ 100) (hn : 1 ≤ n) (hn8 : n ≤ 8) (hu : u64s l) (d : Nat) : ∀ (k i : Nat), l.length - i = d → i ≤ l.length → d + 200 < k →
    reliquarylaw01_WordRows.l0 k l n (rowsV n (l.take i)) i = some true := by
  induction d with
  | zero =>
    intro k i hd hi hk
    obtain ⟨k, rfl⟩ : ∃ m, k = m + 1 := ⟨k - 1, by omega⟩
    simp only [reliquarylaw01_WordRows.l0]
    rw [if_neg (by omega), List.take_of_length_le (by omega)]
    exact rows_l1 l n hl hn hn8 hu l.length k 0 (by omega) (by omega) (by omega)
  | succ d ih =>
    intro k i hd hi hk
    obtain ⟨k, rfl⟩ : ∃ m, k = m + 1 := ⟨k - 1, by omega⟩
    have hil : i < l.length := by omega
    have hx := hu l[i] (List.getElem_mem hil)
    have hp : putV l[i] n = lebytes n l[i] := by unfold putV; rw [if_pos (by omega), Int.toNat_natCast]
    have hmul : i * n ≤ 800 := Nat.le_trans (Nat.mul_le_mul (show i ≤ 100 by omega) hn8) (by omega)
    simp only [reliquarylaw01_WordRows.l0]
    rw [if_pos (by omega), if_pos (by omega), rd_nat l i hil, word_Put_eq k (by omega) _ _ hx.1, Option.bind_some, hp, if_pos (by rw [rowsV_length, lebytes_length, List.length_take, Nat.min_eq_left (by omega)]; omega), wrap64_id (by omega) (by omega)]
    have e : rowsV n (l.take i) ++ lebytes n l[i] = rowsV n (l.take (i + 1)) := by
      rw [List.take_succ_eq_append_getElem hil]
      unfold rowsV
      rw [List.flatMap_append, List.flatMap_cons, List.flatMap_nil, List.append_nil]
    rw [e]
    exact ih k (i + 1) (by omega) (by omega) (by omega)
theorem WordRows : reliquarylaw01_WordRows.Pure := by
  intro l n hl1 hl2 hl3 hn
  refine ⟨1000, ?_⟩
  unfold reliquarylaw01_WordRows.f
  rw [awake_ok 1000 (by omega), Option.bind_some, if_pos rfl]
  by_cases h : (l.length : Int) > 100
  · rw [if_pos h]
  · rw [if_neg h]
    have h7 := and7 n
    rw [wrap64_id (by omega) (by omega)]
    obtain ⟨m, hm⟩ := Int.eq_ofNat_of_zero_le (show 0 ≤ Go.bits .and .i64 n 7 + 1 by omega)
    rw [hm]
    have := rows_l0 l m (by omega) (by omega) (by omega) (wf_u64s hl3) l.length 1000 0 (by omega) (by omega) (by omega)
    simpa [rowsV] using this
end Go.Proofs.Ytgdgidlbpeimoaa.Pure
