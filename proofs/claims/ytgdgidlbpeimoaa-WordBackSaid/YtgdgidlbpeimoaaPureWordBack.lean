/- What was set is got, nothing else changes, and what it was set in stays. -/
import Derived.Test.YtgdgidlbpeimoaaPureA01
import Derived.Test.YtgdgidlbpeimoaaPureS2
import Derived.Test.YtgdgidlbpeimoaaQxf5
namespace Go.Proofs.Ytgdgidlbpeimoaa.Pure
open Go.RowKit Go.Proofs.Ytgdgidlbpeimoaa.Q Go.Proofs.YtgdgidlbpeimoaaW.PrintWords Go.Proofs.YtgdgidlbpeimoaaW.PrintLast Go.Proofs.YtgdgidlbpeimoaaW.PrintMore
set_option linter.unusedVariables false
set_option linter.unusedSimpArgs false

theorem str_drop (x : List Int) (n : Nat) : ((strOfNums x).extract n (strOfNums x).size).toList = (x.drop n).map fun m => UInt8.ofNat m.toNat := by
  rw [Go.ByteArray.toList_eq, ByteArray.data_extract, Array.toList_extract, List.extract_eq_take_drop, strOfNums_data, strOfNums_size, ← List.map_drop, List.take_of_length_le (by rw [List.length_map, List.length_drop]; exact Nat.le_refl _)]
theorem back_set (l : List Int) (p k : Nat) (x : Int) (hpk : p + k ≤ l.length) :
    let c := l.take p ++ (lebytes k x ++ l.drop (p + k))
    c.length = l.length ∧ cutV c p k = lebytes k x ∧ c.take p = l.take p ∧ c.drop (p + k) = l.drop (p + k) := by
  have h1 : (l.take p).length = p := by rw [List.length_take]; omega
  have h2 := lebytes_length k x
  refine ⟨?_, ?_, ?_, ?_⟩
  · rw [List.length_append, List.length_append, h1, h2, List.length_drop]; omega
  · unfold cutV
    rw [show ((p : Int) + (k : Int)).toNat = p + k by omega, Int.toNat_natCast, List.drop_take, List.drop_append, h1, List.drop_eq_nil_of_le (by omega), Nat.sub_self, List.drop_zero, List.nil_append, show p + k - p = k by omega, List.take_append_of_le_length (by omega), List.take_of_length_le (by omega)]
  · rw [List.take_append_of_le_length (by omega), List.take_of_length_le (by omega)]
  · rw [List.drop_append, h1, List.drop_eq_nil_of_le (by omega), List.nil_append, show p + k - p = k by omega, List.drop_append, h2, List.drop_eq_nil_of_le (by omega), Nat.sub_self, List.drop_zero, List.nil_append]
theorem WordBack : reliquarylaw01_WordBack.Pure := by
  intro l a n x hl1 hl2 hl3 ha hn hx
  have ka := wf_u16 ha
  have kx := wf_u64 hx
  have hu := wf_u8s hl3
  refine ⟨1000, ?_⟩
  unfold reliquarylaw01_WordBack.f
  rw [awake_ok 1000 (by omega), Option.bind_some, if_pos rfl]
  have b7 := and7 n
  obtain ⟨k, hk⟩ := Int.eq_ofNat_of_zero_le (show 0 ≤ Go.bits .and .i64 n 7 + 1 by omega)
  have hk1 : 1 ≤ k := by omega
  have hk8 : k ≤ 8 := by omega
  rw [hk, wrap64_id (n := (k : Int)) (by omega) (by omega)]
  have hno : reliquarylaw01_WordBack.j0 1000 l a x k true = some true := by simp [reliquarylaw01_WordBack.j0]
  by_cases h : (l.length : Int) > 3000
  · rw [if_pos h]; exact hno
  · rw [if_neg h]
    by_cases h1 : (l.length : Int) < k
    · rw [decide_eq_true h1]; exact hno
    · rw [decide_eq_false h1]
      rw [show (1000 : Nat) = 999 + 1 from rfl]
      simp only [reliquarylaw01_WordBack.j0]
      rw [if_neg (by simp), wrap64_id (n := a) (by omega) (by omega), wrap64_id (n := (l.length : Int) - k) (by omega) (by omega), wrap64_id (n := (l.length : Int) - k + 1) (by omega) (by omega), if_neg (by omega), Int.tmod_eq_emod_of_nonneg (by omega)]
      have hm0 : 0 ≤ a % ((l.length : Int) - k + 1) := Int.emod_nonneg _ (by omega)
      have hm1 : a % ((l.length : Int) - k + 1) < (l.length : Int) - k + 1 := Int.emod_lt_of_pos _ (by omega)
      obtain ⟨p, hp⟩ := Int.eq_ofNat_of_zero_le hm0
      rw [hp] at hm1 ⊢
      have hpk : p + k ≤ l.length := by omega
      obtain ⟨b1, b2, b3, b4⟩ := back_set l p k x hpk
      have hs : setV l p k x = (l.take p ++ (lebytes k x ++ l.drop (p + k)), 0) := by
        unfold setV
        rw [if_pos (insideV_of (by omega) (by omega) (by omega) (by omega)), show ((p : Int) + (k : Int)).toNat = p + k by omega]
        rfl
      have huc : u8s (l.take p ++ (lebytes k x ++ l.drop (p + k))) := by
        intro v hv
        rcases List.mem_append.1 hv with hv | hv
        · exact hu v (List.mem_of_mem_take hv)
        · rcases List.mem_append.1 hv with hv | hv
          · exact lebytes_u8s k x v hv
          · exact hu v (List.mem_of_mem_drop hv)
      obtain ⟨c, hc⟩ : ∃ c, c = l.take p ++ (lebytes k x ++ l.drop (p + k)) := ⟨_, rfl⟩
      rw [← hc] at b1 b2 b3 b4 hs huc
      have hg : getV c p k = (x % 256 ^ k, 0) := by
        unfold getV
        rw [if_pos (insideV_of (by omega) (by omega) (by omega) (by omega)), b2, leval_lebytes]
      rw [word_Set_eq l p k x (by omega) (by omega) kx.1, Option.bind_some, hs]
      simp only []
      rw [word_Get_eq c p k huc (by omega) (by omega), Option.bind_some, hg]
      simp only []
      rw [if_pos trivial, if_pos trivial, kshift k hk1 hk8, if_pos (by omega), if_pos (shift_back x k hk1 hk8 kx.1 kx.2).symm, if_pos trivial, if_pos (by omega), if_pos (by omega), if_pos (by omega), strOfNums_size, if_pos (by omega), Int.toNat_natCast, b3, str_take, strOfNums_toList, if_pos rfl, wrap64_id (n := (p : Int) + k) (by omega) (by omega), if_pos (by omega), if_pos (by omega), if_pos (by omega), show ((p : Int) + (k : Int)).toNat = p + k by omega, b4]
      have hd := str_drop l (p + k)
      rw [strOfNums_size] at hd
      rw [hd, strOfNums_toList, beq_self_eq_true]
end Go.Proofs.Ytgdgidlbpeimoaa.Pure
