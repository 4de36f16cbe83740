/- What the package layout and its reference compute, in plain words. -/
import Derived.Test.YtllbgccdcibopaaPureW
import Derived.Test.YtllbgccdcibopaaQxf9
import Derived.Test.YtllbgccdcibopaaQxf10
import Derived.Test.YtllbgccdcibopaaQxf12
import Derived.Test.YtllbgccdcibopaaQxf13
import Derived.Test.YtllbgccdcibopaaQxf14
import Derived.Test.YtllbgccdcibopaaQxf15
import Derived.Test.YtllbgccdcibopaaQxf16
import Derived.Test.YtllbgccdcibopaaQxf8
namespace Go.Proofs.Ytllbgccdcibopaa.Pure
open Go.RowKit Go.Proofs.Ytllbgccdcibopaa.Q Go.Proofs.YtllbgccdcibopaaW.PrintWords Go.Proofs.YtllbgccdcibopaaW.PrintLast Go.Proofs.YtllbgccdcibopaaW.PrintMore
set_option linter.unusedVariables false
set_option linter.unusedSimpArgs false

def newOk (b n : Int) : Prop := 8 ≤ b ∧ b ≤ 1024 ∧ 2 ≤ n ∧ n ≤ 500 ∧ 3 + (n + 4) / 5 < b
instance (b n : Int) : Decidable (newOk b n) := by unfold newOk; infer_instance
def newV (b n : Int) : Int × Int × Int × Int × Int := if newOk b n then (b, n, 3, 3 + (n + 4) / 5, 0) else (0, 0, 0, 0, 1)
theorem newV_ok {b n : Int} (h : newOk b n) : newV b n = (b, n, 3, 3 + (n + 4) / 5, 0) := if_pos h
theorem newV_no {b n : Int} (h : ¬ newOk b n) : newV b n = (0, 0, 0, 0, 1) := if_neg h
theorem new_tail (b n : Int) (hn : 2 ≤ n) (hn5 : n ≤ 500) (h8 : 8 ≤ b) (h1 : b ≤ 1024) :
    (if (wrap64 (3 + (wrap64 (Int.tdiv (wrap64 ((wrap64 (n + 5)) - 1)) 5)))) ≥ b then (some (0, 0, 0, 0, 1)) else (some (b, n, 3, wrap64 (3 + (wrap64 (Int.tdiv (wrap64 ((wrap64 (n + 5)) - 1)) 5))), 0)) : Option (Int × Int × Int × Int × Int)) = some (newV b n) := by
  rw [wrap64_id (n := n + 5) (by omega) (by omega), wrap64_id (n := n + 5 - 1) (by omega) (by omega), show n + 5 - 1 = n + 4 by omega, Int.tdiv_eq_ediv_of_nonneg (by omega), wrap64_id (n := (n + 4) / 5) (by omega) (by omega), wrap64_id (n := 3 + (n + 4) / 5) (by omega) (by omega)]
  by_cases h : 3 + (n + 4) / 5 ≥ b
  · rw [if_pos h, newV_no (fun z => by unfold newOk at z; omega)]
  · rw [if_neg h, newV_ok (by unfold newOk; omega)]
theorem layout_New_eq (k : Nat) (hk : 2 ≤ k) (b n : Int) : layout_New.f k b n = some (newV b n) := by
  obtain ⟨k, rfl⟩ : ∃ m, k = m + 1 := ⟨k - 1, by omega⟩
  have hno : ¬ newOk b n → layout_New.j0 (k + 1) b n true = some (newV b n) := fun h => by
    simp only [layout_New.j0]
    rw [newV_no h]
    simp
  unfold layout_New.f
  by_cases h1 : b < 8
  · rw [if_pos h1]; exact hno (fun z => by unfold newOk at z; omega)
  · rw [if_neg h1]
    by_cases h2 : b > 1024
    · rw [if_pos h2]; exact hno (fun z => by unfold newOk at z; omega)
    · rw [if_neg h2]
      by_cases h3 : n < 2
      · rw [if_pos h3]; exact hno (fun z => by unfold newOk at z; omega)
      · rw [if_neg h3]
        by_cases h4 : n > 500
        · rw [decide_eq_true h4]; exact hno (fun z => by unfold newOk at z; omega)
        · rw [decide_eq_false h4]
          simp only [layout_New.j0]
          rw [if_neg (by simp)]
          exact new_tail b n (by omega) (by omega) (by omega) (by omega)
theorem refnew_loop (b n : Int) (hn : 2 ≤ n) (hn5 : n ≤ 500) (h8 : 8 ≤ b) (h1 : b ≤ 1024) (d : Nat) : ∀ (k : Nat) (i : Int), ((n + 4) / 5 - i).toNat = d → 0 ≤ i → i ≤ (n + 4) / 5 → d < k →
    reliquaryref17_New.l0 k b n (3 + i) (5 * i) = some (newV b n) := by
  induction d with
  | zero =>
    intro k i hd hi0 hi hk
    obtain ⟨k, rfl⟩ : ∃ m, k = m + 1 := ⟨k - 1, by omega⟩
    simp only [reliquaryref17_New.l0]
    rw [if_neg (by omega), show i = (n + 4) / 5 by omega]
    by_cases h : 3 + (n + 4) / 5 ≥ b
    · rw [if_pos h, newV_no (fun z => by unfold newOk at z; omega)]
    · rw [if_neg h, newV_ok (by unfold newOk; omega)]
  | succ d ih =>
    intro k i hd hi0 hi hk
    obtain ⟨k, rfl⟩ : ∃ m, k = m + 1 := ⟨k - 1, by omega⟩
    simp only [reliquaryref17_New.l0]
    rw [if_pos (by omega), wrap64_id (by omega) (by omega), wrap64_id (by omega) (by omega), show 3 + i + 1 = 3 + (i + 1) by omega, show 5 * i + 5 = 5 * (i + 1) by omega]
    exact ih k (i + 1) (by omega) (by omega) (by omega) (by omega)
theorem refnew_eq (k : Nat) (hk : 200 ≤ k) (b n : Int) : reliquaryref17_New.f k b n = some (newV b n) := by
  obtain ⟨k, rfl⟩ : ∃ m, k = m + 1 := ⟨k - 1, by omega⟩
  have hno : ¬ newOk b n → reliquaryref17_New.j0 (k + 1) b n true = some (newV b n) := fun h => by
    simp only [reliquaryref17_New.j0]
    rw [newV_no h]
    simp
  unfold reliquaryref17_New.f
  by_cases h1 : b < 8
  · rw [if_pos h1]; exact hno (fun z => by unfold newOk at z; omega)
  · rw [if_neg h1]
    by_cases h2 : b > 1024
    · rw [if_pos h2]; exact hno (fun z => by unfold newOk at z; omega)
    · rw [if_neg h2]
      by_cases h3 : n < 2
      · rw [if_pos h3]; exact hno (fun z => by unfold newOk at z; omega)
      · rw [if_neg h3]
        by_cases h4 : n > 500
        · rw [decide_eq_true h4]; exact hno (fun z => by unfold newOk at z; omega)
        · rw [decide_eq_false h4]
          simp only [reliquaryref17_New.j0]
          rw [if_neg (by simp)]
          have := refnew_loop b n (by omega) (by omega) (by omega) (by omega) ((n + 4) / 5 - 0).toNat k 0 rfl (by omega) (by omega) (by omega)
          simpa using this

/-! where an inode stands -/
def inodeV (m n : Int) : Int × Int × Int := if n < 1 ∨ m ≤ n then (0, 0, 12) else (3 + n / 5, n % 5 * 32, 0)
theorem layout_Inode_eq (b m d n : Int) (hm : m ≤ 500) : layout_Layout_Inode.f b m 3 d n = some (inodeV m n) := by
  unfold layout_Layout_Inode.f inodeV
  by_cases h1 : n < 1
  · rw [if_pos h1, if_pos (by omega)]
  · rw [if_neg h1]
    by_cases h2 : n ≥ m
    · rw [if_pos h2, if_pos (by omega)]
    · rw [if_neg h2, if_neg (by omega), Int.tdiv_eq_ediv_of_nonneg (by omega), Int.tmod_eq_emod_of_nonneg (by omega), wrap64_id (n := n / 5) (by omega) (by omega), wrap64_id (by omega) (by omega), wrap64_id (by omega) (by omega)]
theorem refinode_loop (n : Int) (hn : n ≤ 500) (d : Nat) : ∀ (k : Nat) (i : Int), (n / 5 - i).toNat = d → 0 ≤ i → i ≤ n / 5 → d < k → 0 ≤ n →
    reliquaryref17_Inode.l0 k (n - 5 * i) (3 + i) = some (3 + n / 5, n % 5 * 32, 0) := by
  induction d with
  | zero =>
    intro k i hd hi0 hi hk h0
    obtain ⟨k, rfl⟩ : ∃ m, k = m + 1 := ⟨k - 1, by omega⟩
    simp only [reliquaryref17_Inode.l0]
    rw [if_neg (by omega), wrap64_id (by omega) (by omega)]
    have e1 : 3 + i = 3 + n / 5 := by omega
    have e2 : 32 * (n - 5 * i) = n % 5 * 32 := by omega
    rw [e1, e2]
  | succ d ih =>
    intro k i hd hi0 hi hk h0
    obtain ⟨k, rfl⟩ : ∃ m, k = m + 1 := ⟨k - 1, by omega⟩
    simp only [reliquaryref17_Inode.l0]
    rw [if_pos (by omega), wrap64_id (by omega) (by omega), wrap64_id (by omega) (by omega), show n - 5 * i - 5 = n - 5 * (i + 1) by omega, show 3 + i + 1 = 3 + (i + 1) by omega]
    exact ih k (i + 1) (by omega) (by omega) (by omega) (by omega) h0
theorem refinode_eq (k : Nat) (hk : 200 ≤ k) (a m c d n : Int) (hm : m ≤ 500) : reliquaryref17_Inode.f k a m c d n = some (inodeV m n) := by
  obtain ⟨k, rfl⟩ : ∃ q, k = q + 1 := ⟨k - 1, by omega⟩
  unfold reliquaryref17_Inode.f inodeV
  by_cases h1 : n < 1
  · rw [if_pos h1, if_pos (by omega)]
    simp [reliquaryref17_Inode.j0]
  · rw [if_neg h1]
    by_cases h2 : n ≥ m
    · rw [decide_eq_true h2, if_pos (by omega)]
      simp [reliquaryref17_Inode.j0]
    · rw [decide_eq_false h2, if_neg (by omega)]
      simp only [reliquaryref17_Inode.j0]
      rw [if_neg (by simp)]
      have := refinode_loop n (by omega) (n / 5 - 0).toNat k 0 rfl (by omega) (by omega) (by omega) (by omega)
      simpa using this

/-! the first block's bytes -/
def putL (b n : Int) : List Int := [82, 76, 81, 49] ++ lebytes 4 b ++ lebytes 4 n ++ List.replicate 148 0
theorem putL_length (b n : Int) : (putL b n).length = 160 := by simp [putL, lebytes_length]
theorem putL_u8s (b n : Int) : u8s (putL b n) := by
  intro x hx
  unfold putL at hx
  rcases List.mem_append.1 hx with hx | hx
  · rcases List.mem_append.1 hx with hx | hx
    · rcases List.mem_append.1 hx with hx | hx
      · simp at hx; omega
      · exact lebytes_u8s 4 b x hx
    · exact lebytes_u8s 4 n x hx
  · have := List.eq_of_mem_replicate hx
    omega
theorem layout_Put_eq (b n c d : Int) (hb : 0 ≤ b) (hb1 : b < 18446744073709551616) (hn : 0 ≤ n) (hn1 : n < 18446744073709551616) : layout_Put.f b n c d = some (putL b n) := by
  unfold layout_Put.f
  have hp : ∀ x : Int, putV x 4 = lebytes 4 x := fun x => by unfold putV; rw [if_pos (by omega)]; rfl
  rw [wrapu_id hb hb1, wrapu_id hn hn1, word_Put_eq 9 (by omega) b 4 hb, Option.bind_some, word_Put_eq 9 (by omega) n 4 hn, Option.bind_some, hp, hp, slices_Concat_eq _ (by simp [lebytes_length]), Option.bind_some, word_Pad_eq _ _ (by omega)]
  have hfl : [[82, 76, 81, 49], lebytes 4 b, lebytes 4 n].flatten = [82, 76, 81, 49] ++ lebytes 4 b ++ lebytes 4 n := by simp [List.append_assoc]
  have hln : ([82, 76, 81, 49] ++ lebytes 4 b ++ lebytes 4 n).length = 12 := by simp [lebytes_length]
  unfold padV
  rw [hfl, List.take_of_length_le (by rw [hln]; decide), hln]
  rfl
theorem refputL_eq (b n c d : Int) (hb : 0 ≤ b) (hb1 : b < 18446744073709551616) (hn : 0 ≤ n) (hn1 : n < 18446744073709551616) : reliquaryref17_Put.f b n c d = some (strOfNums (putL b n)) := by
  unfold reliquaryref17_Put.f
  have hp : ∀ x : Int, putV x 4 = lebytes 4 x := fun x => by unfold putV; rw [if_pos (by omega)]; rfl
  rw [wrapu_id hb hb1, wrapu_id hn hn1, refput_eq 20 (by omega) b 4 hb hb1, Option.bind_some, refput_eq 20 (by omega) n 4 hn hn1, Option.bind_some, hp, hp, if_pos ⟨lebytes_length 4 b, lebytes_length 4 n⟩]
  rfl

/-! the layout of bytes -/
def formL (l : List Int) : Int × Int × Int × Int × Int :=
  let b := (getV l 4 4).1; let n := (getV l 8 4).1
  if insideV l.length 4 4 = 0 ∧ insideV l.length 8 4 = 0 ∧ newOk b n ∧ l = putL b n then (b, n, 3, 3 + (n + 4) / 5, 0) else (0, 0, 0, 0, 11)
theorem getV_range (l : List Int) (hu : u8s l) (a n : Int) (hn : n ≤ 4) : 0 ≤ (getV l a n).1 ∧ (getV l a n).1 < 4294967296 := by
  unfold getV
  split
  · rename_i h
    have h1 := insideV_zero h
    have h2 := leval_range (cutV l a n) (u8s_cut hu a n)
    rw [cutV_length h1.1 (by omega) h1.2.2.2] at h2
    have h3 : (256 : Int) ^ n.toNat ≤ 256 ^ 4 := pow_mono 256 (by decide) (by omega)
    have h4 : (256 : Int) ^ 4 = 4294967296 := by decide
    refine ⟨h2.1, ?_⟩
    show leval (cutV l a n) < 4294967296
    omega
  · exact ⟨by show (0 : Int) ≤ 0; decide, by show (0 : Int) < 4294967296; decide⟩
theorem layout_Get_eq (k : Nat) (l : List Int) (hk : l.length + 10 ≤ k) (hu : u8s l) (hl : l.length ≤ 140737488351232) : layout_Get.f k l = some (formL l) := by
  obtain ⟨k, rfl⟩ : ∃ m, k = m + 1 := ⟨k - 1, by omega⟩
  have r1 := getV_range l hu 4 4 (by omega)
  have r2 := getV_range l hu 8 4 (by omega)
  unfold layout_Get.f
  rw [word_Get_eq l 4 4 hu hl (by omega), Option.bind_some, word_Get_eq l 8 4 hu hl (by omega), Option.bind_some]
  have hno : (formL l = (0, 0, 0, 0, 11)) → layout_Get.j0 (k + 1) l (getV l 4 4).1 (getV l 8 4).1 true = some (formL l) := fun h => by
    simp only [layout_Get.j0]
    rw [h]
    simp
  have e1 : (getV l 4 4).2 = insideV l.length 4 4 := by unfold getV; split <;> simp_all
  have e2 : (getV l 8 4).2 = insideV l.length 8 4 := by unfold getV; split <;> simp_all
  rw [e1, e2]
  by_cases h1 : insideV l.length 4 4 = 0
  · rw [if_pos h1]
    by_cases h2 : insideV l.length 8 4 = 0
    · rw [if_pos h2]
      by_cases h3 : (getV l 4 4).1 > 1024
      · rw [if_pos h3]
        exact hno (by unfold formL; exact if_neg (fun z => by have := z.2.2.1; unfold newOk at this; omega))
      · rw [if_neg h3]
        by_cases h4 : (getV l 8 4).1 > 500
        · rw [decide_eq_true h4]
          exact hno (by unfold formL; exact if_neg (fun z => by have := z.2.2.1; unfold newOk at this; omega))
        · rw [decide_eq_false h4]
          simp only [layout_Get.j0]
          rw [if_neg (by simp), wrap64_id (by omega) (by omega), wrap64_id (by omega) (by omega), layout_New_eq k (by omega), Option.bind_some]
          by_cases h5 : newOk (getV l 4 4).1 (getV l 8 4).1
          · rw [newV_ok h5]
            simp only [if_true]
            rw [layout_Put_eq _ _ _ _ r1.1 (by omega) r2.1 (by omega), Option.bind_some, slices_Equal_eq k _ _ (by omega) hl, Option.bind_some]
            by_cases h6 : l = putL (getV l 4 4).1 (getV l 8 4).1
            · rw [if_pos (decide_eq_true h6)]
              unfold formL
              rw [if_pos ⟨h1, h2, h5, h6⟩]
            · rw [if_neg (by simpa using h6)]
              unfold formL
              rw [if_neg (fun z => h6 z.2.2.2)]
          · have hf : formL l = (0, 0, 0, 0, 11) := by unfold formL; exact if_neg (fun z => h5 z.2.2.1)
            rw [newV_no h5, hf]
            simp
    · rw [if_neg h2]
      exact hno (by unfold formL; exact if_neg (fun z => h2 z.2.1))
  · rw [if_neg h1]
    exact hno (by unfold formL; exact if_neg (fun z => h1 z.1))
theorem putL_cut4 (b n : Int) (hb : 0 ≤ b) (hb1 : b < 4294967296) : getV (putL b n) 4 4 = (b, 0) := by
  unfold getV
  rw [putL_length, if_pos (by decide)]
  have : cutV (putL b n) 4 4 = lebytes 4 b := by
    unfold cutV putL
    simp [lebytes]
  rw [this, leval_lebytes, Int.emod_eq_of_lt hb (by simpa using hb1)]
theorem putL_cut8 (b n : Int) (hn : 0 ≤ n) (hn1 : n < 4294967296) : getV (putL b n) 8 4 = (n, 0) := by
  unfold getV
  rw [putL_length, if_pos (by decide)]
  have : cutV (putL b n) 8 4 = lebytes 4 n := by
    unfold cutV putL
    simp [lebytes]
  rw [this, leval_lebytes, Int.emod_eq_of_lt hn (by simpa using hn1)]
theorem formL_putL (b n : Int) (h : newOk b n) : formL (putL b n) = (b, n, 3, 3 + (n + 4) / 5, 0) := by
  have h1 := h
  unfold newOk at h1
  unfold formL
  rw [putL_cut4 b n (by omega) (by omega), putL_cut8 b n (by omega) (by omega), putL_length]
  exact if_pos ⟨by decide, by decide, h, rfl⟩
theorem awake17_ok (k : Nat) (hk : 300 ≤ k) : reliquarylaw17_awake.f k = some true := by
  unfold reliquarylaw17_awake.f
  have hn : newOk 20 10 := by decide
  rw [layout_New_eq k (by omega), Option.bind_some, newV_ok hn]
  simp only []
  rw [layout_Inode_eq _ _ _ _ (by decide), Option.bind_some, layout_Put_eq _ _ _ _ (by decide) (by decide) (by decide) (by decide), Option.bind_some, layout_Get_eq k _ (by rw [putL_length]; omega) (putL_u8s _ _) (by rw [putL_length]; decide), Option.bind_some, formL_putL _ _ hn, layout_New_eq k (by omega), Option.bind_some, newV_no (by decide)]
  decide +kernel
end Go.Proofs.Ytllbgccdcibopaa.Pure
