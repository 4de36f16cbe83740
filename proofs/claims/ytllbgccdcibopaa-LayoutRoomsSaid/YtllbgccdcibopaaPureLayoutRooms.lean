/- All inodes stand behind one another, five in a block; data begins behind the last one's block. -/
import Derived.Test.YtllbgccdcibopaaPureL
import Derived.Test.YtllbgccdcibopaaQxf6
namespace Go.Proofs.Ytllbgccdcibopaa.Pure
open Go.RowKit Go.Proofs.Ytllbgccdcibopaa.Q Go.Proofs.YtllbgccdcibopaaW.PrintWords Go.Proofs.YtllbgccdcibopaaW.PrintLast Go.Proofs.YtllbgccdcibopaaW.PrintMore
set_option linter.unusedVariables false
set_option linter.unusedSimpArgs false

theorem inodeV_in {m n : Int} (h1 : 1 ≤ n) (h2 : n < m) : inodeV m n = (3 + n / 5, n % 5 * 32, 0) := by unfold inodeV; rw [if_neg (by omega)]
theorem inodeV_out {m n : Int} (h : n < 1 ∨ m ≤ n) : inodeV m n = (0, 0, 12) := by unfold inodeV; rw [if_pos h]
theorem rooms_loop (b n : Int) (h : newOk b n) (d : Nat) : ∀ (k : Nat) (i : Int), (n - i).toNat = d → 1 ≤ i → i ≤ n → d < k →
    reliquarylaw17_LayoutRooms.l0 k b n i b n 3 (3 + (n + 4) / 5) = some true := by
  unfold newOk at h
  induction d with
  | zero =>
    intro k i hd h1 hi hk
    obtain ⟨k, rfl⟩ : ∃ m, k = m + 1 := ⟨k - 1, by omega⟩
    simp only [reliquarylaw17_LayoutRooms.l0]
    rw [if_neg (by omega), wrap64_id (n := n - 1) (by omega) (by omega), layout_Inode_eq _ _ _ _ (by omega), Option.bind_some, layout_Inode_eq _ _ _ _ (by omega), Option.bind_some, inodeV_in (by omega) (by omega), inodeV_out (by omega), wrap64_id (n := b) (by omega) (by omega), wrap64_id (n := n) (by omega) (by omega), wrap64_id (by omega) (by omega), if_pos (by show 3 + (n - 1) / 5 = _; omega), if_pos rfl, if_pos rfl]
    simp
  | succ d ih =>
    intro k i hd h1 hi hk
    obtain ⟨k, rfl⟩ : ∃ m, k = m + 1 := ⟨k - 1, by omega⟩
    simp only [reliquarylaw17_LayoutRooms.l0]
    rw [if_pos (by omega), layout_Inode_eq _ _ _ _ (by omega), Option.bind_some, inodeV_in (by omega) (by omega), if_pos rfl]
    show (if wrap64 (wrap64 (160 * wrap64 (3 + i / 5 - 3)) + i % 5 * 32) = wrap64 (32 * i) then reliquarylaw17_LayoutRooms.l0 k b n (wrap64 (i + 1)) b n 3 (3 + (n + 4) / 5) else some false) = some true
    rw [wrap64_id (n := 3 + i / 5 - 3) (by omega) (by omega), wrap64_id (n := 160 * (3 + i / 5 - 3)) (by omega) (by omega), wrap64_id (n := 160 * (3 + i / 5 - 3) + i % 5 * 32) (by omega) (by omega), wrap64_id (n := 32 * i) (by omega) (by omega), if_pos (by omega), wrap64_id (by omega) (by omega)]
    exact ih k (i + 1) (by omega) (by omega) (by omega) (by omega)
theorem LayoutRooms : reliquarylaw17_LayoutRooms.Pure := by
  intro b n hb hn
  have h1 := wf_u16 hb
  have h2 := wf_u16 hn
  refine ⟨1000, ?_⟩
  unfold reliquarylaw17_LayoutRooms.f
  rw [awake17_ok 1000 (by omega), Option.bind_some, if_pos rfl, layout_New_eq 1000 (by omega), Option.bind_some, wrap64_id (by omega) (by omega), wrap64_id (by omega) (by omega)]
  by_cases h : newOk b n
  · rw [newV_ok h]
    simp only [if_true]
    exact rooms_loop b n h (n - 1).toNat 1000 1 rfl (by omega) (by unfold newOk at h; omega) (by unfold newOk at h; omega)
  · rw [newV_no h]
    simp
end Go.Proofs.Ytllbgccdcibopaa.Pure
