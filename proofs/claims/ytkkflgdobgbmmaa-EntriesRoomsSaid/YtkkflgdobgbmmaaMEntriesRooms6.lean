/- EntriesRooms: for every input the statement's function returns true; there is no further condition. Text 7 of 7: this session's texts, and of the words that print.sh has printed those that are needed, laid together by its own program (merge.py). Not trusted: Lean checks them. -/
import Derived.Test.YtkkflgdobgbmmaaMEntriesRooms5
import Derived.Test.YtkkflgdobgbmmaaMEntriesRooms4
import Derived.Test.YtkkflgdobgbmmaaMEntriesRooms2
import Derived.Test.YtkkflgdobgbmmaaMEntriesRooms3
import Derived.Test.YtkkflgdobgbmmaaRows
import Derived.WalkKit
import Derived.ProofKit
import Derived.OpenShut
import Derived.ShutString
import Derived.ChangeOld
import Derived.Below
import Derived.SizedLaws
section
/- What is done with directories' bytes: by the program and by the reference, in one form. -/
namespace Go.Proofs.Ytkkflgdobgbmmaa.Pure
open Go.RowKit Go.Proofs.Ytkkflgdobgbmmaa.Q Go.Proofs.YtkkflgdobgbmmaaW.PrintWords Go.Proofs.YtkkflgdobgbmmaaW.PrintLast Go.Proofs.YtkkflgdobgbmmaaW.PrintMore
set_option linter.unusedVariables false
set_option linter.unusedSimpArgs false

theorem findAt_bd (p : S28 → Bool) : ∀ (l : List S28) (i : Nat), findAt p i l = -1 ∨ ((i : Int) ≤ findAt p i l ∧ findAt p i l < (i : Int) + l.length)
  | [], i => Or.inl rfl
  | x :: l, i => by
    rw [findAt, List.length_cons]
    by_cases h : p x = true
    · rw [if_pos h]; right; omega
    · rw [if_neg h]
      rcases findAt_bd p l (i + 1) with h | h
      · exact Or.inl h
      · right; omega
/-! Find -/
def findV (l : List Int) (nm : ByteArray) : Int × Int :=
  if (readV l).2 ≠ 0 then (0, (readV l).2) else if findAt (hitE nm) 0 (readV l).1 < 0 then (0, 21) else ((rd_T28 (readV l).1 (findAt (hitE nm) 0 (readV l).1)).f1, 0)
theorem found_eq (l : List Int) (nm : ByteArray) (hu : u8s l) (hl : l.length ≤ 1000000) : entries_found.f l nm = some (if (readV l).2 ≠ 0 then ([], 0, (readV l).2) else if findAt (hitE nm) 0 (readV l).1 < 0 then ([], 0, 21) else ((readV l).1, findAt (hitE nm) 0 (readV l).1, 0)) := by
  unfold entries_found.f
  rw [eread_eq l hu hl, Option.bind_some]
  by_cases h : (readV l).2 = 0
  · rw [if_pos h, eat_eq, Option.bind_some, if_neg (fun e : (readV l).2 ≠ 0 => e h)]
    by_cases h2 : findAt (hitE nm) 0 (readV l).1 < 0
    · rw [if_pos h2, if_pos h2]
    · rw [if_neg h2, if_neg h2]
  · rw [if_neg h, if_pos h]
theorem find_eq (l : List Int) (nm : ByteArray) (hu : u8s l) (hl : l.length ≤ 1000000) : entries_Find.f l nm = some (findV l nm) := by
  unfold entries_Find.f findV
  rw [found_eq l nm hu hl, Option.bind_some]
  by_cases h : (readV l).2 = 0
  · rw [if_neg (fun e : (readV l).2 ≠ 0 => e h), if_neg (fun e : (readV l).2 ≠ 0 => e h)]
    have hb := findAt_bd (hitE nm) (readV l).1 0
    by_cases h2 : findAt (hitE nm) 0 (readV l).1 < 0
    · rw [if_pos h2, if_pos h2, if_neg (by decide)]
    · rw [if_neg h2, if_neg h2]
      show (if (0 : Int) = 0 then (if 0 ≤ findAt (hitE nm) 0 (readV l).1 then (if findAt (hitE nm) 0 (readV l).1 < ((readV l).1.length : Int) then _ else none) else none) else _) = _
      rw [if_pos rfl, if_pos (by omega), if_pos (by omega)]
  · rw [if_pos h, if_pos h]
    show (if (readV l).2 = 0 then _ else _) = _
    rw [if_neg h]
/-! Insert -/
def freeAt (l : List S28) : Int := findAt (fun x => x.f1 == 0) 0 l
def putFree (l : List S28) (x : S28) : List S28 := if freeAt l < 0 then l ++ [x] else l.set (freeAt l).toNat x
def insV (l : List Int) (nm : ByteArray) (n : Int) : List Int × Int :=
  if ckV nm ≠ 0 then ([], ckV nm) else if ¬ (1 ≤ n ∧ n < 65536) then ([], 1) else if (readV l).2 ≠ 0 then ([], (readV l).2) else
    if 0 ≤ findAt (hitE nm) 0 (readV l).1 then ([], 22) else (bytesL (putFree (readV l).1 ⟨nm, n⟩), 0)
theorem number_eq (n : Int) : entries_number.f n = some (decide (1 ≤ n ∧ n < 65536)) := by
  unfold entries_number.f
  by_cases h : n ≥ 1
  · rw [if_pos h]; congr 1; simp; omega
  · rw [if_neg h]; congr 1; symm; simp; omega
theorem free_loop (l : List S28) (hl : l.length ≤ 1000000) (d : Nat) : ∀ (k i : Nat), l.length - i = d → i ≤ l.length → d < k →
    entries_Entry_31_at_entries_Insert_lit1.l0 k l (l.length : Int) i = some (findAt (fun x => x.f1 == 0) i (l.drop i)) := by
  induction d with
  | zero =>
    intro k i hd hi hk
    obtain ⟨k, rfl⟩ : ∃ m, k = m + 1 := ⟨k - 1, by omega⟩
    simp only [entries_Entry_31_at_entries_Insert_lit1.l0]
    rw [if_neg (by omega), List.drop_eq_nil_of_le (by omega), findAt]
  | succ d ih =>
    intro k i hd hi hk
    obtain ⟨k, rfl⟩ : ∃ m, k = m + 1 := ⟨k - 1, by omega⟩
    have hil : i < l.length := by omega
    simp only [entries_Entry_31_at_entries_Insert_lit1.l0]
    rw [if_pos (by omega), if_pos (by omega), if_pos (by omega), rd28 l i hil, wrap64_id (by omega) (by omega), List.drop_eq_getElem_cons hil, findAt]
    show (if (l[i].f1 == 0) = true then _ else _) = _
    by_cases c : (l[i].f1 == 0) = true
    · rw [if_pos c, if_pos c]
    · rw [if_neg c, if_neg c]
      exact ih k (i + 1) (by omega) (by omega) (by omega)
theorem free_eq (k : Nat) (l : List S28) (hl : l.length ≤ 1000000) (hk : l.length < k) : entries_Entry_31_at_entries_Insert_lit1.f k l = some (freeAt l) := by
  unfold entries_Entry_31_at_entries_Insert_lit1.f
  exact free_loop l hl l.length k 0 (by omega) (by omega) hk
def Small (l : List S28) : Prop := ∀ x ∈ l, 0 ≤ x.f1 ∧ x.f1 < 65536 ∧ x.f0.size ≤ 24
theorem small_of {l : List S28} (h : ∀ x ∈ l, EntOk x) : Small l := fun x hx => ⟨(h x hx).lo, (h x hx).hi, (h x hx).nm⟩
theorem small_set {l : List S28} (h : Small l) (i : Nat) {x : S28} (hx : 0 ≤ x.f1 ∧ x.f1 < 65536 ∧ x.f0.size ≤ 24) : Small (l.set i x) := fun y hy => by
  rcases List.mem_or_eq_of_mem_set hy with hy | rfl
  · exact h y hy
  · exact hx
theorem small_append {l : List S28} (h : Small l) {x : S28} (hx : 0 ≤ x.f1 ∧ x.f1 < 65536 ∧ x.f0.size ≤ 24) : Small (l ++ [x]) := fun y hy => by
  rcases List.mem_append.mp hy with hy | hy
  · exact h y hy
  · rw [List.mem_singleton.mp hy]; exact hx
theorem insert_eq (k : Nat) (l : List Int) (nm : ByteArray) (n : Int) (hu : u8s l) (hl : l.length ≤ 1000000) (hk : l.length + 200 ≤ k) : entries_Insert.f k l nm n = some (insV l nm n) := by
  unfold entries_Insert.f insV
  rw [check_eq, Option.bind_some]
  by_cases h1 : ckV nm = 0
  · have hnm := ckV_zero h1
    rw [if_pos h1, if_neg (fun e : ckV nm ≠ 0 => e h1), number_eq, Option.bind_some]
    by_cases h2 : 1 ≤ n ∧ n < 65536
    · rw [if_pos (decide_eq_true h2), if_neg (fun e : ¬ (1 ≤ n ∧ n < 65536) => e h2), eread_eq l hu hl, Option.bind_some]
      by_cases h3 : (readV l).2 = 0
      · have hok := readV_ok l hu
        have hsm := small_of hok.1
        rw [if_pos h3, if_neg (fun e : (readV l).2 ≠ 0 => e h3), eat_eq, Option.bind_some]
        by_cases h4 : 0 ≤ findAt (hitE nm) 0 (readV l).1
        · rw [if_pos h4, if_pos h4]
        · rw [if_neg h4, if_neg h4, free_eq k _ (by omega) (by omega), Option.bind_some]
          have hb := findAt_bd (fun x => x.f1 == 0) (readV l).1 0
          unfold putFree
          by_cases h5 : freeAt (readV l).1 < 0
          · rw [if_pos h5, if_pos h5, if_pos (by omega), bytes_eq k _ (by rw [List.length_append]; show _ + 1 ≤ _; omega) (by rw [List.length_append]; show _ + 1 < _; omega) (small_append hsm ⟨by show 0 ≤ n; omega, by show n < _; omega, hnm.2.1⟩), Option.bind_some]
          · rw [if_neg h5, if_neg h5, if_pos (by omega), if_pos (by unfold freeAt at h5 ⊢; omega), bytes_eq k _ (by rw [List.length_set]; omega) (by rw [List.length_set]; omega) (small_set hsm _ ⟨by show 0 ≤ n; omega, by show n < _; omega, hnm.2.1⟩), Option.bind_some]
      · rw [if_neg h3, if_pos h3]
    · rw [if_neg (by rw [decide_eq_false h2]; decide), if_pos h2]
  · rw [if_neg h1, if_pos h1]
/-! Remove -/
/-- The last free ones are cut off. -/
def trim (l : List S28) : List S28 := (l.reverse.dropWhile fun x => x.f1 == 0).reverse
theorem trim_snoc (l : List S28) (x : S28) : trim (l ++ [x]) = if x.f1 = 0 then trim l else l ++ [x] := by
  unfold trim
  rw [List.reverse_append, List.reverse_singleton, List.singleton_append, List.dropWhile_cons]
  by_cases h : x.f1 = 0
  · rw [if_pos (beq_iff_eq.mpr h), if_pos h]
  · rw [if_neg (fun e => h (beq_iff_eq.mp e)), if_neg h, List.reverse_cons, List.reverse_reverse]
theorem trim_take (l : List S28) (i : Nat) (h : i < l.length) : trim (l.take (i + 1)) = if l[i].f1 = 0 then trim (l.take i) else l.take (i + 1) := by
  rw [List.take_succ_eq_append_getElem h, trim_snoc]
def remV (l : List Int) (nm : ByteArray) : List Int × Int :=
  if ckV nm ≠ 0 then ([], ckV nm) else if (readV l).2 ≠ 0 then ([], (readV l).2) else
    if findAt (hitE nm) 0 (readV l).1 < 0 then ([], 21) else (bytesL (trim ((readV l).1.set (findAt (hitE nm) 0 (readV l).1).toNat ⟨⟨#[]⟩, 0⟩)), 0)
theorem rem_loop (l : List S28) (hl : l.length ≤ 100000) (hs : Small l) : ∀ (n k : Nat), n ≤ l.length → n + l.length + 100 < k → entries_Remove.l0 k (l.take n) = some (bytesL (trim (l.take n)), 0) := by
  intro n
  induction n with
  | zero =>
    intro k hn hk
    obtain ⟨k, rfl⟩ : ∃ m, k = m + 1 := ⟨k - 1, by omega⟩
    simp only [entries_Remove.l0]
    rw [List.take_zero, if_neg (by simp), bytes_eq k [] (by simp) (by simp; omega) (fun x hx => by cases hx), Option.bind_some]
    rfl
  | succ n ih =>
    intro k hn hk
    obtain ⟨k, rfl⟩ : ∃ m, k = m + 1 := ⟨k - 1, by omega⟩
    have hlen : (l.take (n + 1)).length = n + 1 := by rw [List.length_take]; omega
    simp only [entries_Remove.l0]
    rw [hlen, if_pos (by omega), wrap64_id (by omega) (by omega), if_pos (by omega), if_pos (by omega), show ((n + 1 : Nat) : Int) - 1 = (n : Int) by omega, rd28 _ n (by omega), List.getElem_take, Int.toNat_natCast, List.take_take, Nat.min_eq_left (by omega), trim_take l n (by omega)]
    by_cases c : (l[n]'(by omega)).f1 = 0
    · rw [if_pos c, if_pos c, if_pos (by omega)]
      exact ih k (by omega) (by omega)
    · rw [if_neg c, if_neg c, bytes_eq k _ (by omega) (by omega) (fun x hx => hs x (List.mem_of_mem_take hx)), Option.bind_some]
theorem remove_eq (k : Nat) (l : List Int) (nm : ByteArray) (hu : u8s l) (hl : l.length ≤ 100000) (hk : 2 * l.length + 200 ≤ k) : entries_Remove.f k l nm = some (remV l nm) := by
  unfold entries_Remove.f remV
  rw [check_eq, Option.bind_some]
  by_cases h1 : ckV nm = 0
  · rw [if_pos h1, if_neg (fun e : ckV nm ≠ 0 => e h1), found_eq l nm hu (by omega), Option.bind_some]
    by_cases h3 : (readV l).2 = 0
    · have hok := readV_ok l hu
      have hsm := small_of hok.1
      have hb := findAt_bd (hitE nm) (readV l).1 0
      rw [if_neg (fun e : (readV l).2 ≠ 0 => e h3), if_neg (fun e : (readV l).2 ≠ 0 => e h3)]
      by_cases h4 : findAt (hitE nm) 0 (readV l).1 < 0
      · rw [if_pos h4, if_pos h4]
        rfl
      · rw [if_neg h4, if_neg h4]
        show (if (0 : Int) = 0 then (if 0 ≤ findAt (hitE nm) 0 (readV l).1 then (if findAt (hitE nm) 0 (readV l).1 < ((readV l).1.length : Int) then entries_Remove.l0 k ((readV l).1.set (findAt (hitE nm) 0 (readV l).1).toNat ⟨⟨#[]⟩, 0⟩) else none) else none) else _) = _
        rw [if_pos rfl, if_pos (by omega), if_pos (by omega)]
        have hx : Small ((readV l).1.set (findAt (hitE nm) 0 (readV l).1).toNat ⟨⟨#[]⟩, 0⟩) := small_set hsm _ ⟨Int.le_refl _, by decide, Nat.zero_le _⟩
        have hlen : ((readV l).1.set (findAt (hitE nm) 0 (readV l).1).toNat ⟨⟨#[]⟩, 0⟩).length = (readV l).1.length := List.length_set
        have := rem_loop _ (by rw [hlen]; omega) hx _ k (Nat.le_refl _) (by rw [hlen]; omega)
        rw [List.take_length] at this
        exact this
    · rw [if_pos h3, if_pos h3]
      show (if (readV l).2 = 0 then _ else _) = _
      rw [if_neg h3]
  · rw [if_neg h1, if_pos h1]
/-! List -/
theorem elist_eq (l : List Int) (hu : u8s l) (hl : l.length ≤ 1000000) : entries_List.f l = some (listV l) := by unfold entries_List.f; rw [if_pos ⟨by omega, hu⟩]
theorem new_eq (n : Int) (h0 : 0 ≤ n) (h1 : n < 65536) : entries_New.f n = some (pieceOf ⟨⟨#[46, 46]⟩, n⟩) := by
  unfold entries_New.f
  rw [epiece_eq _ n h0 h1 (by decide), Option.bind_some]
  rfl
/-! the example -/
theorem awake22_ok (k : Nat) (hk : 1000 ≤ k) : reliquarylaw22_awake.f k = some true := by
  unfold reliquarylaw22_awake.f
  have hu0 : u8s [] := fun x hx => by cases hx
  have e1 : (insV [] ⟨#[97]⟩ 5) = (bytesL [⟨⟨#[97]⟩, 5⟩], 0) := by decide +kernel
  have hu1 := bytesL_u8s [⟨⟨#[97]⟩, 5⟩]
  have hl1 := bytesL_length [⟨⟨#[97]⟩, 5⟩]
  have e2 : findV (bytesL [⟨⟨#[97]⟩, 5⟩]) ⟨#[97]⟩ = (5, 0) := by decide +kernel
  have e3 : remV (bytesL [⟨⟨#[97]⟩, 5⟩]) ⟨#[97]⟩ = ([], 0) := by decide +kernel
  have e4 : findV (bytesL [⟨⟨#[46, 46]⟩, 7⟩]) ⟨#[46, 46]⟩ = (7, 0) := by decide +kernel
  have e5 : ckV ⟨#[46, 46]⟩ = 26 := by decide +kernel
  have hl2 := bytesL_length [⟨⟨#[46, 46]⟩, 7⟩]
  rw [insert_eq k [] _ _ hu0 (by simp) (by simp; omega), Option.bind_some, e1]
  show ((entries_Find.f (bytesL [⟨⟨#[97]⟩, 5⟩]) (⟨#[97]⟩ : ByteArray)).bind _) = _
  rw [find_eq _ _ hu1 (by rw [hl1]; decide), Option.bind_some, e2]
  show ((entries_Remove.f k (bytesL [⟨⟨#[97]⟩, 5⟩]) (⟨#[97]⟩ : ByteArray)).bind _) = _
  rw [remove_eq k _ _ hu1 (by rw [hl1]; decide) (by rw [hl1]; show 2 * (32 * 1) + 200 ≤ k; omega), Option.bind_some, e3, new_eq 7 (by decide) (by decide), Option.bind_some, ← bytesL_one, find_eq _ _ (bytesL_u8s _) (by rw [hl2]; decide), Option.bind_some, e4, check_eq, e5, Option.bind_some]
  have r0 : rd (bytesL [⟨⟨#[97]⟩, 5⟩]) 0 = 5 := by decide +kernel
  have r2 : rd (bytesL [⟨⟨#[97]⟩, 5⟩]) 2 = 1 := by decide +kernel
  have r3 : rd (bytesL [⟨⟨#[97]⟩, 5⟩]) 3 = 97 := by decide +kernel
  simp only [hl1, r0, r2, r3]
  rfl
end Go.Proofs.Ytkkflgdobgbmmaa.Pure
end
section
/- What is done with directories that were written. -/
namespace Go.Proofs.Ytkkflgdobgbmmaa.Pure
open Go.RowKit Go.Proofs.Ytkkflgdobgbmmaa.Q Go.Proofs.YtkkflgdobgbmmaaW.PrintWords Go.Proofs.YtkkflgdobgbmmaaW.PrintLast Go.Proofs.YtkkflgdobgbmmaaW.PrintMore
set_option linter.unusedVariables false
set_option linter.unusedSimpArgs false
theorem findV_bytes (l : List S28) (h : DirOk l) (nm : ByteArray) : findV (bytesL l) nm = if findAt (hitE nm) 0 l < 0 then (0, 21) else ((rd_T28 l (findAt (hitE nm) 0 l)).f1, 0) := by
  unfold findV
  rw [read_bytes l h, if_neg (fun e => e rfl)]
theorem insV_bytes (l : List S28) (h : DirOk l) (nm : ByteArray) (n : Int) (h0 : 1 ≤ n) (h1 : n < 65536) (hc : ckV nm = 0) : insV (bytesL l) nm n = if 0 ≤ findAt (hitE nm) 0 l then ([], 22) else (bytesL (putFree l ⟨nm, n⟩), 0) := by
  unfold insV
  rw [read_bytes l h, if_neg (fun e => e hc), if_neg (fun e : ¬ (1 ≤ n ∧ n < 65536) => e ⟨h0, h1⟩), if_neg (fun e => e rfl)]
theorem remV_bytes (l : List S28) (h : DirOk l) (nm : ByteArray) (hc : ckV nm = 0) : remV (bytesL l) nm = if findAt (hitE nm) 0 l < 0 then ([], 21) else (bytesL (trim (l.set (findAt (hitE nm) 0 l).toNat ⟨⟨#[]⟩, 0⟩)), 0) := by
  unfold remV
  rw [read_bytes l h, if_neg (fun e => e hc), if_neg (fun e => e rfl)]
theorem listV_bytes (l : List S28) (h : DirOk l) : listV (bytesL l) = (l.filter keepE, 0) := by
  unfold listV
  rw [read_bytes l h, if_pos rfl]
theorem dots_up (n : Int) (hn : n ≠ 0) : hitE ⟨#[46, 46]⟩ ⟨⟨#[46, 46]⟩, n⟩ = true := by
  unfold hitE
  rw [if_neg (show ¬ n = 0 from hn)]
  exact beq_self_eq_true _
/-- Entries whose names differ. -/
theorem dirOk_of {l : List S28} (h : ∀ x ∈ l, EntOk x) (hp : (l.map S28.f0).Pairwise (· ≠ ·)) : DirOk l :=
  ⟨h, (List.pairwise_map.mp hp).imp (S := fun x y : S28 => y.f1 ≠ 0 → x.f0 ≠ y.f0) fun h _ => h⟩
theorem ent_ok {nm : ByteArray} {n : Int} (h0 : 1 ≤ n) (h1 : n < 65536) (h2 : 1 ≤ nm.size) (h3 : nm.size ≤ 24) : EntOk ⟨nm, n⟩ := ⟨by show 0 ≤ n; omega, h1, h3, by show n = 0 ↔ nm.size = 0; omega⟩
theorem ent_up {n : Int} (h0 : 1 ≤ n) (h1 : n < 65536) : EntOk ⟨⟨#[46, 46]⟩, n⟩ := ent_ok h0 h1 (by decide) (by decide)
theorem find_up (l : List S28) (n : Int) (hn : n ≠ 0) : findAt (hitE ⟨#[46, 46]⟩) 0 (⟨⟨#[46, 46]⟩, n⟩ :: l) = 0 := by rw [findAt, if_pos (dots_up n hn)]; rfl
end Go.Proofs.Ytkkflgdobgbmmaa.Pure
end
section
/- EntriesRooms: the law, over what the walk computes. -/
namespace Go.Proofs.Ytkkflgdobgbmmaa.Pure
open Go.RowKit Go.Proofs.Ytkkflgdobgbmmaa.Q Go.Proofs.YtkkflgdobgbmmaaW.PrintWords Go.Proofs.YtkkflgdobgbmmaaW.PrintLast Go.Proofs.YtkkflgdobgbmmaaW.PrintMore
set_option linter.unusedVariables false
set_option linter.unusedSimpArgs false
def abc : ByteArray := ⟨#[97, 98, 99, 100, 101, 102, 103, 104, 105, 106, 107, 108]⟩
def nmR (i : Nat) : ByteArray := abc.extract i (i + 1)
def entR (i : Nat) : S28 := ⟨nmR i, (i : Int) + 1⟩
def upR : S28 := ⟨⟨#[46, 46]⟩, 7⟩
def dirR (n : Nat) : List S28 := upR :: (List.range n).map entR
def goneR : S28 := ⟨⟨#[]⟩, 0⟩
theorem dirR_succ (n : Nat) : dirR (n + 1) = dirR n ++ [entR n] := by unfold dirR; rw [List.range_succ, List.map_append]; rfl
theorem dirR_length (n : Nat) : (dirR n).length = n + 1 := by unfold dirR; rw [List.length_cons, List.length_map, List.length_range]
def eqS (a b : S28) : Bool := a.f0.data.toList == b.f0.data.toList && a.f1 == b.f1
def eqL : List S28 → List S28 → Bool
  | [], [] => true
  | a :: l, b :: m => eqS a b && eqL l m
  | _, _ => false
theorem eqS_of {a b : S28} (h : eqS a b = true) : a = b := by
  unfold eqS at h
  rw [Bool.and_eq_true] at h
  cases a; cases b
  congr 1
  · exact str_ext (beq_iff_eq.mp h.1)
  · exact beq_iff_eq.mp h.2
theorem eqL_of : ∀ {l m : List S28}, eqL l m = true → l = m
  | [], [], _ => rfl
  | [], _ :: _, h => by cases h
  | _ :: _, [], h => by cases h
  | a :: l, b :: m, h => by
    unfold eqL at h
    rw [Bool.and_eq_true] at h
    rw [eqS_of h.1, eqL_of h.2]
def entB (x : S28) : Bool := decide (0 ≤ x.f1) && decide (x.f1 < 65536) && decide (x.f0.size ≤ 24) && (decide (x.f1 = 0) == decide (x.f0.size = 0))
theorem entB_of {x : S28} (h : entB x = true) : EntOk x := by
  unfold entB at h
  rw [Bool.and_eq_true, Bool.and_eq_true, Bool.and_eq_true, decide_eq_true_eq, decide_eq_true_eq, decide_eq_true_eq, beq_iff_eq, decide_eq_decide] at h
  exact ⟨h.1.1.1, h.1.1.2, h.1.2, h.2⟩
def apartB : List S28 → Bool
  | [] => true
  | x :: l => l.all (fun y => decide (y.f1 = 0) || !(x.f0.data.toList == y.f0.data.toList)) && apartB l
theorem apartB_of : ∀ {l : List S28}, apartB l = true → l.Pairwise fun x y => y.f1 ≠ 0 → x.f0 ≠ y.f0
  | [], _ => List.Pairwise.nil
  | x :: l, h => by
    unfold apartB at h
    rw [Bool.and_eq_true] at h
    refine List.pairwise_cons.mpr ⟨fun y hy hne e => ?_, apartB_of h.2⟩
    have := List.all_eq_true.mp h.1 y hy
    rw [decide_eq_false hne, Bool.false_or, Bool.not_eq_true', e] at this
    exact absurd (beq_self_eq_true _) (Bool.eq_false_iff.mp this)
def dirB (l : List S28) : Bool := l.all entB && apartB l
theorem dirB_of {l : List S28} (h : dirB l = true) : DirOk l := by
  unfold dirB at h
  rw [Bool.and_eq_true] at h
  exact ⟨fun x hx => entB_of (List.all_eq_true.mp h.1 x hx), apartB_of h.2⟩
theorem all_range {p : Nat → Bool} {n : Nat} (h : (List.range n).all p = true) (i : Nat) (hi : i < n) : p i = true := List.all_eq_true.mp h i (List.mem_range.mpr hi)
theorem r_dir (n : Nat) (hn : n < 13) : DirOk (dirR n) := dirB_of (all_range (p := fun n => dirB (dirR n)) (by decide +kernel) n hn)
theorem r_ck (n : Nat) (hn : n < 12) : ckV (nmR n) = 0 := of_decide_eq_true (all_range (p := fun n => decide (ckV (nmR n) = 0)) (n := 12) (by decide +kernel) n hn)
theorem r_new (n : Nat) (hn : n < 12) : findAt (hitE (nmR n)) 0 (dirR n) = -1 := of_decide_eq_true (all_range (p := fun n => decide (findAt (hitE (nmR n)) 0 (dirR n) = -1)) (n := 12) (by decide +kernel) n hn)
theorem r_free (n : Nat) (hn : n < 13) : freeAt (dirR n) = -1 := of_decide_eq_true (all_range (p := fun n => decide (freeAt (dirR n) = -1)) (n := 13) (by decide +kernel) n hn)
theorem r_at (n g : Nat) (hn : n < 13) (hg : g < n) : findAt (hitE (nmR g)) 0 (dirR n) = (g : Int) + 1 :=
  of_decide_eq_true (all_range (p := fun g => decide (findAt (hitE (nmR g)) 0 (dirR n) = (g : Int) + 1)) (n := n) (all_range (p := fun n => (List.range n).all fun g => decide (findAt (hitE (nmR g)) 0 (dirR n) = (g : Int) + 1)) (n := 13) (by decide +kernel) n hn) g hg)
/-- The directory when a name has gone. -/
def cutR (n g : Nat) : List S28 := trim ((dirR n).set (g + 1) goneR)
theorem r_cut (n g : Nat) (hn : n < 13) (hg : g < n) : cutR n g = if g + 1 = n then dirR g else (dirR n).set (g + 1) goneR := by
  have := all_range (p := fun g => eqL (cutR n g) (if g + 1 = n then dirR g else (dirR n).set (g + 1) goneR)) (n := n) (all_range (p := fun n => (List.range n).all fun g => eqL (cutR n g) (if g + 1 = n then dirR g else (dirR n).set (g + 1) goneR)) (n := 13) (by decide +kernel) n hn) g hg
  exact eqL_of this
theorem r_cutok (n g : Nat) (hn : n < 13) (hg : g < n) : DirOk (cutR n g) ∧ findAt (hitE ⟨#[122]⟩) 0 (cutR n g) = -1 ∧ freeAt (cutR n g) = if g + 1 = n then -1 else (g : Int) + 1 := by
  have := all_range (p := fun g => dirB (cutR n g) && decide (findAt (hitE ⟨#[122]⟩) 0 (cutR n g) = -1 ∧ freeAt (cutR n g) = if g + 1 = n then -1 else (g : Int) + 1)) (n := n) (all_range (p := fun n => (List.range n).all fun g => dirB (cutR n g) && decide (findAt (hitE ⟨#[122]⟩) 0 (cutR n g) = -1 ∧ freeAt (cutR n g) = if g + 1 = n then -1 else (g : Int) + 1)) (n := 13) (by decide +kernel) n hn) g hg
  rw [Bool.and_eq_true, decide_eq_true_eq] at this
  exact ⟨dirB_of this.1, this.2⟩
def zR (x : Int) : S28 := ⟨⟨#[122]⟩, x⟩
/-- The directory at last. -/
def endR (n g : Nat) (x : Int) : List S28 := (dirR n).set (g + 1) (zR x)
theorem r_put (n g : Nat) (x : Int) (hn : n < 13) (hg : g < n) : putFree (cutR n g) ⟨⟨#[122]⟩, x⟩ = endR n g x := by
  unfold putFree
  rw [(r_cutok n g hn hg).2.2, r_cut n g hn hg]
  by_cases h : g + 1 = n
  · subst h
    rw [if_pos rfl, if_pos rfl, if_pos (by decide)]
    unfold endR
    rw [dirR_succ, List.set_append, if_neg (by rw [dirR_length]; omega), dirR_length, Nat.sub_self]
    rfl
  · rw [if_neg h, if_neg h, if_neg (by omega), show ((g : Int) + 1).toNat = g + 1 by omega, List.set_set]
    rfl
theorem endR_form (n g : Nat) (x : Int) : endR n g x = upR :: ((List.range n).map entR).set g (zR x) := by unfold endR dirR; rw [List.set_cons_succ]
theorem r_ent (n : Nat) (hn : n < 13) : ∀ y ∈ (List.range n).map entR, EntOk y ∧ y.f1 ≠ 0 ∧ y.f0 ≠ ⟨#[46, 46]⟩ ∧ y.f0 ≠ ⟨#[122]⟩ := by
  intro y hy
  obtain ⟨i, hi, rfl⟩ := List.mem_map.mp hy
  have hi := List.mem_range.mp hi
  have := all_range (p := fun i => entB (entR i) && !((entR i).f0.data.toList == [46, 46]) && !((entR i).f0.data.toList == [122])) (n := 12) (by decide +kernel) i (by omega)
  rw [Bool.and_eq_true, Bool.and_eq_true] at this
  refine ⟨entB_of this.1.1, by show (i : Int) + 1 ≠ 0; omega, fun e => ?_, fun e => ?_⟩
  · have h2 := this.1.2
    rw [e] at h2
    cases h2
  · have h2 := this.2
    rw [e] at h2
    cases h2
theorem r_names (n g : Nat) (hn : n < 13) (hg : g < n) : (((dirR n).map S28.f0).set (g + 1) ⟨#[122]⟩).Pairwise (· ≠ ·) := by
  have hp : ∀ l : List ByteArray, (l.map fun s => s.data.toList).Nodup → l.Pairwise (· ≠ ·) := fun l h => (List.pairwise_map.mp h).imp fun h e => h (by rw [e])
  apply hp
  exact of_decide_eq_true (all_range (p := fun g => decide ((((dirR n).map S28.f0).set (g + 1) ⟨#[122]⟩).map fun s => s.data.toList).Nodup) (n := n) (all_range (p := fun n => (List.range n).all fun g => decide ((((dirR n).map S28.f0).set (g + 1) ⟨#[122]⟩).map fun s => s.data.toList).Nodup) (n := 13) (by decide +kernel) n hn) g hg)
theorem r_end (n g : Nat) (x : Int) (hn : n < 13) (hg : g < n) (h0 : 1 ≤ x) (h1 : x < 65536) : DirOk (endR n g x) := by
  apply dirOk_of
  · intro y hy
    rw [endR_form] at hy
    rcases List.mem_cons.mp hy with rfl | hy
    · exact ent_up (by decide) (by decide)
    · rcases List.mem_or_eq_of_mem_set hy with hy | rfl
      · exact (r_ent n hn y hy).1
      · exact ent_ok h0 h1 (by decide) (by decide)
  · unfold endR
    rw [List.map_set]
    exact r_names n g hn hg
theorem r_list (n g : Nat) (x : Int) (hn : n < 13) (hg : g < n) (h0 : 1 ≤ x) : (endR n g x).filter keepE = ((List.range n).map entR).set g (zR x) := by
  rw [endR_form, List.filter_cons_of_neg (by decide +kernel)]
  apply List.filter_eq_self.mpr
  intro y hy
  have key : ∀ z : S28, z.f1 ≠ 0 → z.f0 ≠ ⟨#[46, 46]⟩ → keepE z = true := by
    intro z hz1 hz2
    unfold keepE goneE
    rw [if_neg hz1]
    have : (z.f0.toList == ([46, 46] : List UInt8)) = false := by
      apply beq_eq_false_iff_ne.mpr
      intro e
      apply hz2
      apply str_ext
      rw [← Go.ByteArray.toList_eq, e]
    rw [this]
    rfl
  rcases List.mem_or_eq_of_mem_set hy with hy | rfl
  · have := r_ent n hn y hy
    exact key y this.2.1 this.2.2.1
  · exact key _ (by show x ≠ 0; omega) (fun e => by
      have e2 : (⟨#[122]⟩ : ByteArray) = ⟨#[46, 46]⟩ := e
      exact absurd (congrArg ByteArray.size e2) (by decide))
theorem ex_abc (i : Nat) (hi : i < 12) : (⟨#[97, 98, 99, 100, 101, 102, 103, 104, 105, 106, 107, 108]⟩ : ByteArray).extract ((i : Nat) : Int).toNat (((i + 1 : Nat) : Int)).toNat = nmR i := rfl
theorem rooms_tail (n g : Nat) (x0 x : Int) (hn : n < 13) (hg : g < n) (hx0 : 0 ≤ x0) (hx1 : x0 < 65536) (want : Int) (hw : want = ((32 * (if g + 1 = n then n else n + 1) : Nat) : Int)) (k : Nat) (hk : 3000 ≤ k) :
    reliquarylaw22_EntriesRooms.j1 (k + 1) x0 (n : Int) (g : Int) (bytesL (cutR n g)) 0 want = some true := by
  have hok := r_cutok n g hn hg
  have hu := bytesL_u8s (cutR n g)
  have hcl : (cutR n g).length = if g + 1 = n then n else n + 1 := by
    rw [r_cut n g hn hg]
    by_cases h : g + 1 = n
    · rw [if_pos h, if_pos h, dirR_length]; omega
    · rw [if_neg h, if_neg h, List.length_set, dirR_length]
  have hcl2 : (cutR n g).length ≤ 13 := by rw [hcl]; split <;> omega
  have hbl := bytesL_length (cutR n g)
  have hel : (endR n g x).length = n + 1 := by unfold endR; rw [List.length_set, dirR_length]
  have main : ∀ x : Int, 1 ≤ x → x < 65536 → insV (bytesL (cutR n g)) ⟨#[122]⟩ x = (bytesL (endR n g x), 0) ∧ listV (bytesL (endR n g x)) = (((List.range n).map entR).set g (zR x), 0) ∧ findV (bytesL (endR n g x)) ⟨#[46, 46]⟩ = (7, 0) ∧ (bytesL (endR n g x)).length = 32 * (n + 1) := by
    intro x h0 h1
    have hd := r_end n g x hn hg h0 h1
    refine ⟨?_, ?_, ?_, ?_⟩
    · rw [insV_bytes _ hok.1 _ x h0 h1 (by decide +kernel), hok.2.1, if_neg (by decide), r_put n g x hn hg]
    · rw [listV_bytes _ hd, r_list n g x hn hg h0]
    · rw [findV_bytes _ hd, endR_form]
      show (if findAt (hitE ⟨#[46, 46]⟩) 0 (⟨⟨#[46, 46]⟩, 7⟩ :: ((List.range n).map entR).set g (zR x)) < 0 then ((0, 21) : Int × Int) else ((rd_T28 (⟨⟨#[46, 46]⟩, 7⟩ :: ((List.range n).map entR).set g (zR x)) (findAt (hitE ⟨#[46, 46]⟩) 0 (⟨⟨#[46, 46]⟩, 7⟩ :: ((List.range n).map entR).set g (zR x)))).f1, 0)) = (7, 0)
      rw [find_up _ 7 (by decide), if_neg (by decide)]
      rfl
    · rw [bytesL_length]
      unfold endR
      rw [List.length_set, dirR_length]
  have hll : ∀ x : Int, (((List.range n).map entR).set g (zR x)).length = n := by intro x; rw [List.length_set, List.length_map, List.length_range]
  have hlg : ∀ x : Int, rd_T28 (((List.range n).map entR).set g (zR x)) (g : Int) = zR x := by
    intro x
    rw [rd28 _ g (by rw [hll]; exact hg), List.getElem_set_self]
  have hz : ∀ x : Int, (zR x).f0.toList = [122] := fun x => show (⟨#[122]⟩ : ByteArray).toList = [122] by decide +kernel
  have ww : wrap64 (32 * wrap64 ((n : Int) + 1)) = ((32 * (n + 1) : Nat) : Int) := by rw [wrap64_id (n := (n : Int) + 1) (by omega) (by omega), wrap64_id (by omega) (by omega)]; omega
  have hwant : ((bytesL (cutR n g)).length : Int) = want := by rw [hbl, hcl, hw]
  rw [reliquarylaw22_EntriesRooms.j1, wrap64_id (n := x0) (by omega) (by omega), ww]
  by_cases c : x0 = 0
  · obtain ⟨m1, m2, m3, m4⟩ := main 1 (by decide) (by decide)
    rw [if_pos c, insert_eq k _ _ 1 hu (by omega) (by omega), Option.bind_some, m1]
    show ((entries_List.f (bytesL (endR n g 1))).bind _) = _
    rw [elist_eq _ (bytesL_u8s _) (by omega), Option.bind_some, m2, find_eq _ _ (bytesL_u8s _) (by rw [m4]; omega), Option.bind_some, m3, if_pos rfl, if_pos hwant, if_pos rfl, if_pos (by rw [m4]), if_pos rfl, if_pos (by rw [hll]), if_pos (by omega), if_pos (by rw [hll]; omega), hlg, if_pos (hz _), if_pos (show (zR 1).f1 = 1 from rfl), if_pos rfl]
    rfl
  · obtain ⟨m1, m2, m3, m4⟩ := main x0 (by omega) hx1
    rw [if_neg c, insert_eq k _ _ x0 hu (by omega) (by omega), Option.bind_some, m1]
    show ((entries_List.f (bytesL (endR n g x0))).bind _) = _
    rw [elist_eq _ (bytesL_u8s _) (by omega), Option.bind_some, m2, find_eq _ _ (bytesL_u8s _) (by rw [m4]; omega), Option.bind_some, m3, if_pos rfl, if_pos hwant, if_pos rfl, if_pos (by rw [m4]), if_pos rfl, if_pos (by rw [hll]), if_pos (by omega), if_pos (by rw [hll]; omega), hlg, if_pos (hz _), if_pos (show (zR x0).f1 = x0 from rfl), if_pos rfl]
    rfl
theorem rooms_loop (n g : Nat) (x0 : Int) (hn : n < 13) (hg : g < n) (hx0 : 0 ≤ x0) (hx1 : x0 < 65536) (d : Nat) : ∀ (k i : Nat), n - i = d → i ≤ n → d + 3100 ≤ k →
    reliquarylaw22_EntriesRooms.l0 k x0 (n : Int) (g : Int) (bytesL (dirR i)) (i : Int) = some true := by
  induction d with
  | zero =>
    intro k i hd hi hk
    obtain ⟨k, rfl⟩ : ∃ m, k = m + 2 := ⟨k - 2, by omega⟩
    obtain rfl : i = n := by omega
    have hbl := bytesL_length (dirR i)
    have hdl := dirR_length i
    rw [reliquarylaw22_EntriesRooms.l0, if_neg (by omega), if_pos (by omega), wrap64_id (n := (g : Int) + 1) (by omega) (by omega), if_pos (by omega), if_pos (by omega), show (g : Int) + 1 = ((g + 1 : Nat) : Int) by omega, ex_abc g (by omega), remove_eq _ _ _ (bytesL_u8s _) (by omega) (by omega), Option.bind_some,
      remV_bytes _ (r_dir i hn) _ (r_ck g (by omega)), r_at i g hn hg, if_neg (show ¬ (g : Int) + 1 < 0 by omega), show ((g : Int) + 1).toNat = g + 1 by omega, wrap64_id (n := (i : Int) - 1) (by omega) (by omega)]
    show (if (g : Int) = (i : Int) - 1 then reliquarylaw22_EntriesRooms.j1 (k + 1) x0 (i : Int) (g : Int) (bytesL (cutR i g)) 0 (wrap64 (32 * (i : Int))) else reliquarylaw22_EntriesRooms.j1 (k + 1) x0 (i : Int) (g : Int) (bytesL (cutR i g)) 0 (wrap64 (32 * wrap64 ((i : Int) + 1)))) = _
    rw [wrap64_id (n := (i : Int) + 1) (by omega) (by omega), wrap64_id (n := 32 * (i : Int)) (by omega) (by omega), wrap64_id (n := 32 * ((i : Int) + 1)) (by omega) (by omega)]
    by_cases c : g + 1 = i
    · rw [if_pos (by omega)]
      exact rooms_tail i g x0 x0 hn hg hx0 hx1 _ (by rw [if_pos c]; omega) k (by omega)
    · rw [if_neg (by omega)]
      exact rooms_tail i g x0 x0 hn hg hx0 hx1 _ (by rw [if_neg c]; omega) k (by omega)
  | succ d ih =>
    intro k i hd hi hk
    obtain ⟨k, rfl⟩ : ∃ m, k = m + 1 := ⟨k - 1, by omega⟩
    have hin : i < n := by omega
    have hbl := bytesL_length (dirR i)
    have hdl := dirR_length i
    have hbl2 := bytesL_length (dirR (i + 1))
    have hdl2 := dirR_length (i + 1)
    have hI : insV (bytesL (dirR i)) (nmR i) ((i : Int) + 1) = (bytesL (dirR (i + 1)), 0) := by
      rw [insV_bytes _ (r_dir i (by omega)) _ _ (by omega) (by omega) (r_ck i (by omega)), r_new i (by omega), if_neg (by decide)]
      unfold putFree
      rw [r_free i (by omega), if_pos (by decide), dirR_succ]
      rfl
    rw [reliquarylaw22_EntriesRooms.l0, if_pos (by omega), if_pos (by omega), wrap64_id (n := (i : Int) + 1) (by omega) (by omega), if_pos (by omega), if_pos (by omega)]
    have e1 : (⟨#[97, 98, 99, 100, 101, 102, 103, 104, 105, 106, 107, 108]⟩ : ByteArray).extract ((i : Nat) : Int).toNat ((i : Int) + 1).toNat = nmR i := ex_abc i (by omega)
    rw [e1, insert_eq _ _ _ _ (bytesL_u8s _) (by omega) (by omega), Option.bind_some, hI, wrap64_id (n := (i : Int) + 2) (by omega) (by omega), wrap64_id (n := 32 * ((i : Int) + 2)) (by omega) (by omega)]
    show (if (0 : Int) = 0 then (if ((bytesL (dirR (i + 1))).length : Int) = 32 * ((i : Int) + 2) then reliquarylaw22_EntriesRooms.l0 k x0 (n : Int) (g : Int) (bytesL (dirR (i + 1))) ((i : Int) + 1) else some false) else some false) = _
    rw [if_pos rfl, if_pos (by omega), show (i : Int) + 1 = ((i + 1 : Nat) : Int) by omega]
    exact ih k (i + 1) (by omega) (by omega) (by omega)
theorem EntriesRooms : reliquarylaw22_EntriesRooms.Pure := by
  intro n gone x h1 h2 h3
  have hn := wf_u8 h1
  have hg := wf_u8 h2
  have hx := wf_u16 h3
  refine ⟨4000, ?_⟩
  unfold reliquarylaw22_EntriesRooms.f
  obtain ⟨m, hm⟩ := Int.eq_ofNat_of_zero_le (show 0 ≤ n % 12 by omega)
  have hk : wrap64 (wrap64 (Int.tmod n 12) + 1) = ((m + 1 : Nat) : Int) := by
    rw [Int.tmod_eq_emod_of_nonneg hn.1, wrap64_id (n := n % 12) (by omega) (by omega), wrap64_id (by omega) (by omega), hm]; omega
  have hgm : Int.tmod (wrap64 gone) ((m + 1 : Nat) : Int) = ((gone.toNat % (m + 1) : Nat) : Int) := by
    rw [wrap64_id (by omega) (by omega), Int.tmod_eq_emod_of_nonneg hg.1]
    have : gone = ((gone.toNat : Nat) : Int) := by omega
    rw [this, Int.toNat_natCast, ← Int.natCast_emod]
  rw [awake22_ok 4000 (by decide), Option.bind_some, if_pos rfl, hk, hgm, if_neg (by omega), new_eq 7 (by decide) (by decide), Option.bind_some, ← bytesL_one]
  have hlt : gone.toNat % (m + 1) < m + 1 := Nat.mod_lt _ (by omega)
  exact rooms_loop (m + 1) (gone.toNat % (m + 1)) x (by omega) hlt hx.1 hx.2 (m + 1) 4000 0 (by omega) (by omega) (by omega)
end Go.Proofs.Ytkkflgdobgbmmaa.Pure
end
section
namespace Go.Proofs.Ytkkflgdobgbmmaa.entriesRooms
open Go.ChangeShapes Go.WideShapes Go.ChangeAt Go.RowKit
open Go.ChangeMaps (open_string shut_string)
set_option linter.unusedVariables false
theorem own : ownKnob Try.prog.godebug = none := by kernel_rfl
set_option maxRecDepth 100000 in
theorem lifted (os : Os) (started : os.Started) (H : Type) (enc : TypeId × Value → H) :
    ReturnsInHanded {} Try.checked os 7 .any (Rows.entriesRoomsSpec.pre6 enc Try.prog Try.f7 Rows.entriesRoomsRow.domain false) (Rows.entriesRoomsSpec.post enc Try.prog Try.f7 false true false false) := by
  refine returnsInHanded_of_change_sized (C := Try.checked) own started (by kernel_rfl) Try.func7
    (ChangeSpec.witness6 (enc := enc) (C := Try.checked) false ⟨#[], #[.int .u8 0, .int .u8 0, .int .u16 0], []⟩ 8 (by kernel_rfl) (by kernel_rfl) (by kernel_rfl) (by kernel_rfl)) ?_
  intro W base args ds gs before hval0 hW hcnd hsz0 _
  have hsz : (DataW.weightsEach Try.prog (Try.f7.params.toList ++ Rows.entriesRoomsSpec.plain.varTypes Try.prog) (ds ++ gs)).all (· ≤ reachBytes) = true := hsz0
  have hval : ∀ (j : Nat) t v, Try.f7.params[j]? = some t → args[j]? = some v → Value.okWide Try.prog W .any base t v := hval0
  have hW' := hW
  obtain ⟨p, q, hA0, hV, rfl, hfz, hnd⟩ := hW
  have hA : DataW.TrodAll enc Try.prog W 0 (fun _ => true) true Try.f7.params.toList args.toList ds p := hA0
  rw [Try.params7] at hA hval hsz
  obtain ⟨v0, vs0, d0, ds0, p0, q0, hargs, rfl, rfl, h0, r0⟩ := trodAll_cons hA
  obtain ⟨v1, vs1, d1, ds1, p1, q1, rfl, rfl, rfl, h1, r1⟩ := trodAll_cons r0
  obtain ⟨v2, vs2, d2, ds2, p2, q2, rfl, rfl, rfl, h2, r2⟩ := trodAll_cons r1
  obtain ⟨rfl, rfl, rfl⟩ := trodAll_nil r2
  obtain rfl : args = #[v0, v1, v2] := by cases args; simp_all
  obtain ⟨rfl, rfl⟩ := trodVars_none hV
  obtain ⟨a0, rfl, rfl, rfl, w0⟩ := open_int Try.underlying5 (hval 0 5 v0 rfl rfl) h0
  obtain ⟨a1, rfl, rfl, rfl, w1⟩ := open_int Try.underlying5 (hval 1 5 v1 rfl rfl) h1
  obtain ⟨a2, rfl, rfl, rfl, w2⟩ := open_int Try.underlying41 (hval 2 41 v2 rfl rfl) h2
  clear hA0 hval0 hsz0 hsz
  refine (Q.reliquarylaw22_EntriesRooms.walk Pure.EntriesRooms a0 a1 a2 W w0 w1 w2).mono fun e W' ⟨he, bel⟩ => ?_
  subst he
  exact ⟨_, rfl, _, _, _, [], _, [], hW', trodAll_mk1 (shut_bool Try.underlying4 _), (trodAll_cons_mk (shut_int Try.underlying5 w0) (trodAll_cons_mk (shut_int Try.underlying5 w1) (trodAll_cons_mk (shut_int Try.underlying41 w2) trodAll_mk0))), rfl, bel.frame _, fun h => by cases h⟩
theorem over : Rows.entriesRoomsRow.holds Try.pinned (OpenSpec.ofChange Rows.entriesRoomsSpec) :=
  OpenClaim.holds_of_wide 7 Try.f7 rfl rfl rfl rfl rfl rfl rfl ⟨rfl, rfl, rfl, rfl, rfl⟩ rfl rfl rfl rfl rfl (by kernel_rfl) Try.func7 (by kernel_rfl)
    (of_decide_eq_true (by kernel_rfl)) (by unfold Func.isWrapper; first | (rw [if_pos (by decide +kernel)]; kernel_rfl) | (rw [if_neg (by decide +kernel)]; exact ⟨rfl, rfl⟩))
    (fun os started H enc _ => lifted os started H enc)
theorem proved : Rows.EntriesRoomsSaid := over
#print axioms proved
end Go.Proofs.Ytkkflgdobgbmmaa.entriesRooms
namespace Go.Proofs.Ytkkflgdobgbmmaa
/-- The row, under a short name, for the claim. -/
theorem entriesRooms_holds : Rows.EntriesRoomsSaid := entriesRooms.proved
end Go.Proofs.Ytkkflgdobgbmmaa
end
