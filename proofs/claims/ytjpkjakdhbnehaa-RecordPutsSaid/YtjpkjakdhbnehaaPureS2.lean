/- Bytes, as a string and back. -/
import Derived.Test.YtjpkjakdhbnehaaPureS

namespace Go.Proofs.Ytjpkjakdhbnehaa.Pure
open Go.RowKit Go.Proofs.Ytjpkjakdhbnehaa.Q Go.Proofs.YtjpkjakdhbnehaaW.PrintWords Go.Proofs.YtjpkjakdhbnehaaW.PrintLast Go.Proofs.YtjpkjakdhbnehaaW.PrintMore
set_option linter.unusedVariables false
set_option linter.unusedSimpArgs false

theorem u8_back {n : Int} (h : 0 ≤ n ∧ n < 256) : ((UInt8.ofNat n.toNat).toNat : Int) = n := by
  rw [UInt8.toNat_ofNat']
  omega
theorem bytesOf_str {x : List Int} (hx : u8s x) : bytesOf (strOfNums x) = x := by
  unfold bytesOf
  rw [strOfNums_data, List.map_map]
  have : ∀ (l : List Int), (∀ v ∈ l, 0 ≤ v ∧ v < 256) → l.map ((fun b : UInt8 => (b.toNat : Int)) ∘ fun n : Int => UInt8.ofNat n.toNat) = l := by
    intro l
    induction l with
    | nil => intro _; rfl
    | cons a l ih =>
      intro h
      rw [List.map_cons, ih (fun v hv => h v (List.mem_cons_of_mem _ hv))]
      congr 1
      exact u8_back (h a (List.mem_cons_self ..))
  exact this x hx
theorem bt_str {x : List Int} (hx : u8s x) (i : Int) : bt (strOfNums x) i = rd x i := by rw [← rd_bytesOf, bytesOf_str hx]
theorem str_take (x : List Int) (n : Nat) : ((strOfNums x).extract 0 n).toList = (x.take n).map fun m => UInt8.ofNat m.toNat := by
  rw [Go.ByteArray.toList_eq, ByteArray.data_extract, Array.toList_extract, List.extract_eq_take_drop, strOfNums_data, List.drop_zero, Nat.sub_zero, List.map_take]
theorem u8s_take {l : List Int} (h : u8s l) (n : Nat) : u8s (l.take n) := fun x hx => h x (List.mem_of_mem_take hx)
theorem lebytes_leval : ∀ (l : List Int), u8s l → lebytes l.length (leval l) = l
  | [], _ => rfl
  | a :: l, h => by
    have ha := h a (List.mem_cons_self ..)
    rw [List.length_cons, lebytes, leval]
    have e1 : (a + 256 * leval l) % 256 = a := by omega
    have e2 : (a + 256 * leval l) / 256 = leval l := by omega
    rw [e1, e2, lebytes_leval l (fun v hv => h v (List.mem_cons_of_mem _ hv))]
end Go.Proofs.Ytjpkjakdhbnehaa.Pure
