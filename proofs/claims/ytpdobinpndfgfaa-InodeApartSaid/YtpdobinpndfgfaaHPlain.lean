/- Inodes and their bytes, in plain words; '==' of inodes. -/
import Derived.Test.YtpdobinpndfgfaaHModel
namespace Go.Proofs.Ytpdobinpndfgfaa.Q
open Go.RowKit Go.Proofs.YtpdobinpndfgfaaW.PrintWords Go.Proofs.YtpdobinpndfgfaaW.PrintLast Go.Proofs.YtpdobinpndfgfaaW.PrintMore Go.Proofs.Ytpdobinpndfgfaa.Pure
set_option linter.unusedVariables false
set_option linter.unusedSimpArgs false
theorem InoV.bytes_u8s {x : InoV} (hx : x.Ok) : u8s x.bytes := by
  have h2 : ∀ (n : Nat) (v : Int), u8s (lebytes n v) := lebytes_u8s
  have app : ∀ {a b : List Int}, u8s a → u8s b → u8s (a ++ b) := fun ha hb y hy => (List.mem_append.1 hy).elim (ha y) (hb y)
  have hh : u8s [x.k, 0] := by
    intro y hy
    rcases List.mem_cons.1 hy with rfl | hy
    · exact hx.k
    · rcases List.mem_cons.1 hy with rfl | hy
      · decide
      · cases hy
  have up : ∀ i, u8s (x.upto i) := by
    intro i
    induction i with
    | zero => exact app hh (app (h2 _ _) (h2 _ _))
    | succ i ih => exact app ih (h2 _ _)
  exact app (up 5) (fun y hy => by rw [List.eq_of_mem_replicate hy]; decide)
theorem num_le (n : Nat) (v : Int) (h0 : 0 ≤ v) (h : v < 256 ^ n) : leval (lebytes n v) = v := by
  rw [leval_lebytes, Int.emod_eq_of_lt h0 h]
theorem getI_bytes {x : InoV} (hx : x.Ok) : getI x.bytes = x := by
  have h2 : ∀ v : Int, u16r v → leval (lebytes 2 v) = v := fun v hv => num_le 2 v hv.1 hv.2
  have e1 : numI x.bytes 2 2 = x.li := h2 _ hx.li
  have e2 : numI x.bytes 4 4 = x.sz := num_le 4 _ hx.sz.1 hx.sz.2
  have e3 : numI x.bytes 8 2 = x.b0 := h2 _ hx.b0
  have e4 : numI x.bytes 10 2 = x.b1 := h2 _ hx.b1
  have e5 : numI x.bytes 12 2 = x.b2 := h2 _ hx.b2
  have e6 : numI x.bytes 14 2 = x.s := h2 _ hx.s
  have e7 : numI x.bytes 16 2 = x.d := h2 _ hx.d
  have e0 : rd x.bytes 0 = x.k := rfl
  unfold getI
  rw [e0, e1, e2, e3, e4, e5, e6, e7]
theorem okI_bytes (x : InoV) : okI x.bytes ↔ x.k ≤ 3 := by
  constructor
  · intro h
    exact h.2.1
  · intro h
    exact ⟨x.bytes_length, h, rfl, rfl⟩
theorem formI_bytes {x : InoV} (hx : x.Ok) : formI x.bytes = if x.k ≤ 3 then (x, 0) else (InoV.nought, 11) := by
  unfold formI
  by_cases h : x.k ≤ 3
  · rw [if_pos h, if_pos ((okI_bytes x).2 h), getI_bytes hx]
  · rw [if_neg h, if_neg (fun h2 => h ((okI_bytes x).1 h2))]
theorem bytes_getI (l : List Int) (hu : u8s l) (h : okI l) : (getI l).bytes = l := by
  obtain ⟨hl, h0, h1, ha⟩ := h
  match l, hl with
  | [a0, a1, a2, a3, a4, a5, a6, a7, a8, a9, a10, a11, a12, a13, a14, a15, a16, a17, a18, a19, a20, a21, a22, a23, a24, a25, a26, a27, a28, a29, a30, a31], _ =>
    have hr := (any18 _ rfl).1 ha
    have z : ∀ i : Nat, 18 ≤ i → i < 32 → rd [a0, a1, a2, a3, a4, a5, a6, a7, a8, a9, a10, a11, a12, a13, a14, a15, a16, a17, a18, a19, a20, a21, a22, a23, a24, a25, a26, a27, a28, a29, a30, a31] (i : Int) = 0 := hr
    have hz18 : a18 = 0 := z 18 (by decide) (by decide)
    have hz19 : a19 = 0 := z 19 (by decide) (by decide)
    have hz20 : a20 = 0 := z 20 (by decide) (by decide)
    have hz21 : a21 = 0 := z 21 (by decide) (by decide)
    have hz22 : a22 = 0 := z 22 (by decide) (by decide)
    have hz23 : a23 = 0 := z 23 (by decide) (by decide)
    have hz24 : a24 = 0 := z 24 (by decide) (by decide)
    have hz25 : a25 = 0 := z 25 (by decide) (by decide)
    have hz26 : a26 = 0 := z 26 (by decide) (by decide)
    have hz27 : a27 = 0 := z 27 (by decide) (by decide)
    have hz28 : a28 = 0 := z 28 (by decide) (by decide)
    have hz29 : a29 = 0 := z 29 (by decide) (by decide)
    have hz30 : a30 = 0 := z 30 (by decide) (by decide)
    have hz31 : a31 = 0 := z 31 (by decide) (by decide)
    have hz1 : a1 = 0 := h1
    have e2 : lebytes 2 (numI [a0, a1, a2, a3, a4, a5, a6, a7, a8, a9, a10, a11, a12, a13, a14, a15, a16, a17, a18, a19, a20, a21, a22, a23, a24, a25, a26, a27, a28, a29, a30, a31] 2 2) = [a2, a3] := lebytes_leval (cutV [a0, a1, a2, a3, a4, a5, a6, a7, a8, a9, a10, a11, a12, a13, a14, a15, a16, a17, a18, a19, a20, a21, a22, a23, a24, a25, a26, a27, a28, a29, a30, a31] 2 2) (u8s_cut hu _ _)
    have e8 : lebytes 2 (numI [a0, a1, a2, a3, a4, a5, a6, a7, a8, a9, a10, a11, a12, a13, a14, a15, a16, a17, a18, a19, a20, a21, a22, a23, a24, a25, a26, a27, a28, a29, a30, a31] 8 2) = [a8, a9] := lebytes_leval (cutV [a0, a1, a2, a3, a4, a5, a6, a7, a8, a9, a10, a11, a12, a13, a14, a15, a16, a17, a18, a19, a20, a21, a22, a23, a24, a25, a26, a27, a28, a29, a30, a31] 8 2) (u8s_cut hu _ _)
    have e10 : lebytes 2 (numI [a0, a1, a2, a3, a4, a5, a6, a7, a8, a9, a10, a11, a12, a13, a14, a15, a16, a17, a18, a19, a20, a21, a22, a23, a24, a25, a26, a27, a28, a29, a30, a31] 10 2) = [a10, a11] := lebytes_leval (cutV [a0, a1, a2, a3, a4, a5, a6, a7, a8, a9, a10, a11, a12, a13, a14, a15, a16, a17, a18, a19, a20, a21, a22, a23, a24, a25, a26, a27, a28, a29, a30, a31] 10 2) (u8s_cut hu _ _)
    have e12 : lebytes 2 (numI [a0, a1, a2, a3, a4, a5, a6, a7, a8, a9, a10, a11, a12, a13, a14, a15, a16, a17, a18, a19, a20, a21, a22, a23, a24, a25, a26, a27, a28, a29, a30, a31] 12 2) = [a12, a13] := lebytes_leval (cutV [a0, a1, a2, a3, a4, a5, a6, a7, a8, a9, a10, a11, a12, a13, a14, a15, a16, a17, a18, a19, a20, a21, a22, a23, a24, a25, a26, a27, a28, a29, a30, a31] 12 2) (u8s_cut hu _ _)
    have e14 : lebytes 2 (numI [a0, a1, a2, a3, a4, a5, a6, a7, a8, a9, a10, a11, a12, a13, a14, a15, a16, a17, a18, a19, a20, a21, a22, a23, a24, a25, a26, a27, a28, a29, a30, a31] 14 2) = [a14, a15] := lebytes_leval (cutV [a0, a1, a2, a3, a4, a5, a6, a7, a8, a9, a10, a11, a12, a13, a14, a15, a16, a17, a18, a19, a20, a21, a22, a23, a24, a25, a26, a27, a28, a29, a30, a31] 14 2) (u8s_cut hu _ _)
    have e16 : lebytes 2 (numI [a0, a1, a2, a3, a4, a5, a6, a7, a8, a9, a10, a11, a12, a13, a14, a15, a16, a17, a18, a19, a20, a21, a22, a23, a24, a25, a26, a27, a28, a29, a30, a31] 16 2) = [a16, a17] := lebytes_leval (cutV [a0, a1, a2, a3, a4, a5, a6, a7, a8, a9, a10, a11, a12, a13, a14, a15, a16, a17, a18, a19, a20, a21, a22, a23, a24, a25, a26, a27, a28, a29, a30, a31] 16 2) (u8s_cut hu _ _)
    have e4 : lebytes 4 (numI [a0, a1, a2, a3, a4, a5, a6, a7, a8, a9, a10, a11, a12, a13, a14, a15, a16, a17, a18, a19, a20, a21, a22, a23, a24, a25, a26, a27, a28, a29, a30, a31] 4 4) = [a4, a5, a6, a7] := lebytes_leval (cutV [a0, a1, a2, a3, a4, a5, a6, a7, a8, a9, a10, a11, a12, a13, a14, a15, a16, a17, a18, a19, a20, a21, a22, a23, a24, a25, a26, a27, a28, a29, a30, a31] 4 4) (u8s_cut hu _ _)
    show ((((([a0, 0] ++ (lebytes 2 (numI [a0, a1, a2, a3, a4, a5, a6, a7, a8, a9, a10, a11, a12, a13, a14, a15, a16, a17, a18, a19, a20, a21, a22, a23, a24, a25, a26, a27, a28, a29, a30, a31] 2 2) ++ lebytes 4 (numI [a0, a1, a2, a3, a4, a5, a6, a7, a8, a9, a10, a11, a12, a13, a14, a15, a16, a17, a18, a19, a20, a21, a22, a23, a24, a25, a26, a27, a28, a29, a30, a31] 4 4))) ++ lebytes 2 (numI [a0, a1, a2, a3, a4, a5, a6, a7, a8, a9, a10, a11, a12, a13, a14, a15, a16, a17, a18, a19, a20, a21, a22, a23, a24, a25, a26, a27, a28, a29, a30, a31] 8 2)) ++ lebytes 2 (numI [a0, a1, a2, a3, a4, a5, a6, a7, a8, a9, a10, a11, a12, a13, a14, a15, a16, a17, a18, a19, a20, a21, a22, a23, a24, a25, a26, a27, a28, a29, a30, a31] 10 2)) ++ lebytes 2 (numI [a0, a1, a2, a3, a4, a5, a6, a7, a8, a9, a10, a11, a12, a13, a14, a15, a16, a17, a18, a19, a20, a21, a22, a23, a24, a25, a26, a27, a28, a29, a30, a31] 12 2)) ++ lebytes 2 (numI [a0, a1, a2, a3, a4, a5, a6, a7, a8, a9, a10, a11, a12, a13, a14, a15, a16, a17, a18, a19, a20, a21, a22, a23, a24, a25, a26, a27, a28, a29, a30, a31] 14 2)) ++ lebytes 2 (numI [a0, a1, a2, a3, a4, a5, a6, a7, a8, a9, a10, a11, a12, a13, a14, a15, a16, a17, a18, a19, a20, a21, a22, a23, a24, a25, a26, a27, a28, a29, a30, a31] 16 2) ++ List.replicate 14 0 = _
    rw [e2, e4, e8, e10, e12, e14, e16, hz1, hz18, hz19, hz20, hz21, hz22, hz23, hz24, hz25, hz26, hz27, hz28, hz29, hz30, hz31]
    rfl
/-! '==' -/
def InoV.nums3 (x : InoV) : List Int := [x.b0, x.b1, x.b2]
def InoV.nums5 (x : InoV) : List Int := [x.b0, x.b1, x.b2, x.s, x.d]
def InoV.same (x y : InoV) : Bool := x.k == y.k && (x.li == y.li && (x.sz == y.sz && (decide (x.nums3 = y.nums3) && (x.s == y.s && x.d == y.d))))
def InoV.sameN (x y : InoV) : Bool := x.k == y.k && (x.li == y.li && (x.sz == y.sz && decide (x.nums5 = y.nums5)))
theorem InoV.same_self (x : InoV) : x.same x = true := by simp [InoV.same]
theorem InoV.sameN_self (x : InoV) : x.sameN x = true := by simp [InoV.sameN]
theorem part_nums3 (x : InoV) (W : World) : (part 24 x.cells 3).run Try.prog W = .ok (.agg (encs (Value.int .u16) x.nums3).toArray) W := by kernel_rfl
theorem part_nums5 (x : InoV) (W : World) : (part 33 x.cells 3).run Try.prog W = .ok (.agg (encs (Value.int .u16) x.nums5).toArray) W := by kernel_rfl
theorem partI (t : TypeId) (x : InoV) (i : Nat) (v : Value) (h : ∀ W : World, (part t x.cells i).run Try.prog W = .ok v W) (W : World) : (part t x.cells i).run Try.prog W = .ok v W := h W
theorem eqIno (x y : InoV) (d : Nat) (W : World) : (Op.equalIn (d + 3) 26 (.agg x.cells) (.agg y.cells)).run Try.prog W = .ok (x.same y) W := by
  refine eqA_of Try.underlying26 (by kernel_rfl) ?_
  refine eqf_cons (by rfl) (show (part 5 x.cells 0).run Try.prog W = .ok (.int .u8 x.k) W by kernel_rfl) (show (part 5 y.cells 0).run Try.prog W = .ok (.int .u8 y.k) W by kernel_rfl) (run_equalIn_int W (d + 1) 5 .u8 .u8 _ _ Try.underlying5) ?_
  refine eqf_cons (by rfl) (show (part 22 x.cells 1).run Try.prog W = .ok (.int .u16 x.li) W by kernel_rfl) (show (part 22 y.cells 1).run Try.prog W = .ok (.int .u16 y.li) W by kernel_rfl) (run_equalIn_int W (d + 1) 22 .u16 .u16 _ _ Try.underlying22) ?_
  refine eqf_cons (by rfl) (show (part 23 x.cells 2).run Try.prog W = .ok (.int .u32 x.sz) W by kernel_rfl) (show (part 23 y.cells 2).run Try.prog W = .ok (.int .u32 y.sz) W by kernel_rfl) (run_equalIn_int W (d + 1) 23 .u32 .u32 _ _ Try.underlying23) ?_
  refine eqf_cons (by rfl) (part_nums3 x W) (part_nums3 y W) (run_equalIn_ints d 3 24 22 .u16 Try.underlying24 Try.underlying22 (by kernel_rfl) _ _ rfl rfl W) ?_
  refine eqf_cons (by rfl) (show (part 22 x.cells 6).run Try.prog W = .ok (.int .u16 x.s) W by kernel_rfl) (show (part 22 y.cells 6).run Try.prog W = .ok (.int .u16 y.s) W by kernel_rfl) (run_equalIn_int W (d + 1) 22 .u16 .u16 _ _ Try.underlying22) ?_
  exact eqf_last (by rfl) (show (part 22 x.cells 7).run Try.prog W = .ok (.int .u16 x.d) W by kernel_rfl) (show (part 22 y.cells 7).run Try.prog W = .ok (.int .u16 y.d) W by kernel_rfl) (run_equalIn_int W (d + 1) 22 .u16 .u16 _ _ Try.underlying22)
theorem eqN (x y : InoV) (d : Nat) (W : World) : (Op.equalIn (d + 3) 35 (.agg x.cells) (.agg y.cells)).run Try.prog W = .ok (x.sameN y) W := by
  refine eqA_of Try.underlying35 (by kernel_rfl) ?_
  refine eqf_cons (by rfl) (show (part 5 x.cells 0).run Try.prog W = .ok (.int .u8 x.k) W by kernel_rfl) (show (part 5 y.cells 0).run Try.prog W = .ok (.int .u8 y.k) W by kernel_rfl) (run_equalIn_int W (d + 1) 5 .u8 .u8 _ _ Try.underlying5) ?_
  refine eqf_cons (by rfl) (show (part 22 x.cells 1).run Try.prog W = .ok (.int .u16 x.li) W by kernel_rfl) (show (part 22 y.cells 1).run Try.prog W = .ok (.int .u16 y.li) W by kernel_rfl) (run_equalIn_int W (d + 1) 22 .u16 .u16 _ _ Try.underlying22) ?_
  refine eqf_cons (by rfl) (show (part 23 x.cells 2).run Try.prog W = .ok (.int .u32 x.sz) W by kernel_rfl) (show (part 23 y.cells 2).run Try.prog W = .ok (.int .u32 y.sz) W by kernel_rfl) (run_equalIn_int W (d + 1) 23 .u32 .u32 _ _ Try.underlying23) ?_
  exact eqf_last (by rfl) (part_nums5 x W) (part_nums5 y W) (run_equalIn_ints d 5 33 22 .u16 Try.underlying33 Try.underlying22 (by kernel_rfl) _ _ rfl rfl W)
theorem neq_ino (x y : InoV) (W : World) : (binOp .neq 26 (.agg x.cells) (.agg y.cells)).run Try.prog W = .ok (.bool (!x.same y)) W := by
  rw [run_neq_struct, eqIno x y 9997 W]
  rfl
theorem neq_N (x y : InoV) (W : World) : (binOp .neq 35 (.agg x.cells) (.agg y.cells)).run Try.prog W = .ok (.bool (!x.sameN y)) W := by
  rw [run_neq_struct, eqN x y 9997 W]
  rfl
theorem guard_ino (op : BinOp) (x y : Operand) (xs ys : Array Value) (W : World) : (eqGuard op 26 x y (.agg xs) (.agg ys)).run Try.prog W = .ok () W := run_eqGuard_agg W op _ x y xs ys (by kernel_rfl)
theorem guard_N (op : BinOp) (x y : Operand) (xs ys : Array Value) (W : World) : (eqGuard op 35 x y (.agg xs) (.agg ys)).run Try.prog W = .ok () W := run_eqGuard_agg W op _ x y xs ys (by kernel_rfl)
end Go.Proofs.Ytpdobinpndfgfaa.Q
