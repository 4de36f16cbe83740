/- RecordBack: for every input the statement's function returns true; there is no further condition. Text 1 of 4: this session's texts, laid together by its own program (merge.py). Not trusted: Lean checks them. -/
import Derived.Test.YtjpkjakdhbnehaaProg
import Derived.Below
import Derived.Deep.Draws
import Derived.Deep.AppendLies
import Derived.Maps.AppendAt
import Derived.OwnWalk
import Derived.Laws.BytesArg
import Derived.Laws.MakeOwn
import Derived.Laws.OwnMore
import Derived.Deep.OwnRows
import Derived.Tactics
import Derived.Lib.ConvBytes
import Derived.Laws.Slices
import Derived.WalkKit
import Derived.KernelRfl
import Derived.RowKit3
import Derived.Deep.LoopGhost
import Derived.Deep.QuietTactic
import Derived.BigQuiet
import Derived.WideLaws
import Derived.Deep.DeepCutAuto
import Derived.Deep.CutBlock
import Derived.Deep.RegionHeld3
import Derived.Laws.Rows
import Derived.Lib.AppendStr
import Derived.ArgAppend
import Derived.Laws.IdiomCopy
import Derived.OrdersHeld
import Derived.Laws.BitsLemmas
import Derived.RowKit
import Derived.Laws.CopyOwn
import Derived.Lib.SliceRun
import Derived.Outline
import Derived.Test.YtjpkjakdhbnehaaWWords
import Derived.Test.YtjpkjakdhbnehaaWLast
import Derived.Test.YtjpkjakdhbnehaaWTab
import Derived.Test.YtjpkjakdhbnehaaWFour
import Derived.Test.YtjpkjakdhbnehaaWQPut
import Derived.Test.YtjpkjakdhbnehaaWApart
import Derived.Test.YtjpkjakdhbnehaaWArr
import Derived.Test.YtjpkjakdhbnehaaWZeros
import Derived.Test.YtjpkjakdhbnehaaWFoot
import Derived.Test.YtjpkjakdhbnehaaWKept
import Derived.Test.YtjpkjakdhbnehaaWShare
import Derived.Test.YtjpkjakdhbnehaaWN
import Derived.Test.YtjpkjakdhbnehaaWFootNe
import Derived.Test.YtjpkjakdhbnehaaWAt
import Derived.Test.YtjpkjakdhbnehaaWEqStruct
import Derived.Test.YtjpkjakdhbnehaaWRepsOne
import Derived.Test.YtjpkjakdhbnehaaWInv
import Derived.Test.YtjpkjakdhbnehaaWInvWords
import Derived.Test.YtjpkjakdhbnehaaWGuard
import Derived.Test.YtjpkjakdhbnehaaWNEv
import Derived.Test.YtjpkjakdhbnehaaWMore
import Derived.ProofKit
import Derived.OpenShut
import Derived.ShutString
import Derived.ChangeOld
import Derived.SizedLaws
import Derived.Deep.Grids
import Derived.Laws.CopyRow
import Derived.Laws.ResultCell
import Derived.Laws.StructEq
import Derived.Laws.BytesString
section
-- Written by this session's own program (ext_print.py) over the kit's print.py, hand proofs among it. Not trusted: Lean checks it.
namespace Go.Proofs.Ytjpkjakdhbnehaa.Q
open Go.RowKit Go.Proofs.YtjpkjakdhbnehaaW.PrintWords Go.Proofs.YtjpkjakdhbnehaaW.PrintLast Go.Proofs.YtjpkjakdhbnehaaW.PrintMore
attribute [local go_sem] max2_int min2_int max_two min_two max_three min_three max_four min_four   -- for this text's walks alone
set_option linter.unusedVariables false
set_option linter.unusedSimpArgs false



def errW : Option Int → Value
  | none => .nilIface
  | some c => .iface 0 (.int .i64 c)
theorem errW_none : errW none = .nilIface := rfl
theorem errW_some (c : Int) : errW (some c) = .iface 0 (.int .i64 c) := rfl

theorem info5 : (Try.prog.info? 5).map (fun i => (i.zero, i.size, i.bytes)) = some (some (.int .u8 0), 1, 1) := by kernel_rfl
theorem info23 : (Try.prog.info? 23).map (fun i => (i.zero, i.size, i.bytes)) = some (some (.slice none 0 0), 1, 24) := by kernel_rfl
theorem info25 : (Try.prog.info? 25).map (fun i => (i.zero, i.size, i.bytes)) = some (some (.agg #[(.int .u64 0), (.slice none 0 0)]), 2, 32) := by kernel_rfl
theorem info27 : (Try.prog.info? 27).map (fun i => (i.zero, i.size, i.bytes)) = some (some (.slice none 0 0), 1, 24) := by kernel_rfl
theorem info30 : (Try.prog.info? 30).map (fun i => (i.zero, i.size, i.bytes)) = some (some (.agg #[(.int .u64 0), (.slice none 0 0), (.bool false)]), 3, 40) := by kernel_rfl
theorem info37 : (Try.prog.info? 37).map (fun i => (i.zero, i.size, i.bytes)) = some (some (.agg #[(.int .u64 0), (.string ⟨#[]⟩)]), 2, 24) := by kernel_rfl
theorem info39 : (Try.prog.info? 39).map (fun i => (i.zero, i.size, i.bytes)) = some (some (.agg #[(.int .u64 0), (.string ⟨#[]⟩), (.bool false)]), 3, 32) := by kernel_rfl
theorem info54 : (Try.prog.info? 54).map (fun i => (i.zero, i.size, i.bytes)) = some (some (.slice none 0 0), 1, 24) := by kernel_rfl
-- the values' own types
def rd_L1 (xs : List (List Int)) (i : Int) : (List Int) := xs.getD i.toNat ([] : List Int)
theorem at_L1 {w : World} {A : Option Addr} {n : Nat} {xs : List (List Int)} (h : Kd.C (Kd.slice 5 (Kd.int .u8)) w A n xs) (i : Int) (h0 : 0 ≤ i) (h1 : i < n) : ∃ ad A0 c0, A = some ad ∧ w.cell? (ad.add i.toNat) = some (.slice A0 (rd_L1 xs i).length c0) ∧ (rd_L1 xs i).length ≤ c0 ∧ (Kd.int .u8).C w A0 (rd_L1 xs i).length (rd_L1 xs i) := by
  obtain ⟨ad, c, e, _, hK, hc0⟩ := Kd.C_get h ([] : List Int) i h0 h1
  have hc : ∀ j u, c[j]? = some u → w.cell? (ad.add (i.toNat * 1 + j)) = some u := hc0
  obtain ⟨A0, c0, rfl, l0, g0⟩ := hK
  exact ⟨ad, A0, c0, e, by have hq := hc 0 _ rfl; rwa [Nat.mul_one, Nat.add_zero] at hq, l0, g0⟩

def rd_L2 (xs : List (List (List Int))) (i : Int) : (List (List Int)) := xs.getD i.toNat ([] : List (List Int))
theorem at_L2 {w : World} {A : Option Addr} {n : Nat} {xs : List (List (List Int))} (h : Kd.C (Kd.slice 23 (Kd.slice 5 (Kd.int .u8))) w A n xs) (i : Int) (h0 : 0 ≤ i) (h1 : i < n) : ∃ ad A0 c0, A = some ad ∧ w.cell? (ad.add i.toNat) = some (.slice A0 (rd_L2 xs i).length c0) ∧ (rd_L2 xs i).length ≤ c0 ∧ (Kd.slice 5 (Kd.int .u8)).C w A0 (rd_L2 xs i).length (rd_L2 xs i) := by
  obtain ⟨ad, c, e, _, hK, hc0⟩ := Kd.C_get h ([] : List (List Int)) i h0 h1
  have hc : ∀ j u, c[j]? = some u → w.cell? (ad.add (i.toNat * 1 + j)) = some u := hc0
  obtain ⟨A0, c0, rfl, l0, g0⟩ := hK
  exact ⟨ad, A0, c0, e, by have hq := hc 0 _ rfl; rwa [Nat.mul_one, Nat.add_zero] at hq, l0, g0⟩

/-! #### struct type 25 -/
structure S25 where
  f0 : Int
  f1 : (List Int)
def z25 : S25 := ⟨(0 : Int), ([] : List Int)⟩
def k25 : Kd S25 := Kd.iso (Kd.pair (Kd.int .u64) (Kd.slice 5 (Kd.int .u8))) (fun x : S25 => (x.f0, x.f1))
theorem k25_open {w : World} {x : S25} {cs : List Value} (h : k25.K w x cs) : ∃ A1 c1, cs = [.int .u64 x.f0, .slice A1 x.f1.length c1] ∧ x.f1.length ≤ c1 ∧ (Kd.int .u8).C w A1 x.f1.length x.f1 := by
  obtain ⟨_, _, rfl, rfl, ⟨A1, c1, rfl, l1, g1⟩⟩ := h
  exact ⟨A1, c1, rfl, l1, g1⟩
theorem k25_openM {w : World} {base : Nat} {ok : Nat → Prop} {x : S25} {cs : List Value} (h : k25.M w base ok x cs) : ∃ v1, cs = [.int .u64 x.f0, v1] ∧ (Kd.int .u8).R 5 w base ok v1 x.f1 := by
  obtain ⟨_, _, rfl, rfl, ⟨v1, rfl, g1⟩⟩ := h
  exact ⟨v1, rfl, g1⟩
theorem k25_mk (w : World) (x : S25) {A1 : Option Addr} {c1 : Nat} (l1 : x.f1.length ≤ c1) (g1 : (Kd.int .u8).C w A1 x.f1.length x.f1) : k25.K w x [.int .u64 x.f0, .slice A1 x.f1.length c1] := ⟨[.int .u64 x.f0], [.slice A1 x.f1.length c1], rfl, rfl, ⟨A1, c1, rfl, l1, g1⟩⟩
theorem k25_mkM (w : World) (base : Nat) (ok : Nat → Prop) (x : S25) {v1 : Value} (g1 : (Kd.int .u8).R 5 w base ok v1 x.f1) : k25.M w base ok x [.int .u64 x.f0, v1] := ⟨[.int .u64 x.f0], [v1], rfl, rfl, ⟨v1, rfl, g1⟩⟩
theorem k25_openF {W : World} {ok : Nat → Prop} {x : S25} {cs : List Value} (h : Kd.FK k25 W ok x cs) : ∃ A1 c1, cs = [.int .u64 x.f0, .slice A1 x.f1.length c1] ∧ x.f1.length ≤ c1 ∧ Kd.F (Kd.int .u8) W ok A1 x.f1.length x.f1 := by
  obtain ⟨A1, c1, rfl, l1, _⟩ := k25_open (Kd.FK_now h)
  exact ⟨A1, c1, rfl, l1, (fun W' hW => by obtain ⟨A1_, c1_, he, l1_, g1_⟩ := k25_open (h W' hW); injection (Option.some.inj (show some (Value.slice A1 x.f1.length c1) = some (Value.slice A1_ x.f1.length c1_) from congrArg (fun l => l[1]?) he)) with ha_ _ _; rw [ha_]; exact g1_)⟩
theorem k25_mkF (W : World) (ok : Nat → Prop) (x : S25) {A1 : Option Addr} {c1 : Nat} (l1 : x.f1.length ≤ c1) (g1 : Kd.F (Kd.int .u8) W ok A1 x.f1.length x.f1) : Kd.FK k25 W ok x [.int .u64 x.f0, .slice A1 x.f1.length c1] := fun W2 hW => k25_mk W2 x l1 (g1 W2 hW)
def rd_T25 (xs : List S25) (i : Int) : S25 := xs.getD i.toNat z25
theorem at_T25 {w : World} {A : Option Addr} {n : Nat} {xs : List S25} (h : Kd.C k25 w A n xs) (i : Int) (h0 : 0 ≤ i) (h1 : i < n) : ∃ ad A1 c1, A = some ad ∧ w.cell? (ad.add (i.toNat * 2)) = some (.int .u64 (rd_T25 xs i).f0) ∧ w.cell? ⟨(ad.add (i.toNat * 2)).block, (ad.add (i.toNat * 2)).off + 1, none⟩ = some (.slice A1 (rd_T25 xs i).f1.length c1) ∧ (rd_T25 xs i).f1.length ≤ c1 ∧ (Kd.int .u8).C w A1 (rd_T25 xs i).f1.length (rd_T25 xs i).f1 := by
  obtain ⟨ad, c, e, _, hK, hc0⟩ := Kd.C_get h z25 i h0 h1
  have hc : ∀ j u, c[j]? = some u → w.cell? (ad.add (i.toNat * 2 + j)) = some u := hc0
  obtain ⟨A1, c1, rfl, l1, g1⟩ := k25_open hK
  exact ⟨ad, A1, c1, e, hc 0 _ rfl, by rw [← add_field _ _ 1 (by omega)]; exact hc 1 _ rfl, l1, g1⟩

/-! #### struct type 30 -/
structure S30 where
  f0 : S25
  f1 : Bool
def z30 : S30 := ⟨z25, false⟩
def k30 : Kd S30 := Kd.iso (Kd.pair k25 Kd.bool) (fun x : S30 => (x.f0, x.f1))
theorem k30_open {w : World} {x : S30} {cs : List Value} (h : k30.K w x cs) : ∃ A1 c1, cs = [.int .u64 x.f0.f0, .slice A1 x.f0.f1.length c1, .bool x.f1] ∧ x.f0.f1.length ≤ c1 ∧ (Kd.int .u8).C w A1 x.f0.f1.length x.f0.f1 := by
  obtain ⟨_, _, rfl, s0, rfl⟩ := h
  obtain ⟨A1, c1, rfl, l1, g1⟩ := k25_open s0
  exact ⟨A1, c1, rfl, l1, g1⟩
theorem k30_openM {w : World} {base : Nat} {ok : Nat → Prop} {x : S30} {cs : List Value} (h : k30.M w base ok x cs) : ∃ v1, cs = [.int .u64 x.f0.f0, v1, .bool x.f1] ∧ (Kd.int .u8).R 5 w base ok v1 x.f0.f1 := by
  obtain ⟨_, _, rfl, s0, rfl⟩ := h
  obtain ⟨v1, rfl, g1⟩ := k25_openM s0
  exact ⟨v1, rfl, g1⟩
theorem k30_mk (w : World) (x : S30) {A1 : Option Addr} {c1 : Nat} (l1 : x.f0.f1.length ≤ c1) (g1 : (Kd.int .u8).C w A1 x.f0.f1.length x.f0.f1) : k30.K w x [.int .u64 x.f0.f0, .slice A1 x.f0.f1.length c1, .bool x.f1] := ⟨[.int .u64 x.f0.f0, .slice A1 x.f0.f1.length c1], [.bool x.f1], rfl, (k25_mk w x.f0 l1 g1), rfl⟩
theorem k30_mkM (w : World) (base : Nat) (ok : Nat → Prop) (x : S30) {v1 : Value} (g1 : (Kd.int .u8).R 5 w base ok v1 x.f0.f1) : k30.M w base ok x [.int .u64 x.f0.f0, v1, .bool x.f1] := ⟨[.int .u64 x.f0.f0, v1], [.bool x.f1], rfl, (k25_mkM w base ok x.f0 g1), rfl⟩
theorem k30_openF {W : World} {ok : Nat → Prop} {x : S30} {cs : List Value} (h : Kd.FK k30 W ok x cs) : ∃ A1 c1, cs = [.int .u64 x.f0.f0, .slice A1 x.f0.f1.length c1, .bool x.f1] ∧ x.f0.f1.length ≤ c1 ∧ Kd.F (Kd.int .u8) W ok A1 x.f0.f1.length x.f0.f1 := by
  obtain ⟨A1, c1, rfl, l1, _⟩ := k30_open (Kd.FK_now h)
  exact ⟨A1, c1, rfl, l1, (fun W' hW => by obtain ⟨A1_, c1_, he, l1_, g1_⟩ := k30_open (h W' hW); injection (Option.some.inj (show some (Value.slice A1 x.f0.f1.length c1) = some (Value.slice A1_ x.f0.f1.length c1_) from congrArg (fun l => l[1]?) he)) with ha_ _ _; rw [ha_]; exact g1_)⟩
theorem k30_mkF (W : World) (ok : Nat → Prop) (x : S30) {A1 : Option Addr} {c1 : Nat} (l1 : x.f0.f1.length ≤ c1) (g1 : Kd.F (Kd.int .u8) W ok A1 x.f0.f1.length x.f0.f1) : Kd.FK k30 W ok x [.int .u64 x.f0.f0, .slice A1 x.f0.f1.length c1, .bool x.f1] := fun W2 hW => k30_mk W2 x l1 (g1 W2 hW)
def rd_T30 (xs : List S30) (i : Int) : S30 := xs.getD i.toNat z30
theorem at_T30 {w : World} {A : Option Addr} {n : Nat} {xs : List S30} (h : Kd.C k30 w A n xs) (i : Int) (h0 : 0 ≤ i) (h1 : i < n) : ∃ ad A1 c1, A = some ad ∧ w.cell? (ad.add (i.toNat * 3)) = some (.int .u64 (rd_T30 xs i).f0.f0) ∧ w.cell? ⟨(ad.add (i.toNat * 3)).block, (ad.add (i.toNat * 3)).off + 1, none⟩ = some (.slice A1 (rd_T30 xs i).f0.f1.length c1) ∧ w.cell? ⟨(ad.add (i.toNat * 3)).block, (ad.add (i.toNat * 3)).off + 2, none⟩ = some (.bool (rd_T30 xs i).f1) ∧ (rd_T30 xs i).f0.f1.length ≤ c1 ∧ (Kd.int .u8).C w A1 (rd_T30 xs i).f0.f1.length (rd_T30 xs i).f0.f1 := by
  obtain ⟨ad, c, e, _, hK, hc0⟩ := Kd.C_get h z30 i h0 h1
  have hc : ∀ j u, c[j]? = some u → w.cell? (ad.add (i.toNat * 3 + j)) = some u := hc0
  obtain ⟨A1, c1, rfl, l1, g1⟩ := k30_open hK
  exact ⟨ad, A1, c1, e, hc 0 _ rfl, by rw [← add_field _ _ 1 (by omega)]; exact hc 1 _ rfl, by rw [← add_field _ _ 2 (by omega)]; exact hc 2 _ rfl, l1, g1⟩

/-! #### struct type 37 -/
structure S37 where
  f0 : Int
  f1 : ByteArray
def z37 : S37 := ⟨(0 : Int), (⟨#[]⟩ : ByteArray)⟩
def k37 : Kd S37 := Kd.iso (Kd.pair (Kd.int .u64) Kd.string) (fun x : S37 => (x.f0, x.f1))
theorem k37_open {w : World} {x : S37} {cs : List Value} (h : k37.K w x cs) : cs = [.int .u64 x.f0, .string x.f1] := by
  obtain ⟨_, _, rfl, rfl, rfl⟩ := h
  exact rfl
theorem k37_openM {w : World} {base : Nat} {ok : Nat → Prop} {x : S37} {cs : List Value} (h : k37.M w base ok x cs) : cs = [.int .u64 x.f0, .string x.f1] := by
  obtain ⟨_, _, rfl, rfl, rfl⟩ := h
  exact rfl
theorem k37_mk (w : World) (x : S37)  : k37.K w x [.int .u64 x.f0, .string x.f1] := ⟨[.int .u64 x.f0], [.string x.f1], rfl, rfl, rfl⟩
theorem k37_mkM (w : World) (base : Nat) (ok : Nat → Prop) (x : S37)  : k37.M w base ok x [.int .u64 x.f0, .string x.f1] := ⟨[.int .u64 x.f0], [.string x.f1], rfl, rfl, rfl⟩
theorem k37_mkF (W : World) (ok : Nat → Prop) (x : S37) : Kd.FK k37 W ok x [.int .u64 x.f0, .string x.f1] := fun W2 _ => k37_mk W2 x
def rd_T37 (xs : List S37) (i : Int) : S37 := xs.getD i.toNat z37
theorem at_T37 {w : World} {A : Option Addr} {n : Nat} {xs : List S37} (h : Kd.C k37 w A n xs) (i : Int) (h0 : 0 ≤ i) (h1 : i < n) : ∃ ad , A = some ad ∧ w.cell? (ad.add (i.toNat * 2)) = some (.int .u64 (rd_T37 xs i).f0) ∧ w.cell? ⟨(ad.add (i.toNat * 2)).block, (ad.add (i.toNat * 2)).off + 1, none⟩ = some (.string (rd_T37 xs i).f1) := by
  obtain ⟨ad, c, e, _, hK, hc0⟩ := Kd.C_get h z37 i h0 h1
  have hc : ∀ j u, c[j]? = some u → w.cell? (ad.add (i.toNat * 2 + j)) = some u := hc0
  obtain rfl := k37_open hK
  exact ⟨ad, e, hc 0 _ rfl, by rw [← add_field _ _ 1 (by omega)]; exact hc 1 _ rfl⟩

/-! #### struct type 39 -/
structure S39 where
  f0 : S37
  f1 : Bool
def z39 : S39 := ⟨z37, false⟩
def k39 : Kd S39 := Kd.iso (Kd.pair k37 Kd.bool) (fun x : S39 => (x.f0, x.f1))
theorem k39_open {w : World} {x : S39} {cs : List Value} (h : k39.K w x cs) : cs = [.int .u64 x.f0.f0, .string x.f0.f1, .bool x.f1] := by
  obtain ⟨_, _, rfl, s0, rfl⟩ := h
  obtain rfl := k37_open s0
  exact rfl
theorem k39_openM {w : World} {base : Nat} {ok : Nat → Prop} {x : S39} {cs : List Value} (h : k39.M w base ok x cs) : cs = [.int .u64 x.f0.f0, .string x.f0.f1, .bool x.f1] := by
  obtain ⟨_, _, rfl, s0, rfl⟩ := h
  obtain rfl := k37_openM s0
  exact rfl
theorem k39_mk (w : World) (x : S39)  : k39.K w x [.int .u64 x.f0.f0, .string x.f0.f1, .bool x.f1] := ⟨[.int .u64 x.f0.f0, .string x.f0.f1], [.bool x.f1], rfl, (k37_mk w x.f0 ), rfl⟩
theorem k39_mkM (w : World) (base : Nat) (ok : Nat → Prop) (x : S39)  : k39.M w base ok x [.int .u64 x.f0.f0, .string x.f0.f1, .bool x.f1] := ⟨[.int .u64 x.f0.f0, .string x.f0.f1], [.bool x.f1], rfl, (k37_mkM w base ok x.f0 ), rfl⟩
theorem k39_mkF (W : World) (ok : Nat → Prop) (x : S39) : Kd.FK k39 W ok x [.int .u64 x.f0.f0, .string x.f0.f1, .bool x.f1] := fun W2 _ => k39_mk W2 x
def rd_T39 (xs : List S39) (i : Int) : S39 := xs.getD i.toNat z39
theorem at_T39 {w : World} {A : Option Addr} {n : Nat} {xs : List S39} (h : Kd.C k39 w A n xs) (i : Int) (h0 : 0 ≤ i) (h1 : i < n) : ∃ ad , A = some ad ∧ w.cell? (ad.add (i.toNat * 3)) = some (.int .u64 (rd_T39 xs i).f0.f0) ∧ w.cell? ⟨(ad.add (i.toNat * 3)).block, (ad.add (i.toNat * 3)).off + 1, none⟩ = some (.string (rd_T39 xs i).f0.f1) ∧ w.cell? ⟨(ad.add (i.toNat * 3)).block, (ad.add (i.toNat * 3)).off + 2, none⟩ = some (.bool (rd_T39 xs i).f1) := by
  obtain ⟨ad, c, e, _, hK, hc0⟩ := Kd.C_get h z39 i h0 h1
  have hc : ∀ j u, c[j]? = some u → w.cell? (ad.add (i.toNat * 3 + j)) = some u := hc0
  obtain rfl := k39_open hK
  exact ⟨ad, e, hc 0 _ rfl, by rw [← add_field _ _ 1 (by omega)]; exact hc 1 _ rfl, by rw [← add_field _ _ 2 (by omega)]; exact hc 2 _ rfl⟩

def rd_L11 (xs : List (List S30)) (i : Int) : (List S30) := xs.getD i.toNat ([] : List S30)
theorem at_L11 {w : World} {A : Option Addr} {n : Nat} {xs : List (List S30)} (h : Kd.C (Kd.slice 30 k30) w A n xs) (i : Int) (h0 : 0 ≤ i) (h1 : i < n) : ∃ ad A0 c0, A = some ad ∧ w.cell? (ad.add i.toNat) = some (.slice A0 (rd_L11 xs i).length c0) ∧ (rd_L11 xs i).length ≤ c0 ∧ k30.C w A0 (rd_L11 xs i).length (rd_L11 xs i) := by
  obtain ⟨ad, c, e, _, hK, hc0⟩ := Kd.C_get h ([] : List S30) i h0 h1
  have hc : ∀ j u, c[j]? = some u → w.cell? (ad.add (i.toNat * 1 + j)) = some u := hc0
  obtain ⟨A0, c0, rfl, l0, g0⟩ := hK
  exact ⟨ad, A0, c0, e, by have hq := hc 0 _ rfl; rwa [Nat.mul_one, Nat.add_zero] at hq, l0, g0⟩

def rd_L12 (xs : List (List S25)) (i : Int) : (List S25) := xs.getD i.toNat ([] : List S25)
theorem at_L12 {w : World} {A : Option Addr} {n : Nat} {xs : List (List S25)} (h : Kd.C (Kd.slice 25 k25) w A n xs) (i : Int) (h0 : 0 ≤ i) (h1 : i < n) : ∃ ad A0 c0, A = some ad ∧ w.cell? (ad.add i.toNat) = some (.slice A0 (rd_L12 xs i).length c0) ∧ (rd_L12 xs i).length ≤ c0 ∧ k25.C w A0 (rd_L12 xs i).length (rd_L12 xs i) := by
  obtain ⟨ad, c, e, _, hK, hc0⟩ := Kd.C_get h ([] : List S25) i h0 h1
  have hc : ∀ j u, c[j]? = some u → w.cell? (ad.add (i.toNat * 1 + j)) = some u := hc0
  obtain ⟨A0, c0, rfl, l0, g0⟩ := hK
  exact ⟨ad, A0, c0, e, by have hq := hc 0 _ rfl; rwa [Nat.mul_one, Nat.add_zero] at hq, l0, g0⟩

def rd_L13 (xs : List (List (List S25))) (i : Int) : (List (List S25)) := xs.getD i.toNat ([] : List (List S25))
theorem at_L13 {w : World} {A : Option Addr} {n : Nat} {xs : List (List (List S25))} (h : Kd.C (Kd.slice 27 (Kd.slice 25 k25)) w A n xs) (i : Int) (h0 : 0 ≤ i) (h1 : i < n) : ∃ ad A0 c0, A = some ad ∧ w.cell? (ad.add i.toNat) = some (.slice A0 (rd_L13 xs i).length c0) ∧ (rd_L13 xs i).length ≤ c0 ∧ (Kd.slice 25 k25).C w A0 (rd_L13 xs i).length (rd_L13 xs i) := by
  obtain ⟨ad, c, e, _, hK, hc0⟩ := Kd.C_get h ([] : List (List S25)) i h0 h1
  have hc : ∀ j u, c[j]? = some u → w.cell? (ad.add (i.toNat * 1 + j)) = some u := hc0
  obtain ⟨A0, c0, rfl, l0, g0⟩ := hK
  exact ⟨ad, A0, c0, e, by have hq := hc 0 _ rfl; rwa [Nat.mul_one, Nat.add_zero] at hq, l0, g0⟩

def rd_L14 (xs : List (List S37)) (i : Int) : (List S37) := xs.getD i.toNat ([] : List S37)
theorem at_L14 {w : World} {A : Option Addr} {n : Nat} {xs : List (List S37)} (h : Kd.C (Kd.slice 37 k37) w A n xs) (i : Int) (h0 : 0 ≤ i) (h1 : i < n) : ∃ ad A0 c0, A = some ad ∧ w.cell? (ad.add i.toNat) = some (.slice A0 (rd_L14 xs i).length c0) ∧ (rd_L14 xs i).length ≤ c0 ∧ k37.C w A0 (rd_L14 xs i).length (rd_L14 xs i) := by
  obtain ⟨ad, c, e, _, hK, hc0⟩ := Kd.C_get h ([] : List S37) i h0 h1
  have hc : ∀ j u, c[j]? = some u → w.cell? (ad.add (i.toNat * 1 + j)) = some u := hc0
  obtain ⟨A0, c0, rfl, l0, g0⟩ := hK
  exact ⟨ad, A0, c0, e, by have hq := hc 0 _ rfl; rwa [Nat.mul_one, Nat.add_zero] at hq, l0, g0⟩

end Go.Proofs.Ytjpkjakdhbnehaa.Q
end
section
/- Slices of images, and of booleans, that come in. -/
namespace Go.Proofs.Ytjpkjakdhbnehaa.Q
open Go.ChangeShapes Go.WideShapes Go.ChangeAt Go.RowKit Go.Proofs.YtjpkjakdhbnehaaW.PrintWords
set_option linter.unusedVariables false
set_option linter.unusedSimpArgs false
theorem list_of' {α : Type} {p : Nat → α → Prop} : ∀ (n : Nat), (∀ i, i < n → ∃ x, p i x) → ∃ l : List α, l.length = n ∧ ∀ i x, l[i]? = some x → p i x
  | 0, _ => ⟨[], rfl, fun i x h => by simp at h⟩
  | n + 1, h => by
    obtain ⟨l, h1, h2⟩ := list_of' n (fun i hi => h i (by omega))
    obtain ⟨y, hy⟩ := h n (by omega)
    refine ⟨l ++ [y], by simp [h1], fun i x hx => ?_⟩
    by_cases hi : i < l.length
    · rw [List.getElem?_append_left hi] at hx
      exact h2 i x hx
    · have hlt := (List.getElem?_eq_some_iff.1 hx).1
      simp at hlt
      have : i = l.length := by omega
      subst this
      rw [List.getElem?_append_right (Nat.le_refl _), Nat.sub_self] at hx
      simp at hx
      subst hx
      rw [h1]
      exact hy
theorem add_add' {a : Addr} {i j : Nat} : (a.add i).add j = a.add (i + j) := by
  unfold Addr.add
  by_cases ha : i = 0 <;> by_cases hb : j = 0 <;> simp [ha, hb, Nat.add_assoc]
section
variable {H : Type} {enc : TypeId × Value → H} {W : World} {held : Bool} {fuel : Nat} {cs : List Value} {y : DataW H × List MemPlace}
theorem open_u8s (h : DataW.trod enc Try.prog W 0 (fun _ => true) held fuel 23 cs = some y) : ∃ (A : Option Addr) (l : List Int) (c : Nat), cs = [.slice A l.length c] ∧ l.length ≤ c ∧ Kd.C (Kd.int .u8) W A l.length l := by
  have key : ∃ (a : Option Addr) (len cap : Nat) (zs : List Int), cs = [.slice a len cap] ∧ ((a = none ∧ len = 0 ∧ cap = 0 ∧ zs = []) ∨ ∃ x, a = some x ∧ len ≤ cap ∧ cap ≤ maxLen ∧ zs.length = cap ∧ (∀ i, i < zs.length → W.cell? (x.add i) = some (.int .u8 (zs.getD i 0))) ∧ ∀ n ∈ zs, (Lit.int .u8 n).wf = true) := by
    rcases open_ints Try.underlying23 Try.underlying5 (by kernel_rfl) h with ⟨e_, _⟩ | ⟨x, l, c, zs, e_, _, hl_, hm_, hz_, _, hc_, hw_⟩
    · exact ⟨none, 0, 0, [], e_, .inl ⟨rfl, rfl, rfl, rfl⟩⟩
    · exact ⟨some x, l, c, zs, e_, .inr ⟨_, rfl, hl_, hm_, by simpa using hz_, hc_, hw_⟩⟩
  obtain ⟨a, len, cap, zs, e, hz⟩ := key
  obtain ⟨l, rfl, hr, hm, hw, hc⟩ := ReadsInt.ofRowC hz
  exact ⟨a, l, cap, e, hc, Kd.C_of_reads (d := (0 : Int)) (h1 := fun _ => rfl) hr⟩
theorem open_img (h : DataW.trod enc Try.prog W 0 (fun _ => true) held fuel 25 cs = some y) : ∃ x : S25, k25.K W x cs := by
  obtain ⟨xs, n, _, _, hl, hlen, hff⟩ := DataW.trod_struct Try.underlying25 h
  have hsz : cs.length = 2 := hl.trans (by kernel_rfl)
  obtain ⟨c0, c1, rfl⟩ : ∃ c0 c1 : Value, cs = [c0, c1] := by
    rcases cs with _ | ⟨c0, _ | ⟨c1, _ | ⟨_, _⟩⟩⟩ <;> simp at hsz
    exact ⟨c0, c1, rfl⟩
  have hq0 := hff 0 _ rfl
  rw [List.getElem?_eq_getElem (show 0 < xs.length by rw [hlen]; decide)] at hq0
  have u0 : Try.prog.cellsOf 22 = 1 := by kernel_rfl
  obtain ⟨b, e_, _, w0⟩ := DataW.trod_int Try.underlying22 hq0
  obtain rfl : c0 = .int .u64 b := by simpa [u0] using e_
  have hq1 := hff 1 _ rfl
  rw [List.getElem?_eq_getElem (show 1 < xs.length by rw [hlen]; decide)] at hq1
  have u1 : Try.prog.cellsOf 23 = 1 := by kernel_rfl
  obtain ⟨A, l, c, e1, hc, hC⟩ := open_u8s hq1
  obtain rfl : c1 = .slice A l.length c := by simpa [u1] using e1
  exact ⟨⟨b, l⟩, k25_mk W ⟨b, l⟩ hc hC⟩
/-- A slice of elements each of which is read. -/
theorem open_row {α : Type} (d : Kd α) {t e : TypeId} (ht : Try.prog.underlying t = some (.slice e)) (hsz : Try.prog.cellsOf e = d.sz) (he : ∀ (n : Nat) (cs : List Value) (y : DataW H × List MemPlace), DataW.trod enc Try.prog W 0 (fun _ => true) held n e cs = some y → ∃ x, d.K W x cs)
    (h : DataW.trod enc Try.prog W 0 (fun _ => true) held fuel t cs = some y) : ∃ (A : Option Addr) (xs : List α) (c : Nat), cs = [.slice A xs.length c] ∧ xs.length ≤ c ∧ Kd.C d W A xs.length xs := by
  rcases DataW.trod_slice ht h with ⟨hcs, _⟩ | ⟨ad, len', cap', elems, rest, n, _, hcs, hx, _, hle, hm, hlen, hel, _, _⟩
  · exact ⟨none, [], 0, hcs, Nat.le_refl _, rfl, by simp, fun h => absurd h (by simp)⟩
  · obtain ⟨l, h1, h2⟩ := list_of' (p := fun i x => ∃ c : List Value, c.length = d.sz ∧ d.K W x c ∧ ∀ (k : Nat) (u : Value), c[k]? = some u → W.cell? (ad.add (i * d.sz + k)) = some u) len' (fun i hi => by
      have hq := hel i hi
      rw [List.getElem?_eq_getElem (by omega), Option.bind_eq_some_iff] at hq
      obtain ⟨c, hc, hq⟩ := hq
      obtain ⟨x, hx⟩ := he n c _ hq
      rw [hsz] at hc
      obtain ⟨_, hcl, hcg⟩ := World.cells?_some hc
      refine ⟨x, c, hcl, hx, fun k u hu => ?_⟩
      have hk := (List.getElem?_eq_some_iff.1 hu).1
      have := hcg k (by omega)
      rw [add_add'] at this
      rw [this, hu])
    refine ⟨some ad, l, cap', by rw [h1]; exact hcs, by omega, rfl, by simp only [maxLen] at hm; omega, fun _ => ⟨ad, rfl, fun j p hj => h2 j p hj⟩⟩
theorem open_imgs (h : DataW.trod enc Try.prog W 0 (fun _ => true) held fuel 27 cs = some y) : ∃ (A : Option Addr) (xs : List S25) (c : Nat), cs = [.slice A xs.length c] ∧ xs.length ≤ c ∧ Kd.C k25 W A xs.length xs :=
  open_row k25 Try.underlying27 (by kernel_rfl) (fun n cs y h => open_img h) h
theorem open_imgss (h : DataW.trod enc Try.prog W 0 (fun _ => true) held fuel 56 cs = some y) : ∃ (A : Option Addr) (xs : List (List S25)) (c : Nat), cs = [.slice A xs.length c] ∧ xs.length ≤ c ∧ Kd.C (Kd.slice 25 k25) W A xs.length xs :=
  open_row (Kd.slice 25 k25) Try.underlying56 (by kernel_rfl) (fun n cs y h => by
    obtain ⟨A, xs, c, rfl, hc, hC⟩ := open_imgs h
    exact ⟨xs, A, c, rfl, hc, hC⟩) h
theorem open_bls (h : DataW.trod enc Try.prog W 0 (fun _ => true) held fuel 47 cs = some y) : ∃ (A : Option Addr) (xs : List Bool) (c : Nat), cs = [.slice A xs.length c] ∧ xs.length ≤ c ∧ Kd.C Kd.bool W A xs.length xs :=
  open_row Kd.bool Try.underlying47 (by kernel_rfl) (fun n cs y h => by
    obtain ⟨b, h1, _⟩ := DataW.trod_bool Try.underlying4 h
    exact ⟨b, h1⟩) h
end
/-- What came in, and what is known of it. -/
structure RowIn (α : Type) where
  a : Option Addr
  c : Nat
  xs : List α
def RowIn.Ok {α : Type} (d : Kd α) (W : World) (x : RowIn α) : Prop := Kd.C d W x.a x.xs.length x.xs ∧ x.xs.length ≤ x.c
section
variable {H : Type} {enc : TypeId × Value → H} {W : World} {base : Nat} {r : _} {v : Value} {d : DataW H} {p : List MemPlace}
theorem in_imgs (hv : Value.okWide Try.prog W r base 27 v) (h : DataW.Trod enc Try.prog W 0 (fun _ => true) true 27 v d p) : ∃ x : RowIn S25, RowIn.Ok k25 W x ∧ v = .slice x.a x.xs.length x.c := by
  obtain ⟨a, len, cap, rfl⟩ := okWide_slice Try.underlying27 hv
  obtain ⟨fuel, hf⟩ := h
  obtain ⟨A, xs, c, e, hc, hC⟩ := open_imgs hf
  simp [Value.cells] at e
  obtain ⟨rfl, rfl, rfl⟩ := e
  exact ⟨⟨_, _, xs⟩, ⟨hC, hc⟩, rfl⟩
theorem in_imgss (hv : Value.okWide Try.prog W r base 56 v) (h : DataW.Trod enc Try.prog W 0 (fun _ => true) true 56 v d p) : ∃ x : RowIn (List S25), RowIn.Ok (Kd.slice 25 k25) W x ∧ v = .slice x.a x.xs.length x.c := by
  obtain ⟨a, len, cap, rfl⟩ := okWide_slice Try.underlying56 hv
  obtain ⟨fuel, hf⟩ := h
  obtain ⟨A, xs, c, e, hc, hC⟩ := open_imgss hf
  simp [Value.cells] at e
  obtain ⟨rfl, rfl, rfl⟩ := e
  exact ⟨⟨_, _, xs⟩, ⟨hC, hc⟩, rfl⟩
theorem in_bools (hv : Value.okWide Try.prog W r base 47 v) (h : DataW.Trod enc Try.prog W 0 (fun _ => true) true 47 v d p) : ∃ x : RowIn Bool, RowIn.Ok Kd.bool W x ∧ v = .slice x.a x.xs.length x.c := by
  obtain ⟨a, len, cap, rfl⟩ := okWide_slice Try.underlying47 hv
  obtain ⟨fuel, hf⟩ := h
  obtain ⟨A, xs, c, e, hc, hC⟩ := open_bls hf
  simp [Value.cells] at e
  obtain ⟨rfl, rfl, rfl⟩ := e
  exact ⟨⟨_, _, xs⟩, ⟨hC, hc⟩, rfl⟩
end
end Go.Proofs.Ytjpkjakdhbnehaa.Q
end
section
/- A region that draws its order, of which each operation only reads, or makes new memory: what is known of each destination once its operation is listed stays known. -/
namespace Go.Proofs.Ytjpkjakdhbnehaa.Q
open Go.RowKit Go.Proofs.YtjpkjakdhbnehaaW.PrintWords Go.Proofs.YtjpkjakdhbnehaaW.PrintLast Go.Proofs.YtjpkjakdhbnehaaW.PrintMore
set_option linter.unusedVariables false
set_option linter.unusedSimpArgs false

/-- What is known of a value, and stays known while memory only grows. -/
structure VP where
  p : Value → World → Prop
  st : ∀ v w w', p v w → Below w.heap.size w w' → p v w'
/-- The value itself. -/
def VP.is (X : Value) : VP := ⟨fun v _ => v = X, fun _ _ _ h _ => h⟩
def VP.any : VP := ⟨fun _ _ => True, fun _ _ _ _ _ => trivial⟩
/-- A fact on the value alone. -/
def VP.sat (f : Value → Prop) : VP := ⟨fun v _ => f v, fun _ _ _ h _ => h⟩
/-- A slice that reads as a list. -/
def VP.row {α : Type} (d : Kd α) (xs : List α) : VP := ⟨fun v w => ∃ A c, v = .slice A xs.length c ∧ xs.length ≤ c ∧ d.C w A xs.length xs, fun _ _ _ ⟨A, c, h1, h2, h3⟩ hb => ⟨A, c, h1, h2, Kd.C_below h3 hb⟩⟩
/-- The head of a block that is known whole. -/
def VP.blk (base : Nat) (cs : Array Value) (t : TypeId) : VP := ⟨fun v w => ∃ g, v = .pointer (some ⟨g, 0, none⟩) ∧ base ≤ g ∧ w.heap[g]? = some (.cells cs t (0, 0)), fun _ _ _ ⟨g, h1, h2, h3⟩ hb => ⟨g, h1, h2, blk_below h3 hb⟩⟩
/-- A row of the call's own. -/
def VP.own {α : Type} (d : Kd α) (e base : Nat) (xs : List α) : VP := ⟨fun v w => d.R e w base (fun _ => True) v xs, fun _ _ _ h hb => Kd.R_below h hb⟩

/-- The operation comes to a value (of itself, or by a call), and R holds of it. -/
def Does (P : Program) (o : Oper) (a : Act) (w : World) (R : Value → World → Prop) : Prop :=
  (∃ v w', (execOp a.eval o).run P w = .ok (.value v) w' ∧ R v w') ∨ (∃ f args, (execOp a.eval o).run P w = .ok (.enter f args) w ∧ Calls P f args w fun e w' => ∃ v, e = .returned v ∧ R v w')
abbrev Facts := List (Nat × Tmp × VP)
def MI (L : Facts) (a0 : Act) (w0 : World) (b : Nat → Bool) (a : Act) (w : World) : Prop :=
  Below w0.heap.size w0 w ∧ a.defers = a0.defers ∧ a.tmps.size = a0.tmps.size ∧ (∀ t, (L.all fun e => !(e.2.1 == t)) = true → a.tmps[t]? = a0.tmps[t]?) ∧
    ∀ e ∈ L, (b e.1 = false → a.tmps[e.2.1]? = a0.tmps[e.2.1]?) ∧ (b e.1 = true → ∃ v, a.tmps[e.2.1]? = some v ∧ e.2.2.p v w)
/-- What a step may use. -/
structure Have (L : Facts) (B : List Nat) (a0 : Act) (w0 : World) (i : Nat) (a : Act) (w : World) : Prop where
  below : Below w0.heap.size w0 w
  amb : ∀ t, (L.all fun e => !(e.2.1 == t)) = true → a.tmps[t]? = a0.tmps[t]?
  old : ∀ e ∈ L, (B.getD e.1 0).testBit i = true → a.tmps[e.2.1]? = a0.tmps[e.2.1]?
  new : ∀ e ∈ L, (B.getD i 0).testBit e.1 = true → ∃ v, a.tmps[e.2.1]? = some v ∧ e.2.2.p v w
theorem Have.tmp {L : Facts} {B : List Nat} {a0 : Act} {w0 : World} {i : Nat} {a : Act} {w : World} (H : Have L B a0 w0 i a w) {t : Tmp} {v : Value} (hv : a0.tmps[t]? = some v) (h : (L.all fun e => !(e.2.1 == t)) = true) : a.tmps[t]? = some v := (H.amb t h).trans hv
theorem Have.tmp' {L : Facts} {B : List Nat} {a0 : Act} {w0 : World} {i : Nat} {a : Act} {w : World} (H : Have L B a0 w0 i a w) {t : Tmp} {v : Value} (hv : a0.tmps[t]? = some v) (k : Nat) {j : Nat} {p : VP} (hk : L[k]? = some (j, t, p)) (h : (B.getD j 0).testBit i = true) : a.tmps[t]? = some v :=
  (H.old _ (List.mem_of_getElem? hk) h).trans hv
theorem Have.on {L : Facts} {B : List Nat} {a0 : Act} {w0 : World} {i : Nat} {a : Act} {w : World} (H : Have L B a0 w0 i a w) (k : Nat) {j : Nat} {t : Tmp} {p : VP} (hk : L[k]? = some (j, t, p)) (h : (B.getD i 0).testBit j = true) : ∃ v, a.tmps[t]? = some v ∧ p.p v w :=
  H.new _ (List.mem_of_getElem? hk) h
def MStep (P : Program) (ops : Array Oper) (L : Facts) (B : List Nat) (a0 : Act) (w0 : World) (e : Nat × Tmp × VP) : Prop :=
  ∀ a w, Have L B a0 w0 e.1 a w → ∃ oi, ops[e.1]? = some oi ∧ oi.dst = some e.2.1 ∧
    ((Region.wanted oi (yielded ops a.tmps) = true ∧ Does P oi a w fun v w' => Below w.heap.size w w' ∧ e.2.2.p v w') ∨ (Region.wanted oi (yielded ops a.tmps) = false ∧ e.2.2.p undef w))
/-- Behind the region: each destination has its value. -/
def Ends (w : World) (Q : Act → Prop) : Facts → Act → Prop
  | [], a => Q a
  | e :: r, a => ∀ v, e.2.2.p v w → Ends w Q r (a.put (some e.2.1) v)
def distinctB (L : Facts) : Bool := decide ((L.map (·.1)).Nodup) && decide ((L.map (·.2.1)).Nodup)
def insideB (L : Facts) (n : Nat) : Bool := L.all fun e => Nat.ble (e.2.1 + 1) n
section
variable {P : Program} {ops : Array Oper} {Q : Exit → Act → World → Prop} {T : Bool × List (List Nat × List Nat)} {B : List Nat} {O : List Nat} {L : Facts} {a0 : Act} {w0 : World}
theorem nodup_key {α β : Type} {f : α → β} : ∀ {l : List α}, (l.map f).Nodup → ∀ {x y : α}, x ∈ l → y ∈ l → f x = f y → x = y
  | [], _, _, _, h, _, _ => by cases h
  | z :: l, hn, x, y, hx, hy, he => by
    rw [List.map_cons, List.nodup_cons] at hn
    rcases List.mem_cons.1 hx with e1 | hx1
    · rcases List.mem_cons.1 hy with e2 | hy1
      · rw [e1, e2]
      · have := List.mem_map_of_mem (f := f) hy1
        rw [← he, e1] at this
        exact absurd this hn.1
    · rcases List.mem_cons.1 hy with e2 | hy1
      · have := List.mem_map_of_mem (f := f) hx1
        rw [he, e2] at this
        exact absurd this hn.1
      · exact nodup_key hn.2 hx1 hy1 he
theorem tmps_put {a : Act} {t u : Tmp} {v : Value} (h : t < a.tmps.size) : (a.put (some t) v).tmps[u]? = if t = u then some v else a.tmps[u]? := by
  show (a.tmps.setIfInBounds t v)[u]? = _
  rw [Array.getElem?_setIfInBounds]
  by_cases e : t = u
  · subst e
    simp [h]
  · simp [e]
/-- One step keeps what is known. -/
theorem MI_step (hd : distinctB L = true) (hin : insideB L a0.tmps.size = true) {e : Nat × Tmp × VP} (he : e ∈ L) {b : Nat → Bool} {a : Act} {w w' : World} (h : MI L a0 w0 b a w) (hbe : b e.1 = false) {v : Value} (hb : Below w.heap.size w w') (hp : e.2.2.p v w') :
    MI L a0 w0 (up b e.1) (a.put (some e.2.1) v) w' := by
  obtain ⟨h1, h2, h3, h4, h5⟩ := h
  simp only [distinctB, Bool.and_eq_true, decide_eq_true_eq] at hd
  have hlt : e.2.1 < a.tmps.size := by
    rw [h3]
    exact Nat.le_of_ble_eq_true (List.all_eq_true.1 hin e he)
  refine ⟨h1.trans (hb.mono h1.size), h2, by show (a.tmps.setIfInBounds _ _).size = _; rw [Array.size_setIfInBounds]; exact h3, fun t ht => ?_, fun e' he' => ?_⟩
  · have hne : e.2.1 ≠ t := by have := List.all_eq_true.1 ht e he; simpa using this
    rw [tmps_put hlt, if_neg hne]
    exact h4 t ht
  · by_cases hq : e.1 = e'.1
    · obtain rfl := nodup_key hd.1 he he' hq
      refine ⟨fun hf => (by rw [up_self] at hf; cases hf), fun _ => ⟨v, by rw [tmps_put hlt, if_pos rfl], hp⟩⟩
    · have hs : e.2.1 ≠ e'.2.1 := fun hs => hq (by rw [nodup_key hd.2 he he' hs])
      rw [up_ne (fun z => hq z.symm), tmps_put hlt, if_neg hs]
      refine ⟨(h5 e' he').1, fun hb' => ?_⟩
      obtain ⟨v', hv', hp'⟩ := (h5 e' he').2 hb'
      exact ⟨v', hv', e'.2.2.st _ _ _ hp' hb⟩
theorem MI_start (w : World) (hw : Below w0.heap.size w0 w) : MI L a0 w0 (fun _ => false) a0 w := ⟨hw, rfl, rfl, fun _ _ => rfl, fun _ _ => ⟨fun _ => rfl, fun h => by cases h⟩⟩
theorem MI_have {b : Nat → Bool} {a : Act} {w : World} (h : MI L a0 w0 b a w) (hL : ∀ e ∈ L, O.contains e.1 = true) {i : Nat} (hon : ∀ j, (O.contains j && (B.getD i 0).testBit j) = true → b j = true) (hoff : ∀ d, (O.contains d && (B.getD d 0).testBit i) = true → b d = false) : Have L B a0 w0 i a w :=
  ⟨h.1, h.2.2.2.1, fun e he hbit => (h.2.2.2.2 e he).1 (hoff _ (by rw [hL e he, hbit]; rfl)), fun e he hbit => (h.2.2.2.2 e he).2 (hon _ (by rw [hL e he, hbit]; rfl))⟩
theorem Ends_of {w : World} {R : Act → Prop} : ∀ {L : Facts} {a a' : Act}, Ends w R L a → (L.map (·.2.1)).Nodup → (∀ e ∈ L, e.2.1 < a.tmps.size) → a'.defers = a.defers → a'.tmps.size = a.tmps.size → (∀ t, (L.all fun e => !(e.2.1 == t)) = true → a'.tmps[t]? = a.tmps[t]?) → (∀ e ∈ L, ∃ v, a'.tmps[e.2.1]? = some v ∧ e.2.2.p v w) → R a'
  | [], a, a', h, _, _, hd, hs, ht, _ => by
    have : a' = a := by
      cases a; cases a'
      simp only at hd ht
      congr
      exact Array.ext_getElem? (fun t => ht t rfl)
    rw [this]
    exact h
  | e :: r, a, a', h, hn, hin, hd, hs, ht, hf => by
    obtain ⟨v, hv, hp⟩ := hf e List.mem_cons_self
    rw [List.map_cons, List.nodup_cons] at hn
    have hlt := hin e List.mem_cons_self
    refine Ends_of (h v hp) hn.2 (fun e' he' => by show _ < (a.tmps.setIfInBounds _ _).size; rw [Array.size_setIfInBounds]; exact hin e' (List.mem_cons_of_mem _ he')) hd (by show _ = (a.tmps.setIfInBounds _ _).size; rw [Array.size_setIfInBounds]; exact hs) (fun t hall => ?_) (fun e' he' => hf e' (List.mem_cons_of_mem _ he'))
    rw [tmps_put hlt]
    by_cases hq : e.2.1 = t
    · subst hq
      rw [if_pos rfl]
      exact hv
    · rw [if_neg hq]
      exact ht t (by rw [List.all_cons, hall, Bool.and_true]; simpa using hq)
theorem does_wp {oi : Oper} {a : Act} {w : World} {t : Tmp} {K : Act → World → Prop} {R : Value → World → Prop} (hdst : oi.dst = some t) (hw : Region.wanted oi (yielded ops a.tmps) = true) (h : Does P oi a w R) (hK : ∀ v w', R v w' → K (a.put (some t) v) w') :
    if Region.wanted oi (yielded ops a.tmps) = true then Oper.wp P oi a w K Q else K (a.put oi.dst undef) w := by
  rw [if_pos hw]
  unfold Oper.wp
  rcases h with ⟨v, w', hr, hR⟩ | ⟨f, args, hr, hc⟩
  · rw [hr]
    show K (a.put oi.dst v) w'
    rw [hdst]
    exact hK _ _ hR
  · rw [hr]
    refine hc.mono ?_
    rintro e w' ⟨v, rfl, hR⟩
    show K (a.put oi.dst v) w'
    rw [hdst]
    exact hK _ _ hR
theorem mono_steps (hd : distinctB L = true) (hin : insideB L a0.tmps.size = true) (hL : ∀ e ∈ L, O.contains e.1 = true) {e : Nat × Tmp × VP} (he : e ∈ L) (hs : MStep P ops L B a0 w0 e) : StepAt P ops Q B O (MI L a0 w0) e.1 := by
  intro b a w h hbi hon hoff
  obtain ⟨oi, ho, hdst, h1⟩ := hs a w (MI_have h hL hon hoff)
  refine ⟨oi, ho, fun K hK => ?_⟩
  rcases h1 with ⟨hw, hdo⟩ | ⟨hw, hp⟩
  · exact does_wp hdst hw hdo (fun v w' hR => hK.out _ _ (MI_step hd hin he h hbi hR.1 hR.2))
  · rw [hw, if_neg (by simp), hdst]
    exact hK.out _ _ (MI_step hd hin he h hbi (Below.refl _ _) hp)
/-- THE REGION: all its operations are of this kind. -/
theorem mono_region {id n : Nat} (L : Facts) (hT : rtab .any ops = T) (hw : waitsOk T.2 B = true) (hm : P.follows .mixedOrders = true) (hn : ops.size = n)
    (hk : baseOk T.2 (List.range n) = true) (hl : (lof T.2.length (List.range n) (fun _ => false) == List.replicate n false) = true)
    (hd : distinctB L = true) (hin : insideB L a0.tmps.size = true) (hL : (L.map (·.1) == List.range n) = true)
    (hs : ∀ e ∈ L, MStep P ops L B a0 w0 e)
    (hend : ∀ w, Below w0.heap.size w0 w → Ends w (fun a => Q .normal a w) L a0) : (Code.region id ops true).wp P Q a0 w0 := by
  have hmem : ∀ e ∈ L, (List.range n).contains e.1 = true := fun e he => by
    rw [← beq_iff_eq.1 hL]
    simpa using List.mem_map_of_mem (f := (·.1)) he
  refine start_ (n := n) (S := fun _ => True) (ds := []) (Array.replicate n false) hm hn rfl trivial (fun _ => ?_)
  refine inv_ (List.range n) (MI L a0 w0) hT hw hk (by rw [Array.toList_replicate, hl]; simp) (MI_start _ (below_drew (Below.refl _ _))) (fun i hi => ?_) (fun b a w hall h => ?_)
  · have : i ∈ L.map (·.1) := by rw [beq_iff_eq.1 hL]; exact hi
    obtain ⟨e, he, rfl⟩ := List.mem_map.1 this
    exact mono_steps hd hin hmem he (hs e he)
  · obtain ⟨h1, h2, h3, h4, h5⟩ := h
    simp only [distinctB, Bool.and_eq_true, decide_eq_true_eq] at hd
    exact Ends_of (R := fun a => Q .normal a w) (hend w h1) hd.2 (fun e he => Nat.le_of_ble_eq_true (List.all_eq_true.1 hin e he)) h2 h3 h4 (fun e he => (h5 e he).2 (hall _ (hmem e he)))
/-- THE REGION, ITS LAST OPERATION OF ANY KIND (a store): all others come first. -/
theorem mono_sink {id n s : Nat} (L : Facts) (hT : rtab .any ops = T) (hw : waitsOk T.2 B = true) (hm : P.follows .mixedOrders = true) (hn : ops.size = n)
    (hk : baseOk T.2 (List.range n) = true) (hl : (lof T.2.length (List.range n) (fun _ => false) == List.replicate n false) = true)
    (hd : distinctB L = true) (hin : insideB L a0.tmps.size = true) (hL : (L.map (·.1) ++ [s] == List.range n && L.all fun e => (B.getD s 0).testBit e.1) = true)
    (hs : ∀ e ∈ L, MStep P ops L B a0 w0 e)
    (hend : ∀ w, Below w0.heap.size w0 w → Ends w (fun a => ∃ oi, ops[s]? = some oi ∧ ∀ K : Act → World → Prop, (∀ a' w', Q .normal a' w' → K a' w') → if Region.wanted oi (yielded ops a.tmps) = true then Oper.wp P oi a w K Q else K (a.put oi.dst undef) w) L a0) : (Code.region id ops true).wp P Q a0 w0 := by
  rw [Bool.and_eq_true] at hL
  obtain ⟨hL, hbits⟩ := hL
  have hmem : ∀ e ∈ L, (List.range n).contains e.1 = true := fun e he => by
    rw [← beq_iff_eq.1 hL]
    simp only [List.contains_eq_mem, List.mem_append, decide_eq_true_eq]
    exact .inl (List.mem_map_of_mem (f := (·.1)) he)
  have hsm : (List.range n).contains s = true := by
    rw [← beq_iff_eq.1 hL]
    simp
  refine start_ (n := n) (S := fun _ => True) (ds := []) (Array.replicate n false) hm hn rfl trivial (fun _ => ?_)
  refine inv_ (List.range n) (fun b a w => if b s = true then Q .normal a w else MI L a0 w0 b a w) hT hw hk (by rw [Array.toList_replicate, hl]; simp) (by rw [if_neg (by simp)]; exact MI_start _ (below_drew (Below.refl _ _))) (fun i hi => ?_) (fun b a w hall h => ?_)
  · have : i ∈ L.map (·.1) ++ [s] := by rw [beq_iff_eq.1 hL]; exact hi
    rcases List.mem_append.1 this with h | h
    · obtain ⟨e, he, rfl⟩ := List.mem_map.1 h
      intro b a w hI hbi hon hoff
      have hbs : b s = false := hoff s (by rw [hsm, List.all_eq_true.1 hbits e he]; rfl)
      have hne : s ≠ e.1 := by
        rintro rfl
        have hnd : (L.map (·.1) ++ [e.1]).Nodup := by rw [beq_iff_eq.1 hL]; exact List.nodup_range
        rw [List.nodup_append] at hnd
        exact hnd.2.2 _ (List.mem_map_of_mem (f := (·.1)) he) _ (List.mem_singleton.2 rfl) rfl
      simp only [hbs, Bool.false_eq_true, if_false] at hI
      obtain ⟨oi, ho, hq⟩ := mono_steps (Q := Q) (O := List.range n) hd hin hmem he (hs e he) b a w hI hbi hon hoff
      refine ⟨oi, ho, fun K hK => hq K (fun a' w' h' => hK.out a' w' ?_)⟩
      show if up b e.1 s = true then _ else _
      rw [up_ne hne, hbs, if_neg (by simp)]
      exact h'
    · obtain rfl := List.mem_singleton.1 h
      intro b a w hI hbi hon hoff
      simp only [hbi, Bool.false_eq_true, if_false] at hI
      obtain ⟨h1, h2, h3, h4, h5⟩ := hI
      have hd' := hd
      simp only [distinctB, Bool.and_eq_true, decide_eq_true_eq] at hd'
      obtain ⟨oi, ho, hq⟩ := Ends_of (hend w h1) hd'.2 (fun e he => Nat.le_of_ble_eq_true (List.all_eq_true.1 hin e he)) h2 h3 h4 (fun e he => (h5 e he).2 (hon _ (by rw [hmem e he, List.all_eq_true.1 hbits e he]; rfl)))
      exact ⟨oi, ho, fun K hK => hq K (fun a' w' hQ => hK.out a' w' (by show if up b i i = true then _ else _; rw [up_self, if_pos rfl]; exact hQ))⟩
  · have := hall s hsm
    simpa only [this, if_true] using h
end
theorem ms_nil {M : Nat × Tmp × VP → Prop} : ∀ e ∈ ([] : Facts), M e := fun _ h => by cases h
theorem ms_cons {M : Nat × Tmp × VP → Prop} {e : Nat × Tmp × VP} {r : Facts} (h : M e) (hs : ∀ x ∈ r, M x) : ∀ x ∈ e :: r, M x := fun x hx => by
  rcases List.mem_cons.1 hx with rfl | hx
  · exact h
  · exact hs x hx
/-- An operation without a guard that comes to a value by itself. -/
theorem ms_val {P : Program} {ops : Array Oper} {oi : Oper} {a : Act} {w : World} {t : Tmp} {p : VP} {i : Nat} (hi : ops[i]? = some oi) (hd : oi.dst = some t) (hw : Region.wanted oi (yielded ops a.tmps) = true) (v : Value) (w' : World) (hr : (execOp a.eval oi).run P w = .ok (.value v) w') (hb : Below w.heap.size w w') (hp : p.p v w') :
    ∃ oi, ops[i]? = some oi ∧ oi.dst = some t ∧ ((Region.wanted oi (yielded ops a.tmps) = true ∧ Does P oi a w fun v w' => Below w.heap.size w w' ∧ p.p v w') ∨ (Region.wanted oi (yielded ops a.tmps) = false ∧ p.p undef w)) :=
  ⟨oi, hi, hd, .inl ⟨hw, .inl ⟨v, w', hr, hb, hp⟩⟩⟩
theorem ms_off {P : Program} {ops : Array Oper} {oi : Oper} {a : Act} {w : World} {t : Tmp} {p : VP} {i : Nat} (hi : ops[i]? = some oi) (hd : oi.dst = some t) (hw : Region.wanted oi (yielded ops a.tmps) = false) (hp : p.p undef w) :
    ∃ oi, ops[i]? = some oi ∧ oi.dst = some t ∧ ((Region.wanted oi (yielded ops a.tmps) = true ∧ Does P oi a w fun v w' => Below w.heap.size w w' ∧ p.p v w') ∨ (Region.wanted oi (yielded ops a.tmps) = false ∧ p.p undef w)) :=
  ⟨oi, hi, hd, .inr ⟨hw, hp⟩⟩
theorem ms_call {P : Program} {ops : Array Oper} {oi : Oper} {a : Act} {w : World} {t : Tmp} {p : VP} {i : Nat} (hi : ops[i]? = some oi) (hd : oi.dst = some t) (hw : Region.wanted oi (yielded ops a.tmps) = true) {f : FuncId} {fn : Func} {xs : Array Operand} {ts : Array TypeId} (hf : P.funcs[f]? = some fn) (hname : (fn.name == "runtime.NumGoroutine") = false) (hbd : fn.body.isSome = true) (args : Array Value)
    (hop : oi.op = .call { callee := .value (.func f), args := xs, argTypes := ts }) (hargs : xs.map a.eval = args) (h : Calls P f args w fun e w' => ∃ v, e = .returned v ∧ Below w.heap.size w w' ∧ p.p v w') :
    ∃ oi, ops[i]? = some oi ∧ oi.dst = some t ∧ ((Region.wanted oi (yielded ops a.tmps) = true ∧ Does P oi a w fun v w' => Below w.heap.size w w' ∧ p.p v w') ∨ (Region.wanted oi (yielded ops a.tmps) = false ∧ p.p undef w)) :=
  ⟨oi, hi, hd, .inl ⟨hw, .inr ⟨f, args, by
    have he := enters_ hf hname hbd args w
    unfold execOp
    simp [hop, resolve, Deferred.ofValue, invoke, Act.eval, hargs, he], h⟩⟩⟩
/-- A call of a function value that has captured something. -/
theorem ms_callv {P : Program} {ops : Array Oper} {oi : Oper} {a : Act} {w : World} {t : Tmp} {p : VP} {i : Nat} (hi : ops[i]? = some oi) (hd : oi.dst = some t) (hw : Region.wanted oi (yielded ops a.tmps) = true) {f : FuncId} {fn : Func} {xs : Array Operand} {ts : Array TypeId} (hf : P.funcs[f]? = some fn) (hname : (fn.name == "runtime.NumGoroutine") = false) (hbd : fn.body.isSome = true) (x : Operand) (captured args : Array Value)
    (hop : oi.op = .call { callee := .value x, args := xs, argTypes := ts }) (hx : a.eval x = .func (.func f) #[] captured) (hargs : xs.map a.eval ++ captured = args) (h : Calls P f args w fun e w' => ∃ v, e = .returned v ∧ Below w.heap.size w w' ∧ p.p v w') :
    ∃ oi, ops[i]? = some oi ∧ oi.dst = some t ∧ ((Region.wanted oi (yielded ops a.tmps) = true ∧ Does P oi a w fun v w' => Below w.heap.size w w' ∧ p.p v w') ∨ (Region.wanted oi (yielded ops a.tmps) = false ∧ p.p undef w)) :=
  ⟨oi, hi, hd, .inl ⟨hw, .inr ⟨f, args, by
    have he := enters_ hf hname hbd args w
    unfold execOp
    simp [hop, resolve, hx, Deferred.ofValue, invoke, hargs, he], h⟩⟩⟩
end Go.Proofs.Ytjpkjakdhbnehaa.Q
end
section
/- Structs and arrays in blocks that are known whole: loads, stores, new ones, results. -/
namespace Go.Proofs.Ytjpkjakdhbnehaa.Q
open Go.RowKit Go.Proofs.YtjpkjakdhbnehaaW.PrintWords Go.Proofs.YtjpkjakdhbnehaaW.PrintLast Go.Proofs.YtjpkjakdhbnehaaW.PrintMore
set_option linter.unusedVariables false
set_option linter.unusedSimpArgs false
section
variable {P : Program}
/-- A struct or array is loaded, wherever its cells stand. -/
theorem run_load_agg (w : World) (ad : Addr) (ty : TypeId) (cs : List Value) (d : TypeDesc) (hc : ∀ j v, cs[j]? = some v → w.cell? (ad.add j) = some v)
    (hu : P.underlying ty = some d) (hd : (match d with | .struct _ | .array _ _ => true | _ => false) = true) (hi : (P.info? ty).map (·.size) = some cs.length) :
    (loadVar ty ad).run P w = .ok (.agg cs.toArray) w := by
  have hl := run_loadCells_list (P := P) w ad cs hc
  cases hq : P.info? ty with
  | none => simp [hq] at hi
  | some i =>
    have hs : i.size = cs.length := by simpa [hq] using hi
    have hagg : (isAgg ty).run P w = .ok true w := by
      unfold isAgg
      rw [Sem.run_bind, run_underlying hu w]
      cases d <;> simp_all
    simp [loadVar, Sem.run_bind, hagg, sizeOf, typeInfo, hq, hs, hl]
theorem ex_load_agg {o : Oper} {a : Act} (w : World) (ty : TypeId) (x : Operand) (ho : o.op = .load ty x) (ad : Addr) (hx : a.eval x = .pointer (some ad)) (cs : List Value) (d : TypeDesc) (hc : ∀ j v, cs[j]? = some v → w.cell? (ad.add j) = some v)
    (hu : P.underlying ty = some d) (hd : (match d with | .struct _ | .array _ _ => true | _ => false) = true) (hi : (P.info? ty).map (·.size) = some cs.length) :
    (execOp a.eval o).run P w = .ok (.value (.agg cs.toArray)) w := by
  unfold execOp
  simp only [ho, hx, Instr.loadAt, Instr.sureAddr, Sem.run_bind, Sem.run_pure, Result.andThen_ok, run_load_agg w ad ty cs d hc hu hd hi]
theorem ex_load_blk {o : Oper} {a : Act} (w : World) (ty : TypeId) (x : Operand) (ho : o.op = .load ty x) (g : Nat) (hx : a.eval x = .pointer (some ⟨g, 0, none⟩)) (cs : Array Value) (t : TypeId) (d : TypeDesc) (hg : w.heap[g]? = some (.cells cs t (0, 0)))
    (hu : P.underlying ty = some d) (hd : (match d with | .struct _ | .array _ _ => true | _ => false) = true) (hi : (P.info? ty).map (·.size) = some cs.size) :
    (execOp a.eval o).run P w = .ok (.value (.agg cs)) w := by
  have h := ex_load_agg (P := P) (o := o) (a := a) w ty x ho ⟨g, 0, none⟩ hx cs.toList d (fun j v hv => by rw [add_plain, cell_of_row w g j cs t _ hg]; simpa using hv) hu hd (by simpa using hi)
  simpa using h
theorem ex_load_cell {o : Oper} {a : Act} (w : World) (ty : TypeId) (x : Operand) (ho : o.op = .load ty x) (ad : Addr) (hx : a.eval x = .pointer (some ad)) (v : Value) (hv : w.cell? ad = some v) (d : TypeDesc)
    (hu : P.underlying ty = some d) (hd : (match d with | .struct _ | .array _ _ => true | _ => false) = false) : (execOp a.eval o).run P w = .ok (.value v) w := by
  have hagg : (isAgg ty).run P w = .ok false w := by
    unfold isAgg
    rw [Sem.run_bind, run_underlying hu w]
    cases d <;> simp_all
  unfold execOp
  simp [ho, hx, Instr.loadAt, Instr.sureAddr, loadVar, Sem.run_bind, hagg, hv]
/-- A struct or array (or one cell) is stored into a block that is known whole. -/
theorem ex_store_agg {o : Oper} {a : Act} (w : World) (ty : TypeId) (x y : Operand) (ho : o.op = .store ty x y) (g off : Nat) (hx : a.eval x = .pointer (some ⟨g, off, none⟩)) (cur : Array Value) (t : TypeId) (hg : w.heap[g]? = some (.cells cur t (0, 0)))
    (v : Value) (hy : a.eval y = v) (hle : off + v.cells.size ≤ cur.size) (h1 : ∀ u ∈ v.cells.toList, u.oneCell' = true) (hi : (P.info? ty).map (·.size) = some v.cells.size) :
    ∃ w', (execOp a.eval o).run P w = .ok .skip w' ∧ w'.heap[g]? = some (.cells (cur.toList.take off ++ v.cells.toList ++ cur.toList.drop (off + v.cells.size)).toArray t (0, 0)) ∧ w.grownBy w' (some g) ∧ w'.heap.size = w.heap.size := by
  have hst := run_storeCells_at P g off t v.cells.toList 0 cur w hg (by simpa using hle) h1
  have hrun : (storeVar ty ⟨g, off, none⟩ v).run P w = .ok () (w.setRow g (cur.toList.take (off + 0) ++ v.cells.toList ++ cur.toList.drop (off + 0 + v.cells.toList.length)).toArray) := by
    cases hq : P.info? ty with
    | none => simp [hq] at hi
    | some i =>
      have hs : v.cells.size = i.size := by simp [hq] at hi; omega
      simp only [Nat.add_zero] at hst ⊢
      simp [storeVar, sizeOf, typeInfo, hq, ← hs]
      simpa using hst
  refine ⟨_, ?_, setRow_heap w g cur _ t _ hg, ⟨rfl, rfl, rfl, by simp [World.setRow], fun q hq hne => setRow_other w g q _ (fun e => hne (by rw [e]))⟩, by simp⟩
  unfold execOp
  simp only [ho, hx, hy, Instr.storeAt, Instr.sureAddr, Sem.run_bind, Sem.run_pure, Result.andThen_ok, hrun]
  simp [Result.andThen]
end
section
variable {P : Program} {ops : Array Oper} {rest : List Oper} {o : Oper} {a : Act} {Q : Exit → Act → World → Prop}
theorem wl_load_agg {W : World} (hgd : o.guard = none) (ty : TypeId) (x : Operand) (ho : o.op = .load ty x) (ad : Addr) (hx : a.eval x = .pointer (some ad)) (cs : List Value) (d : TypeDesc) (hc : ∀ j v, cs[j]? = some v → W.cell? (ad.add j) = some v)
    (hu : P.underlying ty = some d) (hd : (match d with | .struct _ | .array _ _ => true | _ => false) = true) (hi : (P.info? ty).map (·.size) = some cs.length)
    (h : wpList P ops Q rest (a.put o.dst (.agg cs.toArray)) W) : wpList P ops Q (o :: rest) a W :=
  Kd.event_run hgd (ex_load_agg W ty x ho ad hx cs d hc hu hd hi) h
theorem wl_load_blk {W : World} (hgd : o.guard = none) (ty : TypeId) (x : Operand) (ho : o.op = .load ty x) (g : Nat) (hx : a.eval x = .pointer (some ⟨g, 0, none⟩)) (cs : Array Value) (t : TypeId) (d : TypeDesc) (hg : W.heap[g]? = some (.cells cs t (0, 0)))
    (hu : P.underlying ty = some d) (hd : (match d with | .struct _ | .array _ _ => true | _ => false) = true) (hi : (P.info? ty).map (·.size) = some cs.size)
    (h : wpList P ops Q rest (a.put o.dst (.agg cs)) W) : wpList P ops Q (o :: rest) a W :=
  Kd.event_run hgd (ex_load_blk W ty x ho g hx cs t d hg hu hd hi) h
theorem wl_store_agg {W : World} (hgd : o.guard = none) (hdst : o.dst = none) (ty : TypeId) (x y : Operand) (ho : o.op = .store ty x y) (g off : Nat) (hx : a.eval x = .pointer (some ⟨g, off, none⟩)) (cur : Array Value) (t : TypeId) (hg : W.heap[g]? = some (.cells cur t (0, 0)))
    (v : Value) (hy : a.eval y = v) (hle : off + v.cells.size ≤ cur.size) (h1 : ∀ u ∈ v.cells.toList, u.oneCell' = true) (hi : (P.info? ty).map (·.size) = some v.cells.size)
    (h : ∀ w1, w1.heap[g]? = some (.cells (cur.toList.take off ++ v.cells.toList ++ cur.toList.drop (off + v.cells.size)).toArray t (0, 0)) → W.grownBy w1 (some g) → w1.heap.size = W.heap.size → wpList P ops Q rest a w1) : wpList P ops Q (o :: rest) a W := by
  obtain ⟨w1, hr, h2, h3, h4⟩ := ex_store_agg (P := P) (o := o) (a := a) W ty x y ho g off hx cur t hg v hy hle h1 hi
  refine wpList_plain hgd fun K hK => ?_
  unfold Oper.wp
  rw [hr]
  show K (a.put o.dst undef) w1
  rw [hdst]
  exact hK _ _ (h w1 h2 h3 h4)
theorem ex_store_cell {o : Oper} {a : Act} (w : World) (ty : TypeId) (x y : Operand) (ho : o.op = .store ty x y) (g off : Nat) (hx : a.eval x = .pointer (some ⟨g, off, none⟩)) (cur : Array Value) (t : TypeId) (hg : w.heap[g]? = some (.cells cur t (0, 0)))
    (v : Value) (hy : a.eval y = v) (hv : v.cells = #[v]) (hle : off < cur.size) (h1 : v.oneCell' = true) (hi : (P.info? ty).map (·.size) = some 1) :
    ∃ w', (execOp a.eval o).run P w = .ok .skip w' ∧ w'.heap[g]? = some (.cells (cur.setIfInBounds off v) t (0, 0)) ∧ w.grownBy w' (some g) ∧ w'.heap.size = w.heap.size := by
  obtain ⟨w', h2, h3, h4, h5⟩ := ex_store_agg (P := P) (o := o) (a := a) w ty x y ho g off hx cur t hg v hy (by rw [hv]; exact hle) (by rw [hv]; intro u hu; have : u = v := by simpa using hu
                                                                                                                                        rw [this]; exact h1) (by rw [hv]; exact hi)
  refine ⟨w', h2, ?_, h4, h5⟩
  rw [h3, hv]
  congr 2
  apply Array.toList_inj.1
  rw [Array.toList_setIfInBounds, List.set_eq_take_append_cons_drop, if_pos (by rw [Array.length_toList]; exact hle)]
  simp
theorem wl_store_cell {W : World} (hgd : o.guard = none) (hdst : o.dst = none) (ty : TypeId) (x y : Operand) (ho : o.op = .store ty x y) (g off : Nat) (hx : a.eval x = .pointer (some ⟨g, off, none⟩)) (cur : Array Value) (t : TypeId) (hg : W.heap[g]? = some (.cells cur t (0, 0)))
    (v : Value) (hy : a.eval y = v) (hv : v.cells = #[v]) (hle : off < cur.size) (h1 : v.oneCell' = true) (hi : (P.info? ty).map (·.size) = some 1)
    (h : ∀ w1, w1.heap[g]? = some (.cells (cur.setIfInBounds off v) t (0, 0)) → W.grownBy w1 (some g) → w1.heap.size = W.heap.size → wpList P ops Q rest a w1) : wpList P ops Q (o :: rest) a W := by
  obtain ⟨w1, hr, h2, h3, h4⟩ := ex_store_cell (P := P) (o := o) (a := a) W ty x y ho g off hx cur t hg v hy hv hle h1 hi
  refine wpList_plain hgd fun K hK => ?_
  unfold Oper.wp
  rw [hr]
  show K (a.put o.dst undef) w1
  rw [hdst]
  exact hK _ _ (h w1 h2 h3 h4)
theorem ex_store_all {o : Oper} {a : Act} (w : World) (ty : TypeId) (x y : Operand) (ho : o.op = .store ty x y) (g : Nat) (hx : a.eval x = .pointer (some ⟨g, 0, none⟩)) (cur : Array Value) (t : TypeId) (hg : w.heap[g]? = some (.cells cur t (0, 0)))
    (v : Value) (hy : a.eval y = v) (hle : v.cells.size = cur.size) (h1 : ∀ u ∈ v.cells.toList, u.oneCell' = true) (hi : (P.info? ty).map (·.size) = some v.cells.size) :
    ∃ w', (execOp a.eval o).run P w = .ok .skip w' ∧ w'.heap[g]? = some (.cells v.cells t (0, 0)) ∧ w.grownBy w' (some g) ∧ w'.heap.size = w.heap.size := by
  obtain ⟨w', h2, h3, h4, h5⟩ := ex_store_agg (P := P) (o := o) (a := a) w ty x y ho g 0 hx cur t hg v hy (by omega) h1 hi
  refine ⟨w', h2, ?_, h4, h5⟩
  rw [h3, List.take_zero, List.nil_append, Nat.zero_add, List.drop_of_length_le (by rw [Array.length_toList]; omega), List.append_nil, Array.toArray_toList]
theorem wl_store_all {W : World} (hgd : o.guard = none) (hdst : o.dst = none) (ty : TypeId) (x y : Operand) (ho : o.op = .store ty x y) (g : Nat) (hx : a.eval x = .pointer (some ⟨g, 0, none⟩)) (cur : Array Value) (t : TypeId) (hg : W.heap[g]? = some (.cells cur t (0, 0)))
    (v : Value) (hy : a.eval y = v) (hle : v.cells.size = cur.size) (h1 : ∀ u ∈ v.cells.toList, u.oneCell' = true) (hi : (P.info? ty).map (·.size) = some v.cells.size)
    (h : ∀ w1, w1.heap[g]? = some (.cells v.cells t (0, 0)) → W.grownBy w1 (some g) → w1.heap.size = W.heap.size → wpList P ops Q rest a w1) : wpList P ops Q (o :: rest) a W := by
  obtain ⟨w1, hr, h2, h3, h4⟩ := ex_store_all (P := P) (o := o) (a := a) W ty x y ho g hx cur t hg v hy hle h1 hi
  refine wpList_plain hgd fun K hK => ?_
  unfold Oper.wp
  rw [hr]
  show K (a.put o.dst undef) w1
  rw [hdst]
  exact hK _ _ (h w1 h2 h3 h4)
theorem sink_store_all {W : World} {K : Act → World → Prop} (hgd : o.guard = none) (hdst : o.dst = none) (ty : TypeId) (x y : Operand) (ho : o.op = .store ty x y) (g : Nat) (hx : a.eval x = .pointer (some ⟨g, 0, none⟩)) (cur : Array Value) (t : TypeId) (hg : W.heap[g]? = some (.cells cur t (0, 0)))
    (v : Value) (hy : a.eval y = v) (hle : v.cells.size = cur.size) (h1 : ∀ u ∈ v.cells.toList, u.oneCell' = true) (hi : (P.info? ty).map (·.size) = some v.cells.size)
    (h : ∀ w1, w1.heap[g]? = some (.cells v.cells t (0, 0)) → W.grownBy w1 (some g) → w1.heap.size = W.heap.size → K a w1) : if Region.wanted o (yielded ops a.tmps) = true then Oper.wp P o a W K Q else K (a.put o.dst undef) W := by
  obtain ⟨w1, hr, h2, h3, h4⟩ := ex_store_all (P := P) (o := o) (a := a) W ty x y ho g hx cur t hg v hy hle h1 hi
  rw [if_pos (by simp [Region.wanted, hgd])]
  unfold Oper.wp
  rw [hr]
  show K (a.put o.dst undef) w1
  rw [hdst]
  exact h w1 h2 h3 h4
/-- What a literal of a struct or array fills in. -/
theorem fold_set (vs : List Value) : ∀ (k off : Nat) (cs : Array Value), off + k + vs.length ≤ cs.size →
    ((vs.zipIdx k).foldl (fun cs (x : Value × Nat) => cs.setIfInBounds (off + x.2) x.1) cs) = (cs.toList.take (off + k) ++ vs ++ cs.toList.drop (off + k + vs.length)).toArray := by
  induction vs with
  | nil => intro k off cs h; simp
  | cons v vs ih =>
    intro k off cs h
    rw [List.length_cons] at h
    rw [List.zipIdx_cons, List.foldl_cons, ih (k + 1) off _ (by rw [Array.size_setIfInBounds]; omega)]
    congr 1
    have hi : off + k < cs.toList.length := by rw [Array.length_toList]; omega
    rw [Array.toList_setIfInBounds, ← Nat.add_assoc, List.take_succ_eq_append_getElem (by rw [List.length_set]; exact hi), List.getElem_set_self, List.take_set_of_le (by omega), List.drop_set_of_lt (by omega), List.length_cons]
    simp [Nat.add_assoc, Nat.add_comm 1]
theorem fill_cons (place : Nat → Option (Nat × Nat)) (cells : Array Value) (i off size : Nat) (v : Value) (r : List (Nat × Value)) (hp : place i = some (off, size)) (hs : v.cells.size = size) (hle : off + size ≤ cells.size) :
    Instr.fill place cells ((i, v) :: r) = Instr.fill place (cells.toList.take off ++ v.cells.toList ++ cells.toList.drop (off + size)).toArray r := by
  rw [Instr.fill, hp]
  simp only []
  rw [if_neg (by rw [hs]; simp; omega)]
  have := fold_set v.cells.toList 0 off cells (by rw [Array.length_toList]; omega)
  rw [Nat.add_zero, Array.length_toList, hs] at this
  rw [← this, ← Array.foldl_toList, Array.toList_zipIdx]
/-- A new variable of a type whose value of noughts is known. -/
theorem ex_alloc {o : Oper} {a : Act} (W : World) (ty : TypeId) (ho : o.op = .alloc ty) (z : Value) (hz : (P.info? ty).map (·.zero) = some (some z)) :
    (execOp a.eval o).run P W = .ok (.value (.pointer (some ⟨W.heap.size, 0, none⟩))) (W.alloc (.cells z.cells ty (0, 0))) := by
  cases hq : P.info? ty with
  | none => simp [hq] at hz
  | some i =>
    have hz' : i.zero = some z := by simpa [hq] using hz
    unfold execOp
    simp [ho, Instr.alloc, zeroValue, typeInfo, hq, hz', newVar, newRow, newObj, Result.andThen]
    rfl
theorem wl_alloc {W : World} (hgd : o.guard = none) (ty : TypeId) (ho : o.op = .alloc ty) (z : Value) (hz : (P.info? ty).map (·.zero) = some (some z))
    (h : ∀ g, g = W.heap.size → ∀ w1, w1.heap[g]? = some (.cells z.cells ty (0, 0)) → Below W.heap.size W w1 → w1.heap.size = W.heap.size + 1 → wpList P ops Q rest (a.put o.dst (.pointer (some ⟨g, 0, none⟩))) w1) : wpList P ops Q (o :: rest) a W :=
  Kd.event_run hgd (ex_alloc W ty ho z hz) (h _ rfl _ (blk_new W _) (below_alloc (Below.refl _ _) _) (by simp))
theorem ex_box {o : Oper} {a : Act} (W : World) (ty : TypeId) (x : Operand) (ho : o.op = .box ty x) (v : Value) (hx : a.eval x = v) :
    (execOp a.eval o).run P W = .ok (.value (.pointer (some ⟨W.heap.size, 0, none⟩))) (W.alloc (.cells v.cells ty (0, 0))) := by
  unfold execOp
  simp [ho, hx, Instr.box, newVar, newRow, newObj, Result.andThen]
  rfl
theorem wl_box {W : World} (hgd : o.guard = none) (ty : TypeId) (x : Operand) (ho : o.op = .box ty x) (v : Value) (hx : a.eval x = v)
    (h : ∀ g, g = W.heap.size → ∀ w1, w1.heap[g]? = some (.cells v.cells ty (0, 0)) → Below W.heap.size W w1 → w1.heap.size = W.heap.size + 1 → wpList P ops Q rest (a.put o.dst (.pointer (some ⟨g, 0, none⟩))) w1) : wpList P ops Q (o :: rest) a W :=
  Kd.event_run hgd (ex_box W ty x ho v hx) (h _ rfl _ (blk_new W _) (below_alloc (Below.refl _ _) _) (by simp))
/-- '[]T{..}' of numbers: a row of one's own. -/
theorem lit_own (k : IntKind) (W : World) (e : TypeId) (xs : List Int) (hm : xs.length ≤ maxLen) : (Kd.int k).R e (W.alloc (.cells (encs (Value.int k) xs).toArray e)) W.heap.size (fun _ => True) (.slice (some ⟨W.heap.size, 0, none⟩) xs.length xs.length) xs :=
  Kd.R_of_own (enc := Value.int k) (h1 := fun _ => rfl) ⟨by rw [encs_length]; omega, .inr ⟨W.heap.size, xs.length, (encs (Value.int k) xs).toArray, rfl, Nat.le_refl _, by simpa using heap_alloc_new W _, Nat.le_refl _, hm, by simp [encs_length], by simp only [Nat.mul_one]; exact List.take_of_length_le (by rw [encs_length]; exact Nat.le_refl _)⟩⟩ (fun _ _ => trivial)
theorem wl_lit {W : World} (hgd : o.guard = none) (k : IntKind) (e : TypeId) (xs : List Int) (hm : xs.length ≤ maxLen)
    (hr : (execOp a.eval o).run P W = .ok (.value (.slice (some ⟨W.heap.size, 0, none⟩) xs.length xs.length)) (W.alloc (.cells (encs (Value.int k) xs).toArray e)))
    (h : ∀ v w1, (Kd.int k).R e w1 W.heap.size (fun _ => True) v xs → Below W.heap.size W w1 → wpList P ops Q rest (a.put o.dst v) w1) : wpList P ops Q (o :: rest) a W :=
  Kd.event_run hgd hr (h _ _ (lit_own k W e xs hm) (below_alloc (Below.refl _ _) _))
/-- A value that a whole step comes to. -/
theorem wl_val {W : World} (hgd : o.guard = none) (v : Value) (hr : (execOp a.eval o).run P W = .ok (.value v) W) (h : wpList P ops Q rest (a.put o.dst v) W) : wpList P ops Q (o :: rest) a W := Kd.event_run hgd hr h
theorem gate_op {W : World} {N : Op} (_hN : o.op = N) (h : wpList P ops Q (o :: rest) a W) : wpList P ops Q (o :: rest) a W := h
end
section
variable {P : Program}
/-- Results: a struct in a block, and a number. -/
theorem results_cell2 {fn : Func} {p u : Tmp} {ty : TypeId} (h : fn.results = #[.cell p ty, .tmp u]) (tmps : Array Value) (w : World) (g : Nat) (t : TypeId) (cs : Array Value) (d : TypeDesc)
    (hp : tmps.getD p undef = .pointer (some ⟨g, 0, none⟩)) (hg : w.heap[g]? = some (.cells cs t (0, 0)))
    (hu : P.underlying ty = some d) (hd : (match d with | .struct _ | .array _ _ => true | _ => false) = true) (hi : (P.info? ty).map (·.size) = some cs.size) :
    (results fn tmps).run P w = .ok (.tuple #[.agg cs, tmps.getD u undef]) w := by
  rw [results_cell_tmp h tmps P w, hp]
  simp [asAddr, run_loadVar_row w g t ty cs (0, 0) d hg hu hd hi, Result.andThen]
theorem grown_blk {w w1 : World} {row : Option Nat} (h : w.grownBy w1 row) {g : Nat} {ob : Obj} (hg : w.heap[g]? = some ob) (hne : some g ≠ row) : w1.heap[g]? = some ob := (h.block g (Array.getElem?_eq_some_iff.1 hg).1 hne).trans hg
theorem grown_below {w0 w w1 : World} {B g : Nat} (hb : Below B w0 w) (h : w.grownBy w1 (some g)) (hB : B ≤ w.heap.size) (hg : B ≤ g) : Below B w0 w1 := hb.grown h hB (fun k hk => by injection hk with hk; omega)
end
end Go.Proofs.Ytjpkjakdhbnehaa.Q
end
section
/- '==' of arrays of numbers; strings out of rows of bytes. -/
namespace Go.Proofs.Ytjpkjakdhbnehaa.Q
open Go.RowKit Go.Proofs.YtjpkjakdhbnehaaW.PrintWords Go.Proofs.YtjpkjakdhbnehaaW.PrintLast Go.Proofs.YtjpkjakdhbnehaaW.PrintMore
set_option linter.unusedVariables false
set_option linter.unusedSimpArgs false
section
variable {P : Program}
theorem encs_at (k : IntKind) (xs : List Int) (i : Nat) (hi : i < xs.length) : (encs (Value.int k) xs).toArray[i]? = some (.int k (xs.getD i 0)) := by
  rw [List.getElem?_toArray]
  exact encs_get (enc := Value.int k) (d := (0 : Int)) xs i hi
theorem run_equalIn_ints (d n : Nat) (t e : TypeId) (k : IntKind) (ht : P.underlying t = some (.array n e)) (he : P.underlying e = some (.int k)) (hs : (P.info? e).map (·.size) = some 1) (xs ys : List Int) (hx : xs.length = n) (hy : ys.length = n) (w : World) :
    (Op.equalIn (d + 2) t (.agg (encs (Value.int k) xs).toArray) (.agg (encs (Value.int k) ys).toArray)).run P w = .ok (decide (xs = ys)) w := by
  obtain ⟨i0, hi0, hs0⟩ := Option.map_eq_some_iff.1 hs
  have hpart : ∀ (l : List Int) (i : Nat), i < l.length → (part e (encs (Value.int k) l).toArray i).run P w = .ok (.int k (l.getD i 0)) w := by
    intro l i hi
    have := encs_at k l i hi
    simp [part, isAgg, Sem.run_bind, run_underlying he, this]
  rw [Op.equalIn]
  simp only [Sem.run_bind, run_underlying ht, Result.andThen_ok, sizeOf, typeInfo, run_program, hi0, Sem.run_pure, hs0, Std.Legacy.Range.forIn_eq_forIn_range', Std.Legacy.Range.size, Nat.sub_zero, Nat.add_one_sub_one, Nat.div_one, Nat.mul_one]
  have main : ∀ (m i : Nat), i + m = n → xs.take i = ys.take i →
      (((forIn (List.range' i m 1) ((none, ()) : Option Bool × Unit) (fun i (r : Option Bool × Unit) => do
        let a ← part e (encs (Value.int k) xs).toArray i
        let b ← part e (encs (Value.int k) ys).toArray i
        let q ← Op.equalIn (d + 1) e a b
        if (!q) = true then pure (ForInStep.done (some false, ())) else pure (ForInStep.yield (none, ()))) : Sem (Option Bool × Unit)).run P w).andThen fun r w' => (match r.fst with | some a => (pure a : Sem Bool) | none => pure true).run P w') = .ok (decide (xs = ys)) w := by
    intro m
    induction m with
    | zero =>
      intro i hi ht
      have : xs = ys := by rw [← List.take_of_length_le (show xs.length ≤ i by omega), ht, List.take_of_length_le (by omega)]
      simp [this]
    | succ m ih =>
      intro i hi ht
      have hix : i < xs.length := by omega
      have hiy : i < ys.length := by omega
      rw [List.range'_succ, List.forIn_cons]
      simp only [Sem.run_bind, hpart xs i hix, hpart ys i hiy, run_equalIn_int w d e k k _ _ he, Result.andThen_ok]
      by_cases hq : xs.getD i 0 = ys.getD i 0
      · have hb : (xs.getD i 0 == ys.getD i 0) = true := by simpa using hq
        rw [hb]
        have h2 := ih (i + 1) (by omega) (by
          rw [List.take_succ_eq_append_getElem hix, List.take_succ_eq_append_getElem hiy, ht]
          rw [List.getD_eq_getElem?_getD, List.getD_eq_getElem?_getD, List.getElem?_eq_getElem hix, List.getElem?_eq_getElem hiy] at hq
          simp only [Option.getD_some] at hq
          rw [hq])
        simpa using h2
      · have hb : (xs.getD i 0 == ys.getD i 0) = false := by simpa using hq
        have hne : xs ≠ ys := fun h => hq (by rw [h])
        rw [hb]
        simp [hne]
  have h2 := main n 0 (by omega) rfl
  simp at h2 ⊢
  refine Eq.trans ?_ h2
  congr 1
  funext r w'
  rcases r with ⟨_ | b, _⟩ <;> rfl
/-- 'string(row)'. -/
theorem fold_push : ∀ (ns : List Int) (s : ByteArray), ns.foldl (fun r n => r.push (UInt8.ofNat n.toNat)) s = ⟨s.data ++ (ns.map fun n => UInt8.ofNat n.toNat).toArray⟩
  | [], s => by simp
  | n :: ns, s => by
    rw [List.foldl_cons, fold_push ns]
    simp [ByteArray.push]
theorem run_string_row (src dst e : TypeId) (hs : P.underlying src = some (.slice e)) (he : P.underlying e = some (.int .u8)) (hd : P.underlying dst = some .string) (w : World) (A : Option Addr) (c : Nat) (xs : List Int) (h : Kd.C (Kd.int .u8) w A xs.length xs) :
    (convert src dst (.slice A xs.length c)).run P w = .ok (.string (strOfNums xs)) w := by
  rw [run_convert_bytes_string w src dst e A _ c hs he hd]
  have hr := Kd.reads_of_C (enc := Value.int .u8) (d := (0 : Int)) (h1 := fun _ => rfl) h
  cases A with
  | none =>
    have h0 : xs = [] := by
      rcases Nat.eq_zero_or_pos xs.length with h0 | h0
      · exact List.eq_nil_of_length_eq_zero h0
      · obtain ⟨ad, h1, _⟩ := hr.2.2 h0
        cases h1
    subst h0
    rfl
  | some ad =>
    have hl : (loadCells ad xs.length).run P w = .ok (xs.map (Value.int .u8)).toArray w := by
      have := run_loadCells_list (P := P) w ad (xs.map (Value.int .u8)) (fun j v hv => by
        have hj : j < xs.length := by have := (List.getElem?_eq_some_iff.1 hv).1; simpa using this
        obtain ⟨ad', h1, h2⟩ := hr.2.2 (by omega)
        injection h1 with h1
        subst h1
        rw [h2 j hj, ← hv, List.getElem?_map, List.getElem?_eq_getElem hj, List.getD_eq_getElem?_getD, List.getElem?_eq_getElem hj]
        rfl)
      simpa using this
    rw [run_bytesToString w ad _ c xs hl, fold_push]
    simp [strOfNums, ByteArray.empty, ByteArray.emptyWithCapacity]
    try rfl
theorem ex_string_row {o : Oper} {a : Act} (w : World) (src dst e : TypeId) (x : Operand) (ho : o.op = .convert src dst x) (hs : P.underlying src = some (.slice e)) (he : P.underlying e = some (.int .u8)) (hd : P.underlying dst = some .string) (A : Option Addr) (c : Nat) (xs : List Int) (hx : a.eval x = .slice A xs.length c) (h : Kd.C (Kd.int .u8) w A xs.length xs) :
    (execOp a.eval o).run P w = .ok (.value (.string (strOfNums xs))) w := by
  unfold execOp
  simp only [ho, hx, Sem.run_bind, run_string_row src dst e hs he hd w A c xs h, Result.andThen_ok, Sem.run_pure]
theorem seg_C {w : World} {ad : Addr} {n : Nat} {l : List Int} (h : Kd.C (Kd.int .u8) w (some ad) n l) (lo hi : Nat) (h1 : lo ≤ hi) (h2 : hi ≤ n) : Kd.C (Kd.int .u8) w (some (ad.add lo)) (hi - lo) ((l.take hi).drop lo) := by
  have hr := Kd.reads_of_C (enc := Value.int .u8) (d := (0 : Int)) (h1 := fun _ => rfl) h
  have hn : l.length = n := hr.1
  refine Kd.C_of_reads (enc := Value.int .u8) (d := (0 : Int)) (h1 := fun _ => rfl) ⟨by rw [List.length_drop, List.length_take]; omega, by have := hr.2.1; omega, fun h0 => ⟨_, rfl, fun j hj => ?_⟩⟩
  obtain ⟨ad', e1, e2⟩ := hr.2.2 (by omega)
  injection e1 with e1
  subst e1
  have h3 : (ad.add lo).add j = ad.add (lo + j) := by
    unfold Addr.add
    by_cases ha : lo = 0 <;> by_cases hb : j = 0 <;> simp [ha, hb, Nat.add_assoc]
  rw [h3, e2 (lo + j) (by omega)]
  simp [List.getD_eq_getElem?_getD, List.getElem?_drop, List.getElem?_take_of_lt (show lo + j < hi by omega)]
theorem ex_binop {o : Oper} {a : Act} (w : World) (op : BinOp) (t yt : TypeId) (x y : Operand) (ho : o.op = .binOp op t x y yt) (X Y : Value) (hx : a.eval x = X) (hy : a.eval y = Y) (hg : (eqGuard op t x y X Y).run P w = .ok () w) (v : Value) (hr : (binOp op t X Y).run P w = .ok v w) :
    (execOp a.eval o).run P w = .ok (.value v) w := by
  unfold execOp
  simp only [ho, hx, hy, Sem.run_bind, hg, hr, Result.andThen_ok, Sem.run_pure]
end
end Go.Proofs.Ytjpkjakdhbnehaa.Q
end
section
/- Elements of a row told one by one, so that what lies behind a row's end may be written; an append that tells what it leaves. -/
namespace Go.Proofs.Ytjpkjakdhbnehaa.Q
open Go.RowKit Go.Proofs.YtjpkjakdhbnehaaW.PrintWords Go.Proofs.YtjpkjakdhbnehaaW.PrintLast Go.Proofs.YtjpkjakdhbnehaaW.PrintMore
set_option linter.unusedVariables false
set_option linter.unusedSimpArgs false
/-- Element k of block g reads as x; what it leads to lies in ok. -/
def EAt {α : Type} (d : Kd α) (w : World) (ok : Nat → Prop) (g k : Nat) (x : α) : Prop :=
  ∃ c : List Value, c.length = d.sz ∧ (∀ j u, c[j]? = some u → w.cell? ⟨g, k * d.sz + j, none⟩ = some u) ∧ Kd.FK d w ok x c
/-- A row of elements of block g, from place f on. -/
def VAt {α : Type} (d : Kd α) (w : World) (ok : Nat → Prop) (g f : Nat) (xs : List α) : Prop := ∀ m x, xs[m]? = some x → EAt d w ok g (f + m) x
section
variable {α : Type} {d : Kd α} {w w1 : World} {ok ok' : Nat → Prop} {g f k : Nat} {x : α} {xs : List α}
theorem EAt.step (h : EAt d w ok g k x) (hc : ∀ j, j < d.sz → w1.cell? ⟨g, k * d.sz + j, none⟩ = w.cell? ⟨g, k * d.sz + j, none⟩) (hm : ∀ q, ok q → q < w.heap.size → w1.heap[q]? = w.heap[q]?) : EAt d w1 ok g k x := by
  obtain ⟨c, h1, h2, h3⟩ := h
  refine ⟨c, h1, fun j u hj => ?_, Kd.FK_step h3 hm⟩
  have hl : j < d.sz := by rw [← h1]; exact (List.getElem?_eq_some_iff.1 hj).1
  rw [hc j hl]
  exact h2 j u hj
theorem EAt.mono (h : EAt d w ok g k x) (hok : ∀ q, ok q → q < w.heap.size → ok' q) : EAt d w ok' g k x := by
  obtain ⟨c, h1, h2, h3⟩ := h
  exact ⟨c, h1, h2, Kd.FK_mono (Kd.FK_bound h3) (fun q hq => hok q hq.1 hq.2)⟩
theorem EAt.below (h : EAt d w ok g k x) (hb : Below w.heap.size w w1) : EAt d w1 ok g k x :=
  h.step (fun j hj => by
    by_cases hg : g < w.heap.size
    · exact cell_congr_blk (hb.block g hg) _ rfl
    · exfalso
      obtain ⟨c, h1, h2, _⟩ := h
      obtain ⟨u, hu⟩ : ∃ u, c[j]? = some u := ⟨_, List.getElem?_eq_getElem (by omega)⟩
      exact hg (World.block_lt_of_cell? w _ (h2 j u hu))) (fun q _ hq => hb.block q hq)
where cell_congr_blk {w1 w2 : World} {g : Nat} (h : w2.heap[g]? = w1.heap[g]?) (a : Addr) (ha : a.block = g) : w2.cell? a = w1.cell? a := by unfold World.cell?; rw [ha, h]
theorem VAt.below (h : VAt d w ok g f xs) (hb : Below w.heap.size w w1) : VAt d w1 ok g f xs := fun m x hx => (h m x hx).below hb
theorem VAt.mono (h : VAt d w ok g f xs) (hok : ∀ q, ok q → q < w.heap.size → ok' q) : VAt d w ok' g f xs := fun m x hx => (h m x hx).mono hok
theorem VAt.nil : VAt d w ok g f [] := fun m x hx => by simp at hx
/-- A block that is not turned. -/
theorem VAt.far (h : VAt d w ok g f xs) (hg : w1.heap[g]? = w.heap[g]?) (hm : ∀ q, ok q → q < w.heap.size → w1.heap[q]? = w.heap[q]?) : VAt d w1 ok g f xs :=
  fun m x hx => (h m x hx).step (fun j _ => by unfold World.cell?; rw [hg]) hm
/-- A block that is turned behind place n. -/
theorem VAt.near {n : Nat} (h : VAt d w ok g f xs) (hn : f + xs.length ≤ n) (hc : ∀ j, j < n * d.sz → w1.cell? ⟨g, j, none⟩ = w.cell? ⟨g, j, none⟩) (hm : ∀ q, ok q → q < w.heap.size → w1.heap[q]? = w.heap[q]?) : VAt d w1 ok g f xs := by
  intro m x hx
  have hl : m < xs.length := (List.getElem?_eq_some_iff.1 hx).1
  refine (h m x hx).step (fun j hj => hc _ ?_) hm
  have h1 : (f + m + 1) * d.sz ≤ n * d.sz := Nat.mul_le_mul_right _ (by omega)
  rw [Nat.add_mul, Nat.one_mul] at h1
  omega
theorem VAt.seg (h : VAt d w ok g f xs) (a b : Nat) (ha : a ≤ b) : VAt d w ok g (f + a) ((xs.take b).drop a) := by
  intro m x hx
  rw [List.getElem?_drop] at hx
  have hlt : a + m < b := by
    have := (List.getElem?_eq_some_iff.1 hx).1
    rw [List.length_take] at this
    omega
  rw [List.getElem?_take_of_lt hlt] at hx
  have := h (a + m) x hx
  rwa [← Nat.add_assoc] at this
theorem VAt.snoc (h : VAt d w ok g f xs) (hx : EAt d w ok g (f + xs.length) x) : VAt d w ok g f (xs ++ [x]) := by
  intro m y hy
  rcases Nat.lt_trichotomy m xs.length with hm | hm | hm
  · rw [List.getElem?_append_left hm] at hy
    exact h m y hy
  · subst hm
    rw [List.getElem?_append_right (Nat.le_refl _), Nat.sub_self] at hy
    simp at hy
    subst hy
    exact hx
  · rw [List.getElem?_append_right (by omega)] at hy
    have := (List.getElem?_eq_some_iff.1 hy).1
    simp at this
    omega
/-- What such a row reads as. -/
theorem VAt.C (h : VAt d w ok g f xs) (hmax : xs.length ≤ 9223372036854775807) : Kd.C d w (some ⟨g, f * d.sz, none⟩) xs.length xs := by
  refine ⟨rfl, hmax, fun _ => ⟨_, rfl, fun j p hj => ?_⟩⟩
  obtain ⟨c, h1, h2, h3⟩ := h j p hj
  refine ⟨c, h1, Kd.FK_now h3, fun i u hi => ?_⟩
  rw [add_at, ← Nat.add_assoc, ← Nat.add_mul]
  exact h2 i u hi
theorem VAt.F (h : VAt d w ok g f xs) (hmax : xs.length ≤ 9223372036854775807) (hg : ok g) : Kd.F d w ok (some ⟨g, f * d.sz, none⟩) xs.length xs := by
  intro W' hW
  refine VAt.C (ok := ok) (fun m x hx => ?_) hmax
  refine (h m x hx).step (fun j hj => ?_) hW
  obtain ⟨c, h1, h2, _⟩ := h m x hx
  obtain ⟨u, hu⟩ : ∃ u, c[j]? = some u := ⟨_, List.getElem?_eq_getElem (by omega)⟩
  have hlt := World.block_lt_of_cell? w _ (h2 j u hu)
  unfold World.cell?
  rw [hW g hg hlt]
theorem VAt.FK {n e : Nat} (h : VAt d w ok g f xs) (hmax : xs.length ≤ 9223372036854775807) (hg : ok g) (hn : xs.length ≤ n) : Kd.FK (Kd.slice e d) w ok xs [.slice (some ⟨g, f * d.sz, none⟩) xs.length n] :=
  fun W' hW => ⟨_, n, rfl, hn, VAt.F h hmax hg W' hW⟩
end
/-- What an own row's cells are. -/
theorem own_cells {w w1 : World} {base : Nat} {e size n g : Nat} {v v1 : Value} {inner ys : List Value} (h : w.ownsRow base e size v n inner) (h1 : w1.ownsRow base e size v1 (n + 1) (inner ++ ys)) (hg : v.ownBlock = some g) (hg1 : v1.ownBlock = some g) :
    ∀ j, j < n * size → w1.cell? ⟨g, j, none⟩ = w.cell? ⟨g, j, none⟩ := by
  intro j hj
  have hl : inner.length = n * size := h.1
  rcases h.2 with ⟨rfl, _⟩ | ⟨g0, cap, cur, rfl, _, hh, hn, hm, hs, ht⟩
  · simp [Value.ownBlock] at hg
  have : g0 = g := by simpa [Value.ownBlock] using hg
  subst this
  rcases h1.2 with ⟨rfl, _⟩ | ⟨g1, cap1, cur1, rfl, _, hh1, hn1, hm1, hs1, ht1⟩
  · simp [Value.ownBlock] at hg1
  have : g1 = g0 := by simpa [Value.ownBlock] using hg1
  subst this
  rw [blk_cell hh, blk_cell hh1]
  have e0 : cur[j]? = inner[j]? := by rw [← ht, List.getElem?_take_of_lt hj]; simp
  have e1 : cur1[j]? = (inner ++ ys)[j]? := by rw [← ht1, List.getElem?_take_of_lt (by rw [Nat.add_mul]; omega)]; simp
  rw [e0, e1, List.getElem?_append_left (by omega)]
theorem own_new {w1 : World} {base : Nat} {e size n g : Nat} {v1 : Value} {inner ys : List Value} (hl : inner.length = n * size) (h1 : w1.ownsRow base e size v1 (n + 1) (inner ++ ys)) (hg1 : v1.ownBlock = some g) :
    ∀ j u, ys[j]? = some u → w1.cell? ⟨g, n * size + j, none⟩ = some u := by
  intro j u hj
  rcases h1.2 with ⟨rfl, _⟩ | ⟨g1, cap1, cur1, rfl, _, hh1, hn1, hm1, hs1, ht1⟩
  · simp [Value.ownBlock] at hg1
  have : g1 = g := by simpa [Value.ownBlock] using hg1
  subst this
  have hjl : j < ys.length := (List.getElem?_eq_some_iff.1 hj).1
  have hl1 : (inner ++ ys).length = (n + 1) * size := h1.1
  rw [List.length_append] at hl1
  rw [blk_cell hh1]
  have e1 : cur1[n * size + j]? = (inner ++ ys)[n * size + j]? := by rw [← ht1, List.getElem?_take_of_lt (by omega)]; simp
  rw [e1, List.getElem?_append_right (by omega), hl, Nat.add_sub_cancel_left]
  exact hj
/-- An own row moved: the elements that stand in its block. -/
theorem own_cell_of {w : World} {base : Nat} {e size n g : Nat} {v : Value} {inner : List Value} (h : w.ownsRow base e size v n inner) (hg : v.ownBlock = some g) : ∀ j u, inner[j]? = some u → w.cell? ⟨g, j, none⟩ = some u := by
  intro j u hj
  rcases h.2 with ⟨rfl, _⟩ | ⟨g0, cap, cur, rfl, _, hh, hn, hm, hs, ht⟩
  · simp [Value.ownBlock] at hg
  have : g0 = g := by simpa [Value.ownBlock] using hg
  subst this
  have hjl : j < inner.length := (List.getElem?_eq_some_iff.1 hj).1
  have hl : inner.length = n * size := h.1
  rw [blk_cell hh]
  have e0 : cur[j]? = inner[j]? := by rw [← ht, List.getElem?_take_of_lt (by omega)]; simp
  rw [e0]
  exact hj
section
variable {P : Program} {ops : Array Oper} {rest : List Oper} {o : Oper} {a : Act} {Q : Exit → Act → World → Prop}
/-- append(v, x): in its place, or in a new block, and then all that was stays. -/
theorem wl_append_full {w0 W : World} (base : Nat) (hgd : o.guard = none) (s x : Operand) (t e : TypeId) (z : Value) (size bytes : Nat)
    (ho : o.op = .call { callee := .builtin .append, args := #[s, x], argTypes := #[t, t] })
    (ht : P.underlying t = some (.slice e)) (hinfo : (P.info? e).map (fun i => (i.zero, i.size, i.bytes)) = some (some z, size, bytes)) (hz : z.cells.size = size) (hs0 : 0 < size) (hb0 : 0 < bytes)
    (v : Value) (n : Nat) (xs ys : List Value) (hs : a.eval s = v) (hx : a.eval x = .slice (some ⟨W.heap.size, 0, none⟩) 1 1) (hys : ys.length = size) (h1 : ∀ u ∈ ys, u.oneCell' = true)
    (HO : W.ownsRow base e size v n xs) (HB : Below base w0 W) (hbase : base ≤ W.heap.size) (hl : (n + 1) * bytes ≤ 140737488355328)
    (h : ∀ v1 w1, w1.ownsRow base e size v1 (n + 1) (xs ++ ys) → Below base w0 w1 → W.grownBy w1 v.ownBlock → (v1.ownBlock = v.ownBlock ∨ (∃ b, v1.ownBlock = some b ∧ W.heap.size ≤ b) ∧ ∀ k, k < W.heap.size → w1.heap[k]? = W.heap[k]?) → wpList P ops Q rest (a.put o.dst v1) w1) :
    wpList P ops Q (o :: rest) a (W.alloc (.cells ys.toArray e)) := by
  obtain ⟨i0, hi, hzz⟩ := Option.map_eq_some_iff.1 hinfo
  simp only [Prod.mk.injEq] at hzz
  obtain ⟨hz0, hz1, hz2⟩ := hzz
  have hlen : n + 1 ≤ 140737488355328 := Nat.le_trans (Nat.le_mul_of_pos_right _ hb0) hl
  have hnews : ∀ j u, ys[j]? = some u → (W.alloc (.cells ys.toArray e)).cell? ((⟨W.heap.size, 0, none⟩ : Addr).add j) = some u := by
    simpa using World.news_of_block (cs := ys.toArray) (t := e) (fr := (0, 0)) (heap_alloc_new W (.cells ys.toArray e))
  obtain ⟨v1, w1, hr, h2, h3, h4, h5⟩ := run_append_own_at (P := P) (W.alloc (.cells ys.toArray e)) base t o.type e i0 z size bytes ht hi hz0 hz1 hz2 hz hs0 v n xs (HO.alloc _) ⟨W.heap.size, 0, none⟩ 1 1 ys (by rw [hys]; simp) hnews h1 (by simp only [maxLen]; omega) hl (by simp; omega)
  have hold : ∀ k, k < W.heap.size → (W.alloc (.cells ys.toArray e)).heap[k]? = W.heap[k]? := fun k hk => heap_alloc_old W _ hk
  have hat : v1.ownBlock = v.ownBlock ∨ (∃ b, v1.ownBlock = some b ∧ W.heap.size ≤ b) ∧ ∀ k, k < W.heap.size → w1.heap[k]? = W.heap[k]? := by
    rcases h5 with h5 | h5
    · exact .inl h5
    · rcases (HO.alloc (.cells ys.toArray e)).2 with ⟨rfl, _⟩ | ⟨g, cap, cur, rfl, hbg, hg, hnc, hcm, hcs, htake⟩
      · exact .inr ⟨⟨_, h5, by simp⟩, fun k hk => (h3.block k (by simp; omega) (by simp [Value.ownBlock])).trans (hold k hk)⟩
      · subst hz1
        by_cases hroom : n + 1 ≤ cap
        · have hfit : n * i0.size + ys.length ≤ cur.size := by rw [hys, hcs, ← Nat.succ_mul]; exact Nat.mul_le_mul_right _ hroom
          have hr2 := run_append_room (P := P) (W.alloc (.cells ys.toArray e)) t o.type e i0 ht hi g n cap cur hg ⟨W.heap.size, 0, none⟩ 1 1 ys (by rw [hys]; simp) hnews h1 hroom hfit
          rw [hr2] at hr
          injection hr with hv _
          subst hv
          exact .inl rfl
        · have holds := (HO.alloc (.cells ys.toArray e)).cells (g := g) rfl
          have hr2 := run_append_grow (P := P) (W.alloc (.cells ys.toArray e)) t o.type e i0 z ht hi hz0 ⟨g, 0, none⟩ n cap xs HO.1 holds ⟨W.heap.size, 0, none⟩ 1 1 ys (by rw [hys]; simp) hnews (by omega) (by omega) (growslice_fits (by omega) (by rw [hz2]; exact hl))
          rw [hr2] at hr
          injection hr with hv hw
          subst hw
          exact .inr ⟨⟨_, h5, by simp⟩, fun k hk => (heap_alloc_old _ _ (by simp; omega)).trans (hold k hk)⟩
  refine wpList_plain hgd fun K hK => ?_
  unfold Oper.wp execOp
  simp only [ho, resolve, invoke, builtin, Sem.run_bind, Sem.run_pure, Result.andThen_ok, List.map_toArray, List.map_cons, List.map_nil, hs, hx, hr]
  exact hK _ _ (h v1 w1 h2 ((HB.alloc hbase _).grown h3 (by simp; omega) (own_base HO)) (World.grownBy.trans (World.grownBy_alloc W _ _) h3) hat)
end
end Go.Proofs.Ytjpkjakdhbnehaa.Q
end
section
-- Written by this session's own program (ext_print.py) over the kit's print.py, hand proofs among it. Not trusted: Lean checks it.
namespace Go.Proofs.Ytjpkjakdhbnehaa.Q
open Go.RowKit Go.Proofs.YtjpkjakdhbnehaaW.PrintWords Go.Proofs.YtjpkjakdhbnehaaW.PrintLast Go.Proofs.YtjpkjakdhbnehaaW.PrintMore
attribute [local go_sem] max2_int min2_int max_two min_two max_three min_three max_four min_four   -- for this text's walks alone
set_option linter.unusedVariables false
set_option linter.unusedSimpArgs false

-- EXT words
/-- copy(v[off:], ys...) into a row of one's own. -/
theorem ext_copy_run {P : Program} {o : Oper} {a : Act} {w0 W : World} (base : Nat) (d s : Operand) (dT sT e : TypeId)
    (ho : o.op = .call { callee := .builtin .copy, args := #[d, s], argTypes := #[dT, sT] })
    (hu : P.underlying dT = some (.slice e)) (hsz : (P.info? e).map (·.size) = some 1)
    (k : IntKind) (ok : Nat → Prop) (g cap : Nat) (xs ys : List Int) (off dLen dCap : Nat) (dp A : Option Addr) (m c : Nat)
    (hd : a.eval d = .slice dp dLen dCap) (hs : a.eval s = .slice A m c)
    (HO : (Kd.int k).R e W base ok (.slice (some ⟨g, 0, none⟩) xs.length cap) xs) (HR : (Kd.int k).C W A m ys)
    (hoff : off + dLen = xs.length) (hdp : 0 < dLen → dp = some ⟨g, off, none⟩) (HB : Below base w0 W) :
    ∃ w', (execOp a.eval o).run P W = .ok (.value (goInt (min m dLen : Nat))) w' ∧ (Kd.int k).R e w' base ok (.slice (some ⟨g, 0, none⟩) xs.length cap) (xs.take off ++ (ys.take dLen ++ xs.drop (off + min m dLen))) ∧ Below base w0 w' ∧ W.grownBy w' (some g) := by
  have hrd := Kd.reads_of_C (enc := Value.int k) (d := (0 : Int)) (h1 := fun _ => rfl) HR
  have hm : ys.length = m := hrd.1
  obtain ⟨hlen, hown⟩ := Kd.own_of_R (enc := Value.int k) (h1 := fun _ => rfl) HO
  rcases hown with ⟨h1, _⟩ | ⟨g', cap', cur, he, hb, hheap, hnc, hcm, hcs, hpre⟩
  · cases h1
  · injection he with ha hn hc
    injection ha with ha
    injection ha with ha
    subst ha
    subst hc
    by_cases h0 : min m dLen = 0
    · have hrun := run_copy_none (P := P) W dT sT o.type e dp A dLen dCap m c hu hsz h0
      have e1 : ys.take dLen = [] := by
        apply List.eq_nil_of_length_eq_zero
        rw [List.length_take]
        omega
      have e2 : xs.take off ++ (ys.take dLen ++ xs.drop (off + min m dLen)) = xs := by
        rw [e1, h0, List.nil_append, Nat.add_zero, List.take_append_drop]
      refine ⟨W, ?_, by rw [e2]; exact HO, HB, World.grownBy.refl W _⟩
      rw [h0]
      simp [execOp, ho, resolve, invoke, builtin, hd, hs, hrun, Result.andThen]
    · have hdp' := hdp (by omega)
      subst hdp'
      obtain ⟨ad, rfl, hcell⟩ := hrd.2.2 (by omega)
      obtain ⟨CS, hCS⟩ : ∃ CS, CS = (ys.take dLen).map (Value.int k) := ⟨_, rfl⟩
      have hcl : CS.length = Nat.min m dLen := by
        rw [hCS]
        simp only [List.length_map, List.length_take]
        show min dLen ys.length = min m dLen
        omega
      have hml : Nat.min m dLen = min m dLen := rfl
      have hrun := run_copy_row (P := P) W dT sT o.type e g off dLen dCap ad m c cur e CS hu hsz hheap hcl ?_ ?_ ?_
      rotate_left
      · intro j v hj
        rw [hCS] at hj
        have hj' : j < ys.length ∧ j < dLen := by
          have := (List.getElem?_eq_some_iff.1 hj).1
          simp only [List.length_map, List.length_take] at this
          omega
        have hv : v = .int k (ys.getD j 0) := by
          rw [List.getElem?_map, List.getElem?_take_of_lt hj'.2, List.getElem?_eq_getElem hj'.1] at hj
          simp only [Option.map_some, Option.some.injEq] at hj
          rw [← hj, List.getD_eq_getElem?_getD, List.getElem?_eq_getElem hj'.1]
          rfl
        rw [hv]
        exact hcell j (by omega)
      · rw [hcl, hml]
        omega
      · intro v hv
        rw [hCS] at hv
        obtain ⟨q, _, rfl⟩ := List.mem_map.1 hv
        rfl
      · rw [hcl, hml] at hrun
        try rw [List.append_assoc] at hrun
        have hold : cur.toList = encs (Value.int k) xs ++ cur.toList.drop xs.length := by
          have := (List.take_append_drop (xs.length * 1) cur.toList).symm
          rw [hpre] at this
          simpa using this
        have hel : (encs (Value.int k) xs).length = xs.length := encs_length xs
        have ht1 : cur.toList.take off = (encs (Value.int k) xs).take off := by
          rw [hold, List.take_append_of_le_length (by omega)]
        have ht2 : cur.toList.drop (off + min m dLen) = (encs (Value.int k) xs).drop (off + min m dLen) ++ cur.toList.drop xs.length := by
          conv => lhs; rw [hold]
          rw [List.drop_append_of_le_length (by omega)]
        have hnew : cur.toList.take off ++ (CS ++ cur.toList.drop (off + min m dLen)) = encs (Value.int k) (xs.take off ++ (ys.take dLen ++ xs.drop (off + min m dLen))) ++ cur.toList.drop xs.length := by
          rw [ht1, ht2, hCS]
          simp only [encs, List.map_append, List.map_take, List.map_drop, List.append_assoc]
        have hnl : (xs.take off ++ (ys.take dLen ++ xs.drop (off + min m dLen))).length = xs.length := by
          simp only [List.length_append, List.length_take, List.length_drop]
          omega
        refine ⟨_, by simp [execOp, ho, resolve, invoke, builtin, hd, hs, hrun, Result.andThen]; rfl, ?_, below_setRow HB hb _, ?_⟩
        · refine Kd.R_of_own (enc := Value.int k) (h1 := fun _ => rfl) ⟨by rw [encs_length]; omega, .inr ⟨g, cap, _, by rw [hnl], hb, setRow_heap W g _ _ e _ hheap, by omega, hcm, ?_, ?_⟩⟩ HO.1
          · rw [hnew]
            simp only [List.size_toArray, List.length_append, encs_length, hnl, List.length_drop, Array.length_toList]
            omega
          · rw [hnew]
            rw [List.take_append_of_le_length (by rw [encs_length]; omega), List.take_of_length_le (by rw [encs_length]; omega)]
        · exact ⟨rfl, rfl, rfl, by simp [World.setRow], fun q hq hne => setRow_other W g q _ (fun e => hne (by rw [e]))⟩

theorem ext_copy {P : Program} {ops : Array Oper} {rest : List Oper} {o : Oper} {a : Act} {Q : Exit → Act → World → Prop} {w0 W : World} (base : Nat) (hgd : o.guard = none) (d s : Operand) (dT sT e : TypeId)
    (ho : o.op = .call { callee := .builtin .copy, args := #[d, s], argTypes := #[dT, sT] })
    (hu : P.underlying dT = some (.slice e)) (hsz : (P.info? e).map (·.size) = some 1)
    (k : IntKind) (ok : Nat → Prop) (g cap : Nat) (xs ys : List Int) (off dLen dCap : Nat) (dp A : Option Addr) (m c : Nat)
    (hd : a.eval d = .slice dp dLen dCap) (hs : a.eval s = .slice A m c)
    (HO : (Kd.int k).R e W base ok (.slice (some ⟨g, 0, none⟩) xs.length cap) xs) (HR : (Kd.int k).C W A m ys)
    (hoff : off + dLen = xs.length) (hdp : 0 < dLen → dp = some ⟨g, off, none⟩) (HB : Below base w0 W)
    (h : ∀ w', (Kd.int k).R e w' base ok (.slice (some ⟨g, 0, none⟩) xs.length cap) (xs.take off ++ (ys.take dLen ++ xs.drop (off + min m dLen))) → Below base w0 w' → W.grownBy w' (some g) → wpList P ops Q rest (a.put o.dst (goInt (min m dLen : Nat))) w') :
    wpList P ops Q (o :: rest) a W := by
  obtain ⟨w', hr, h1, h2, h3⟩ := ext_copy_run base d s dT sT e ho hu hsz k ok g cap xs ys off dLen dCap dp A m c hd hs HO HR hoff hdp HB
  exact Kd.event_run hgd hr (h w' h1 h2 h3)
theorem ext_copy_step {P : Program} {ops : Array Oper} {o : Oper} {a : Act} {K : Act → World → Prop} {Q : Exit → Act → World → Prop} {E : Prop} {w0 W : World} (base : Nat) (hgd : o.guard = none) (d s : Operand) (dT sT e : TypeId)
    (ho : o.op = .call { callee := .builtin .copy, args := #[d, s], argTypes := #[dT, sT] })
    (hu : P.underlying dT = some (.slice e)) (hsz : (P.info? e).map (·.size) = some 1)
    (k : IntKind) (ok : Nat → Prop) (g cap : Nat) (xs ys : List Int) (off dLen dCap : Nat) (dp A : Option Addr) (m c : Nat)
    (hd : a.eval d = .slice dp dLen dCap) (hs : a.eval s = .slice A m c)
    (HO : (Kd.int k).R e W base ok (.slice (some ⟨g, 0, none⟩) xs.length cap) xs) (HR : (Kd.int k).C W A m ys)
    (hoff : off + dLen = xs.length) (hdp : 0 < dLen → dp = some ⟨g, off, none⟩) (HB : Below base w0 W)
    (h : ∀ w', (Kd.int k).R e w' base ok (.slice (some ⟨g, 0, none⟩) xs.length cap) (xs.take off ++ (ys.take dLen ++ xs.drop (off + min m dLen))) → Below base w0 w' → W.grownBy w' (some g) → K (a.put o.dst (goInt (min m dLen : Nat))) w') :
    if Region.wanted o (yielded ops a.tmps) = true then Oper.wp P o a W K Q else E := by
  obtain ⟨w', hr, h1, h2, h3⟩ := ext_copy_run base d s dT sT e ho hu hsz k ok g cap xs ys off dLen dCap dp A m c hd hs HO HR hoff hdp HB
  have hw : Region.wanted o (yielded ops a.tmps) = true := by simp [Region.wanted, hgd]
  rw [if_pos hw]
  unfold Oper.wp
  rw [hr]
  exact h w' h1 h2 h3
/-- v[a:] of a row of one's own, behind its head. -/
theorem ext_cut {P : Program} (t e : TypeId) (kl : IntKind) (ht : P.underlying t = some (.slice e)) (hsz : (P.info? e).map (·.size) = some 1) (g n c : Nat) (a : Int) (h0 : 0 ≤ a) (h1 : a < n) (hc : n ≤ c) :
    ∀ W : World, (Instr.slice t (.slice (some ⟨g, 0, none⟩) n c) (some (.int kl a)) none none).run P W = .ok (.slice (some ⟨g, a.toNat, none⟩) (n - a.toNat) (c - a.toNat)) W := by
  intro W
  obtain ⟨i, hi, hs⟩ := Option.map_eq_some_iff.1 hsz
  have hel : P.elem t = e := by simp [Program.elem, ht]
  have hu : P.underlying t = some (.slice (P.elem t)) := by rw [hel]; exact ht
  rw [run_slice_l W t (some ⟨g, 0, none⟩) n c hu kl a h0 (by omega), hel]
  simp [sizeOf, typeInfo, hi, hs, sliced, Result.andThen, show ¬ (c = a.toNat) by omega, add_plain]
theorem ext_R_le {α : Type} {d : Kd α} {e n c : Nat} {w : World} {base : Nat} {ok : Nat → Prop} {A : Option Addr} {xs : List α} (h : d.R e w base ok (.slice A n c) xs) : n ≤ c := by
  obtain ⟨A', c', he, hl, _⟩ := Kd.R_reads h
  injection he with _ h1 h2
  omega

/-! the number that bytes tell, the lowest first -/
def leval : List Int → Int
  | [] => 0
  | x :: t => x + 256 * leval t
def u8s (l : List Int) : Prop := ∀ x ∈ l, 0 ≤ x ∧ x < 256
instance (l : List Int) : Decidable (u8s l) := by unfold u8s; infer_instance
theorem leval_range : ∀ (l : List Int), u8s l → 0 ≤ leval l ∧ leval l < 256 ^ l.length
  | [], _ => by simp [leval]
  | x :: t, h => by
    have h1 := h x (by simp)
    have h2 := leval_range t (fun y hy => h y (by simp [hy]))
    rw [leval, List.length_cons, Int.pow_succ]
    omega
theorem leval_snoc : ∀ (l : List Int) (x : Int), leval (l ++ [x]) = leval l + x * 256 ^ l.length
  | [], x => by simp [leval]
  | y :: t, x => by
    rw [List.cons_append, leval, leval, leval_snoc t x, List.length_cons, Int.pow_succ, Int.mul_add, ← Int.add_assoc, Int.mul_comm 256 (x * 256 ^ t.length), Int.mul_assoc]
theorem leval_take (l : List Int) (i : Nat) (h : i < l.length) : leval (l.take (i + 1)) = leval (l.take i) + rd l i * 256 ^ i := by
  rw [List.take_succ_eq_append_getElem h, leval_snoc, List.length_take, Nat.min_eq_left (by omega)]
  simp [rd, List.getD_eq_getElem?_getD, List.getElem?_eq_getElem h]
theorem wraps_u64 (n : Int) (h0 : 0 ≤ n) (h1 : n < 2 ^ 64) : IntKind.u64.wrap n = n := by
  simp [IntKind.wrap, IntKind.bits, IntKind.signed]
  omega
theorem pow_mono (b : Nat) (hb : 0 < b) {i j : Nat} (h : i ≤ j) : ((b : Int)) ^ i ≤ (b : Int) ^ j := by exact_mod_cast Nat.pow_le_pow_right hb h
theorem or_u64 (x y : Int) (i : Nat) (hi : i ≤ 64) (hx0 : 0 ≤ x) (hx : x < 2 ^ i) (hy0 : 0 ≤ y) (hy : y % 2 ^ i = 0) (hy1 : y < 2 ^ 64) : Go.bits .or .u64 x y = x + y := by
  have hx1 : x < 2 ^ 64 := Int.lt_of_lt_of_le hx (pow_mono 2 (by decide) hi)
  have hc : Go.bits .or .u64 x y = Go.bits .or .u64 y x := by
    obtain ⟨a, rfl⟩ := Int.eq_ofNat_of_zero_le hx0
    obtain ⟨b, rfl⟩ := Int.eq_ofNat_of_zero_le hy0
    rw [(bits_nat .u64 64 (by decide) wraps_u64 a b (by exact_mod_cast hx1) (by exact_mod_cast hy1)).2, (bits_nat .u64 64 (by decide) wraps_u64 b a (by exact_mod_cast hy1) (by exact_mod_cast hx1)).2, Nat.or_comm]
  rw [hc, bits_join .u64 64 (by decide) wraps_u64 i y x hy0 hy hy1 hx0 hx hx1, Int.add_comm]
theorem pow256 (i : Nat) : (256 : Int) ^ i = 2 ^ (8 * i) := by rw [Int.pow_mul]; rfl
theorem leval_step (l : List Int) (hu : u8s l) (hl : l.length ≤ 8) (i : Int) (h0 : 0 ≤ i) (h1 : i < l.length) :
    Go.bits .or .u64 (leval (l.take i.toNat)) (shl .u64 (IntKind.u64.wrap (rd l i)) (IntKind.u64.wrap (wrap64 (8 * i)))) = leval (l.take (i + 1).toNat) := by
  obtain ⟨n, rfl⟩ := Int.eq_ofNat_of_zero_le h0
  have hn : n < l.length := by omega
  have hb : 0 ≤ rd l n ∧ rd l n < 256 := by
    have := hu (l[n]) (List.getElem_mem hn)
    simpa [rd, List.getD_eq_getElem?_getD, List.getElem?_eq_getElem hn] using this
  have hw : IntKind.u64.wrap (wrap64 (8 * (n : Int))) = 8 * (n : Int) := by
    have : wrap64 (8 * (n : Int)) = 8 * (n : Int) := by unfold wrap64; omega
    rw [this, wraps_u64 _ (by omega) (by omega)]
  have hr := leval_range (l.take n) (fun x hx => hu x (List.mem_of_mem_take hx))
  rw [List.length_take, Nat.min_eq_left (by omega)] at hr
  have e1 : ((n : Int) + 1).toNat = n + 1 := by omega
  have e2 : (8 * (n : Int)).toNat = 8 * n := by omega
  have hp : (256 : Int) ^ n * 256 ≤ 2 ^ 64 := by
    rw [← Int.pow_succ, show (2 : Int) ^ 64 = 256 ^ 8 from by decide]
    exact pow_mono 256 (by decide) (by omega)
  have hp0 : (0 : Int) < 256 ^ n := Int.pow_pos (by decide)
  have hprod : rd l n * 256 ^ n ≤ 255 * 256 ^ n := Int.mul_le_mul_of_nonneg_right (by omega) (by omega)
  have hprod0 : 0 ≤ rd l n * 256 ^ n := Int.mul_nonneg hb.1 (by omega)
  rw [hw, wraps_u64 (rd l n) hb.1 (by omega), Int.toNat_natCast, e1, leval_take l n hn]
  unfold shl
  rw [e2, show IntKind.u64.bits = 64 from rfl, Nat.min_eq_left (by omega), ← pow256, wraps_u64 _ hprod0 (by omega)]
  exact or_u64 _ _ (8 * n) (by omega) hr.1 (by rw [← pow256]; exact hr.2) hprod0 (by rw [← pow256]; exact Int.mul_emod_left _ _) (by omega)
/-- '[]T{}'. -/
theorem ext_R_empty (k : IntKind) (e : Nat) (w : World) : (Kd.int k).R e (w.alloc (.cells #[] e)) w.heap.size (fun _ => True) (.slice (some ⟨w.heap.size, 0, none⟩) 0 0) [] :=
  Kd.R_of_own (enc := Value.int k) (h1 := fun _ => rfl) ⟨rfl, .inr ⟨w.heap.size, 0, #[], rfl, Nat.le_refl _, by simpa using heap_alloc_new w _, Nat.le_refl _, by simp [maxLen], rfl, rfl⟩⟩ (fun _ _ => trivial)
/-- v[:0] of a row of one's own. -/
theorem ext_take0 {P : Program} (t e : TypeId) (kl : IntKind) (ht : P.underlying t = some (.slice e)) (hsz : (P.info? e).map (·.size) = some 1) (g n c : Nat) :
    ∀ W : World, (Instr.slice t (.slice (some ⟨g, 0, none⟩) n c) none (some (.int kl 0)) none).run P W = .ok (.slice (some ⟨g, 0, none⟩) 0 c) W := by
  intro W
  obtain ⟨i, hi, hs⟩ := Option.map_eq_some_iff.1 hsz
  have hel : P.elem t = e := by simp [Program.elem, ht]
  have hu : P.underlying t = some (.slice (P.elem t)) := by rw [hel]; exact ht
  rw [run_slice_h W t (some ⟨g, 0, none⟩) n c hu kl 0 (by omega) (by omega), hel]
  simp [sizeOf, typeInfo, hi, hs, sliced, Result.andThen, Addr.add]
/-- An element of a row of rows that is read. -/
theorem ext_row_at {e : Nat} {α : Type} {d : Kd α} {w : World} {A : Option Addr} {n : Nat} {xs : List (List α)} (h : (Kd.slice e d).C w A n xs) (i : Int) (h0 : 0 ≤ i) (h1 : i < n) :
    ∃ ad A9 c9, A = some ad ∧ w.cell? (ad.add i.toNat) = some (.slice A9 (xs.getD i.toNat []).length c9) ∧ (xs.getD i.toNat []).length ≤ c9 ∧ d.C w A9 (xs.getD i.toNat []).length (xs.getD i.toNat []) := by
  obtain ⟨ad, c, e1, _, ⟨A9, c9, rfl, hl, hr⟩, hc⟩ := Kd.C_get h [] i h0 h1
  have h2 := hc 0 _ rfl
  have h3 : i.toNat * (Kd.slice e d).sz + 0 = i.toNat := by
    show i.toNat * 1 + 0 = i.toNat
    omega
  rw [h3] at h2
  exact ⟨ad, A9, c9, e1, h2, hl, hr⟩
theorem flat_snoc {α : Type} (l : List (List α)) (i : Nat) (h : i < l.length) : (l.take (i + 1)).flatten = (l.take i).flatten ++ l.getD i [] := by
  rw [List.take_succ_eq_append_getElem h, List.flatten_append]
  simp [List.getElem?_eq_getElem h]
theorem flat_le {α : Type} (l : List (List α)) (i : Nat) : (l.take i).flatten.length ≤ l.flatten.length := by
  conv => rhs; rw [← List.take_append_drop i l, List.flatten_append, List.length_append]
  omega
/-! a row of bytes that is only seen: whatever is marked, whatever room is behind it -/
def SeenRow (W : World) (base : Nat) (e : TypeId) (xs : List Int) (v : Value) : Prop :=
  ∃ (g c : Nat) (cells : Array Value) (fr : Nat × Nat), v = .slice (some ⟨g, 0, none⟩) xs.length c ∧ xs.length ≤ c ∧ xs.length ≤ 9223372036854775807 ∧ base ≤ g ∧ W.heap[g]? = some (.cells cells e fr) ∧ cells.toList.take xs.length = encs (Value.int .u8) xs
theorem SeenRow.lt {W : World} {base : Nat} {e : TypeId} {xs : List Int} {v : Value} (h : SeenRow W base e xs v) : ∀ k, v.ownBlock = some k → k < W.heap.size := by
  obtain ⟨g, c, cells, fr, rfl, _, _, _, hh, _⟩ := h
  intro k hk
  have : g = k := by simpa [Value.ownBlock] using hk
  subst this
  exact (Array.getElem?_eq_some_iff.1 hh).1
theorem SeenRow.below {W W1 : World} {base : Nat} {e : TypeId} {xs : List Int} {v : Value} (h : SeenRow W base e xs v) (hb : Below W.heap.size W W1) : SeenRow W1 base e xs v := by
  obtain ⟨g, c, cells, fr, rfl, h1, h2, h3, hh, h4⟩ := h
  exact ⟨g, c, cells, fr, rfl, h1, h2, h3, (hb.block g (Array.getElem?_eq_some_iff.1 hh).1).trans hh, h4⟩
theorem SeenRow.reads {W : World} {base : Nat} {e : TypeId} {xs : List Int} {v : Value} (h : SeenRow W base e xs v) : ∃ A c, v = .slice A xs.length c ∧ xs.length ≤ c ∧ (Kd.int .u8).C W A xs.length xs := by
  obtain ⟨g, c, cells, fr, rfl, h1, h2, h3, hh, h4⟩ := h
  refine ⟨_, c, rfl, h1, Kd.C_of_reads (enc := Value.int .u8) (d := (0 : Int)) (h1 := fun _ => rfl) ⟨rfl, h2, fun hn => ⟨_, rfl, fun j hj => ?_⟩⟩⟩
  rw [add_plain]
  have h5 : cells.toList[j]? = some (.int .u8 (xs.getD j 0)) := by
    have h6 := encs_get (enc := Value.int .u8) (d := (0 : Int)) xs j hj
    rw [← h4, List.getElem?_take_of_lt hj] at h6
    exact h6
  simp only [World.cell?, hh]
  rw [Array.getElem?_toList] at h5
  simpa using h5
/-- '[]byte{..}', as it is laid. -/
theorem SeenRow.lit (W : World) (base : Nat) (e : TypeId) (xs : List Int) (hb : base ≤ W.heap.size) (hn : xs.length ≤ 9223372036854775807) : SeenRow (W.alloc (.cells (encs (Value.int .u8) xs).toArray e)) base e xs (.slice (some ⟨W.heap.size, 0, none⟩) xs.length xs.length) :=
  ⟨W.heap.size, xs.length, (encs (Value.int .u8) xs).toArray, (0, 0), rfl, Nat.le_refl _, hn, hb, heap_alloc_new W _, by show List.take xs.length (encs (Value.int .u8) xs) = _; exact List.take_of_length_le (by rw [encs_length]; exact Nat.le_refl _)⟩
theorem below_freeze {B : Nat} {w W : World} (h : Below B w W) (a : Addr) (n : Nat) (hB : B ≤ a.block) : Below B w (W.freeze a n) := by
  refine h.trans ⟨?_, ?_, ?_, ?_, fun k hk => ?_⟩
  · unfold World.freeze; split <;> rfl
  · unfold World.freeze; split <;> rfl
  · unfold World.freeze; split <;> rfl
  · unfold World.freeze; split <;> simp
  · unfold World.freeze
    split
    · rfl
    · have hne : a.block ≠ k := by omega
      simp [Array.getElem?_modify, hne]
/-- '[]byte("..")' of a constant: the literal's row gets the run-time's mark. -/
theorem SeenRow.mark {P : Program} {w0 W : World} {base : Nat} {t e : TypeId} {xs : List Int} {v : Value} (h : SeenRow W base e xs v) (ht : P.underlying t = some (.slice e)) (he : P.underlying e = some (.int .u8)) (hb : Below base w0 W) :
    ∃ W1 : World, (convert t t v).run P W = .ok v W1 ∧ SeenRow W1 base e xs v ∧ Below base w0 W1 ∧ W1.heap.size = W.heap.size ∧ ∀ k, some k ≠ v.ownBlock → W1.heap[k]? = W.heap[k]? := by
  obtain ⟨g, c, cells, ⟨lo, hi⟩, rfl, h1, h2, h3, hh, h4⟩ := h
  have hsh : W.shape? g = some (e, cells.size) := by unfold World.shape?; rw [hh]
  refine ⟨W.freeze ⟨g, cells.size, none⟩ 1, ?_, ?_, below_freeze hb _ _ h3, by unfold World.freeze; split <;> simp, fun k hk => ?_⟩
  · simp [convert, run_underlying ht, run_underlying he, markStringish, hsh]
  · refine ⟨g, c, cells, (if lo == hi then (cells.size, cells.size + 1) else (min lo cells.size, max hi (cells.size + 1))), rfl, h1, h2, h3, ?_, h4⟩
    unfold World.freeze
    rw [if_neg (by decide)]
    simp [Array.getElem?_modify, hh]
  · have hne : g ≠ k := by
      rintro rfl
      exact hk (by simp [Value.ownBlock])
    unfold World.freeze
    rw [if_neg (by decide)]
    simp [Array.getElem?_modify, hne]
/-- '[]byte(s)': a row of its own, seen. -/
theorem SeenRow.conv (W : World) (base : Nat) (e : TypeId) (s : ByteArray) (hb : base ≤ W.heap.size) (hs : s.size ≤ 9223372036854775807) : SeenRow (Lib.bytesWorld W e s) base e (bytesOf s) (.slice (some ⟨W.heap.size, 0, none⟩) s.size (grownCap W s.size 0 e)) := by
  refine ⟨W.heap.size, grownCap W s.size 0 e, Lib.bytesCells W e s, _, by rw [bytesOf_length], ?_, by rw [bytesOf_length]; exact hs, hb, Lib.bytesWorld_at_new W e s, ?_⟩
  · rw [bytesOf_length]
    exact grownCap_ge _ _ _ _
  · have h1 : (s.data.map fun b => Value.int .u8 b.toNat).toList = encs (Value.int .u8) (bytesOf s) := by
      rw [Array.toList_map, encs, bytesOf, List.map_map]
      rfl
    have h2 : (encs (Value.int .u8) (bytesOf s)).length = s.size := by rw [encs_length, bytesOf_length]
    rw [bytesOf_length]
    unfold Lib.bytesCells
    rw [Array.toList_append, h1, List.take_append_of_le_length (by rw [h2]; exact Nat.le_refl _), List.take_of_length_le (by rw [h2]; exact Nat.le_refl _)]
/-- What a call has made is none of an elder row. -/
theorem ext_R_new {e : Nat} {W W1 : World} {base : Nat} {u v : Value} {p : List Int} {c : Prop} (ho : (Kd.int .u8).R e W1 W.heap.size (fun _ => True) v p) (hv : c → ∀ k, u.ownBlock = some k → k < W.heap.size) (hb : base ≤ W.heap.size) :
    (Kd.int .u8).R e W1 base (fun k => c → some k ≠ u.ownBlock) v p :=
  Kd.R_lower (Kd.R_mono (Kd.R_bound ho) (fun k hk hc he => by have := hv hc k he.symm; have := hk.2.1; omega)) hb
/-- A row behind a new block. -/
theorem ext_R_fresh {e : Nat} {W W1 : World} {base n m : Nat} {v : Value} {p : List Int} {ok : Nat → Prop} {c : Prop} (h : (Kd.int .u8).R e W base ok v p) (hb : Below W.heap.size W W1) :
    (Kd.int .u8).R e W1 base (fun k => c → some k ≠ (Value.slice (some ⟨W.heap.size, 0, none⟩) n m).ownBlock) v p :=
  Kd.R_below (Kd.R_mono (Kd.R_bound h) (fun k hk _ he => by have h1 : k = W.heap.size := by simpa [Value.ownBlock] using he
                                                            have := hk.2.2.1; omega)) hb
/-- A literal of rows that are read. -/
theorem ext_C_rows {α : Type} {d : Kd α} {e E : Nat} (W : World) (vs : List Value) (xss : List (List α)) (hl : vs.length = xss.length) (hn : xss.length ≤ 9223372036854775807)
    (h : ∀ (j : Nat) (v : Value) (xs : List α), vs[j]? = some v → xss[j]? = some xs → ∃ (A : Option Addr) (c : Nat), v = Value.slice A xs.length c ∧ xs.length ≤ c ∧ d.C W A xs.length xs) :
    (Kd.slice e d).C (W.alloc (.cells vs.toArray E)) (some ⟨W.heap.size, 0, none⟩) xss.length xss := by
  refine ⟨rfl, hn, fun h0 => ⟨_, rfl, fun j p hj => ?_⟩⟩
  have hjl : j < xss.length := (List.getElem?_eq_some_iff.1 hj).1
  have hv : vs[j]? = some vs[j] := List.getElem?_eq_getElem (by omega)
  obtain ⟨A, c, e1, h1, h2⟩ := h j _ p hv hj
  refine ⟨[vs[j]], rfl, ⟨A, c, by rw [e1], h1, Kd.C_alloc h2 _⟩, fun i u hu => ?_⟩
  have hi : i = 0 := by
    rcases Nat.eq_zero_or_pos i with h | h
    · exact h
    · rw [List.getElem?_eq_none (by simp; omega)] at hu; cases hu
  subst hi
  simp only [List.getElem?_cons_zero, Option.some.injEq] at hu
  subst hu
  rw [add_plain, show j * (Kd.slice e d).sz + 0 = j from by show j * 1 + 0 = j; omega]
  have hh : (W.alloc (.cells vs.toArray E)).heap[W.heap.size]? = some (.cells vs.toArray E (0, 0)) := by simpa using heap_alloc_new W _
  simp only [World.cell?, hh]
  simp [hv]
/-- A literal of one number. -/
theorem ext_C_one (k : IntKind) (e : TypeId) (W : World) (x : Int) : (Kd.int k).C (W.alloc (.cells #[.int k x] e)) (some ⟨W.heap.size, 0, none⟩) 1 [x] :=
  Kd.C_of_reads (enc := Value.int k) (d := (0 : Int)) (h1 := fun _ => rfl) ⟨rfl, by decide, fun _ => ⟨_, rfl, fun j hj => by
    obtain rfl : j = 0 := by omega
    have hh : (W.alloc (.cells #[.int k x] e)).heap[W.heap.size]? = some (.cells #[.int k x] e (0, 0)) := heap_alloc_new W _
    rw [add_plain]
    simp only [World.cell?, hh]
    rfl⟩⟩
/-- append onto a slice that is only seen, where there is no room. -/
theorem ext_append_grows {P : Program} {ops : Array Oper} {rest : List Oper} {o : Oper} {a : Act} {Q : Exit → Act → World → Prop} {w0 W : World} (base : Nat) (hgd : o.guard = none) (s x : Operand) (t e : TypeId)
    (ho : o.op = .call { callee := .builtin .append, args := #[s, x], argTypes := #[t, t] })
    (ht : P.underlying t = some (.slice e)) (hinfo : (P.info? e).map (fun i => (i.zero, i.size, i.bytes)) = some (some (.int .u8 0), 1, 1))
    (A A2 : Option Addr) (n c m c2 : Nat) (xs ys : List Int) (hs : a.eval s = .slice A n c) (hx : a.eval x = .slice A2 m c2)
    (HX : (Kd.int .u8).C W A n xs) (HY : (Kd.int .u8).C W A2 m ys) (hn0 : 0 < n) (hm0 : 0 < m) (hfull : c < n + m) (hb : n + m ≤ 140737488355328) (HB : Below base w0 W) (hbase : base ≤ W.heap.size)
    (h : ∀ v1 w1, (Kd.int .u8).R e w1 base (fun _ => True) v1 (xs ++ ys) → Below base w0 w1 → Below W.heap.size W w1 → wpList P ops Q rest (a.put o.dst v1) w1) :
    wpList P ops Q (o :: rest) a W := by
  obtain ⟨i, hi, hzz⟩ := Option.map_eq_some_iff.1 hinfo
  simp only [Prod.mk.injEq] at hzz
  obtain ⟨hz0, hz1, hz2⟩ := hzz
  have hX := Kd.reads_of_C (enc := Value.int .u8) (d := (0 : Int)) (h1 := fun _ => rfl) HX
  have hY := Kd.reads_of_C (enc := Value.int .u8) (d := (0 : Int)) (h1 := fun _ => rfl) HY
  have hxl : xs.length = n := hX.1
  have hyl : ys.length = m := hY.1
  obtain ⟨ad, rfl, hxc⟩ := hX.2.2 hn0
  obtain ⟨ad2, rfl, hyc⟩ := hY.2.2 hm0
  have cells : ∀ (zs : List Int) (b : Addr), (∀ j, j < zs.length → W.cell? (b.add j) = some (.int .u8 (zs.getD j 0))) → ∀ j u, (encs (Value.int .u8) zs)[j]? = some u → W.cell? (b.add j) = some u := by
    intro zs b hc j u hu
    have hj : j < zs.length := by
      have := (List.getElem?_eq_some_iff.1 hu).1
      rwa [encs_length] at this
    rw [encs_get (enc := Value.int .u8) (d := (0 : Int)) zs j hj] at hu
    rw [← hu]
    exact hc j hj
  refine wpList_append_grows W hgd s x t ho e i (.int .u8 0) 1 1 ht hi hz0 hz1 hz2 rfl (by decide) (some ad) n c (encs (Value.int .u8) xs) hs (fun h => by cases h) (by rw [encs_length]; omega)
    (fun b hb2 => by injection hb2 with hb2; subst hb2; exact cells xs ad (by rw [hxl]; exact hxc)) ad2 m c2 (encs (Value.int .u8) ys) hx (by rw [encs_length]; omega) (cells ys ad2 (by rw [hyl]; exact hyc))
    (fun u hu => by obtain ⟨q, _, rfl⟩ := List.mem_map.1 hu; rfl) hfull (by unfold maxLen; omega) (by omega) ?_
  intro v1 w1 hown hg
  have hb1 : Below W.heap.size W w1 := ⟨hg.os, hg.tape, hg.output, hg.size, fun k hk => hg.block k hk (by simp)⟩
  refine h v1 w1 (Kd.R_lower (Kd.R_of_own (enc := Value.int .u8) (h1 := fun _ => rfl) (by rw [List.length_append, hxl, hyl, encs_append]; exact hown) (fun _ _ => trivial)) hbase) (HB.grown hg hbase (fun k hk => by cases hk)) hb1

end Go.Proofs.Ytjpkjakdhbnehaa.Q
end
section
-- Written by this session's own program (ext_print.py) over the kit's print.py, hand proofs among it. Not trusted: Lean checks it.
namespace Go.Proofs.Ytjpkjakdhbnehaa.Q
open Go.RowKit Go.Proofs.YtjpkjakdhbnehaaW.PrintWords Go.Proofs.YtjpkjakdhbnehaaW.PrintLast Go.Proofs.YtjpkjakdhbnehaaW.PrintMore
attribute [local go_sem] max2_int min2_int max_two min_two max_three min_three max_four min_four   -- for this text's walks alone
set_option linter.unusedVariables false
set_option linter.unusedSimpArgs false

-- EXT slices_Clone_byte_byte: function 28
/-! ### slices_Clone_byte_byte: function 28 -/
def slices_Clone_byte_byte.f (l0 : List Int) : Option (List Int) := if l0.length ≤ 140737488351232 then some l0 else none
set_option maxHeartbeats 8000000 in
set_option maxRecDepth 100000 in
theorem slices_Clone_byte_byte.calls (A0 : Option Addr) (c0 : Nat) (l0 : List Int) (r : List Int) (w : World) (hr0 : Kd.C (Kd.int .u8) w A0 l0.length l0) (hc0 : l0.length ≤ c0) (h : slices_Clone_byte_byte.f l0 = some r) :
    Calls Try.prog 28 #[.slice A0 l0.length c0] w fun e w' => ∃ v0_ : Value, e = .returned (v0_) ∧ Kd.R (Kd.int .u8) 5 w' w.heap.size (fun _ => True) v0_ r ∧ Below w.heap.size w w' := by
  have HB := Aside0.mk (Below.refl w.heap.size w)
  have HR0 := Aside0.mk hr0
  clear hr0 hc0
  unfold slices_Clone_byte_byte.f at h
  by_cases c1 : l0.length ≤ 140737488351232
  · rw [if_pos c1] at h
    obtain rfl := Option.some.inj h
    have HL := Aside0.mk c1
    clear c1 h
    cases A0 with
    | none =>
      have hnil : l0 = [] := by
        rcases Nat.eq_zero_or_pos l0.length with h0 | h0
        · exact List.eq_nil_of_length_eq_zero h0
        · obtain ⟨ad, h1, _⟩ := HR0.out.2.2 h0
          cases h1
      subst hnil
      clear HR0 HL
      have key : ∀ W : World, (binOp .eql 23 (.slice none 0 c0) (.slice none 0 0)).run Try.prog W = .ok (.bool true) W := fun W => Lib.run_eql_slice_nil W 23 5 none _ _ _ _ Try.underlying23
      go_enter Try.func28, Try.ntmps28
      go_wp2
      go_ret
      exact ⟨_, rfl, Kd.R_nil _ _ _ _ _, HB.out⟩
    | some ad =>
      have key : ∀ W : World, (binOp .eql 23 (.slice (some ad) l0.length c0) (.slice none 0 0)).run Try.prog W = .ok (.bool false) W := fun W => Lib.run_eql_slice_nil W 23 5 (some ad) _ _ _ _ Try.underlying23
      go_enter Try.func28, Try.ntmps28
      go_wp2_with (first | ((with_reducible refine gate_builtin (b := .append) (xs := #[.tmp 5, .tmp 6]) rfl ?_); at_builtin; refine Kd.R_append_row (Value.int .u8) (0 : Int) (h1 := fun _ => rfl) (w0 := w) w.heap.size rfl (.tmp 5) (.tmp 6) 23 5 (.int .u8 0) 1 rfl Try.underlying23 info5 rfl (by decide) _ ([] : List Int) l0 _ _ _ (fun _ => True) rfl rfl (fun _ _ => trivial) (ext_R_empty .u8 5 w) (Kd.C_alloc HR0.out _) (below_alloc HB.out _) (by simp) (by have := HL.out; simp; omega) ?_; intro v2 w2 ho2 hb2 hg2 hat2; clear hg2 hat2; have HO2 := Aside0.mk ho2; have HB2 := Aside0.mk hb2; clear ho2 hb2))
      go_ret
      exact ⟨_, rfl, HO2.out, HB2.out⟩
  · rw [if_neg c1] at h
    exact absurd h (by simp)

end Go.Proofs.Ytjpkjakdhbnehaa.Q
end
section
/- record.Changes: what it computes, and where it lies. -/
namespace Go.Proofs.Ytjpkjakdhbnehaa.Q
open Go.RowKit Go.Proofs.YtjpkjakdhbnehaaW.PrintWords Go.Proofs.YtjpkjakdhbnehaaW.PrintLast Go.Proofs.YtjpkjakdhbnehaaW.PrintMore
attribute [local go_sem] max2_int min2_int max_two min_two max_three min_three max_four min_four
set_option linter.unusedVariables false
set_option linter.unusedSimpArgs false
def chgStep (s : List S25 × List (List S25)) (r : S30) : List S25 × List (List S25) := if r.f1 = true then ([], s.2 ++ [s.1 ++ [r.f0]]) else (s.1 ++ [r.f0], s.2)
def chgAt (l : List S30) (i : Nat) : List S25 × List (List S25) := (l.take i).foldl chgStep ([], [])
def chgV (l : List S30) : List (List S25) × Int := if 0 < l.length ∧ (rd_T30 l ((l.length : Int) - 1)).f1 = false then ([], 11) else ((chgAt l l.length).2, 0)
def chgOk (l : List S30) : Bool := decide (l.length ≤ 100000) && l.all fun x => decide (x.f0.f1.length ≤ 100000)
def xsAt (l : List S30) (i : Nat) : List S25 := (l.take i).map (·.f0)
theorem rd30_nat (l : List S30) (i : Nat) (hi : i < l.length) : rd_T30 l (i : Int) = l[i] := by
  unfold rd_T30
  rw [Int.toNat_natCast, List.getD_eq_getElem?_getD, List.getElem?_eq_getElem hi]
  rfl
theorem chgAt_succ (l : List S30) (i : Nat) (hi : i < l.length) : chgAt l (i + 1) = chgStep (chgAt l i) (rd_T30 l (i : Int)) := by
  unfold chgAt
  rw [List.take_succ_eq_append_getElem hi, List.foldl_append, rd30_nat l i hi]
  rfl
theorem xsAt_succ (l : List S30) (i : Nat) (hi : i < l.length) : xsAt l (i + 1) = xsAt l i ++ [(rd_T30 l (i : Int)).f0] := by
  unfold xsAt
  rw [List.take_succ_eq_append_getElem hi, List.map_append, rd30_nat l i hi]
  rfl
theorem xsAt_length (l : List S30) (i : Nat) (hi : i ≤ l.length) : (xsAt l i).length = i := by
  unfold xsAt
  rw [List.length_map, List.length_take]
  omega
def OKC (w : World) (v4 v5 : Value) (k : Nat) : Prop := w.heap.size ≤ k ∧ some k ≠ v4.ownBlock ∧ some k ≠ v5.ownBlock
def VR (w w' : World) (v4 v5 : Value) (n : Nat) (ys : List S25) (c : List Value) : Prop :=
  ∃ g f cp, c = [.slice (some ⟨g, f * 2, none⟩) ys.length cp] ∧ ys.length ≤ cp ∧ ys.length ≤ 9223372036854775807 ∧ w.heap.size ≤ g ∧ g < w'.heap.size ∧ some g ≠ v5.ownBlock ∧ (v4.ownBlock = some g → f + ys.length ≤ n) ∧ VAt k25 w' (OKC w v4 v5) g f ys
structure CI (w w' : World) (v4 v5 : Value) (xs : List S25) (outs : List (List S25)) : Prop where
  below : Below w.heap.size w w'
  own : ∃ inner, w'.ownsRow w.heap.size 25 2 v4 xs.length inner
  row : ∀ g, v4.ownBlock = some g → VAt k25 w' (OKC w v4 v5) g 0 xs
  outr : ∃ rows : List (List Value), rows.length = outs.length ∧ (Kd.raw 1).R 27 w' w.heap.size (fun _ => True) v5 rows ∧ ∀ (j : Nat) (ys : List S25) (c : List Value), outs[j]? = some ys → rows[j]? = some c → VR w w' v4 v5 xs.length ys c
theorem own_below {w w1 : World} {base : Nat} {e : TypeId} {size n : Nat} {v : Value} {xs : List Value} (h : w.ownsRow base e size v n xs) (hb : Below w.heap.size w w1) : w1.ownsRow base e size v n xs := own_move h (fun k hk => hb.block k (own_lt h k hk))
theorem VR.go {w w1 w2 : World} {v4 v5 : Value} {n : Nat} {ys : List S25} {c : List Value} (h : VR w w1 v4 v5 n ys c) (hb : Below w1.heap.size w1 w2) : VR w w2 v4 v5 n ys c := by
  obtain ⟨g, f, cp, h1, h2, h3, h4, h5, h6, h7, h8⟩ := h
  exact ⟨g, f, cp, h1, h2, h3, h4, Nat.lt_of_lt_of_le h5 hb.size, h6, h7, h8.below hb⟩
theorem CI.go {w w1 w2 : World} {v4 v5 : Value} {xs : List S25} {outs : List (List S25)} (h : CI w w1 v4 v5 xs outs) (hb : Below w1.heap.size w1 w2) : CI w w2 v4 v5 xs outs := by
  obtain ⟨inner, ho⟩ := h.own
  obtain ⟨rows, hl, hR, hv⟩ := h.outr
  exact ⟨h.below.trans (hb.mono h.below.size), ⟨inner, own_below ho hb⟩, fun g hg => (h.row g hg).below hb, rows, hl, Kd.R_below hR hb, fun j ys c h1 h2 => (hv j ys c h1 h2).go hb⟩
theorem CI.start (w : World) : CI w w (.slice none 0 0) (.slice none 0 0) [] [] :=
  ⟨Below.refl _ _, ⟨[], World.ownsRow_nil w _ _ 2⟩, fun g hg => by simp [Value.ownBlock] at hg, [], rfl, Kd.R_nil _ _ _ _ _, fun j ys c h1 h2 => by simp at h1⟩
theorem own_apart {w : World} {base base' e e' s s' n n' : Nat} {v v' : Value} {xs xs' : List Value} (h : w.ownsRow base e s v n xs) (h' : w.ownsRow base' e' s' v' n' xs') (hne : e ≠ e') (k : Nat) (hk : v.ownBlock = some k) : some k ≠ v'.ownBlock := by
  intro he
  obtain ⟨c1, h1⟩ := own_typed h k hk
  obtain ⟨c2, h2⟩ := own_typed h' k he.symm
  rw [h1] at h2
  injection h2 with h2
  injection h2 with _ h2
  exact hne h2
/-- One image more. -/
theorem CI.all {w W w1 : World} {v4 v5 v1 : Value} {xs : List S25} {outs : List (List S25)} {inner ys : List Value} {x : S25} (h : CI w W v4 v5 xs outs) (ho : W.ownsRow w.heap.size 25 2 v4 xs.length inner) (ho1 : w1.ownsRow w.heap.size 25 2 v1 (xs.length + 1) (inner ++ ys)) (hb1 : Below w.heap.size w w1)
    (hg : W.grownBy w1 v4.ownBlock) (hat : v1.ownBlock = v4.ownBlock ∨ (∃ b, v1.ownBlock = some b ∧ W.heap.size ≤ b) ∧ ∀ k, k < W.heap.size → w1.heap[k]? = W.heap[k]?) (hys : ys.length = 2) (hx : Kd.FK k25 W (OKC w v4 v5) x ys) : CI w w1 v1 v5 (xs ++ [x]) outs := by
  obtain ⟨rows, hl, hR, hv⟩ := h.outr
  obtain ⟨inner5, ho5⟩ := Kd.R_own hR
  have hsz := hg.size
  -- what is ok, moved
  have hok : ∀ q, OKC w v4 v5 q → q < W.heap.size → OKC w v1 v5 q := by
    rintro q ⟨h1, h2, h3⟩ hq
    refine ⟨h1, ?_, h3⟩
    rcases hat with hat | ⟨⟨b, hb, hle⟩, _⟩
    · rw [hat]; exact h2
    · rw [hb]
      intro he
      injection he with he
      omega
  have hmv : ∀ q, OKC w v1 v5 q → q < W.heap.size → w1.heap[q]? = W.heap[q]? := by
    rintro q ⟨h1, h2, h3⟩ hq
    rcases hat with hat | ⟨_, hall⟩
    · exact hg.block q hq (by rw [← hat]; exact h2)
    · exact hall q hq
  have ho5lt : ∀ k, v5.ownBlock = some k → some k ≠ v4.ownBlock := fun k hk => own_apart ho5 ho (by decide) k hk
  refine ⟨hb1, ⟨inner ++ ys, by rw [List.length_append, List.length_singleton]; exact ho1⟩, fun g hgv => ?_, rows, hl, ?_, fun j zs c h1 h2 => ?_⟩
  · -- the row itself
    have hnew : EAt k25 w1 (OKC w v1 v5) g (0 + xs.length) x := by
      rw [Nat.zero_add]
      refine ⟨ys, hys, fun j u hj => own_new ho.1 ho1 hgv j u hj, ?_⟩
      exact Kd.FK_step (Kd.FK_mono (Kd.FK_bound hx) (fun q hq => hok q hq.1 hq.2)) hmv
    refine VAt.snoc ?_ hnew
    intro m y hy
    have hml : m < xs.length := (List.getElem?_eq_some_iff.1 hy).1
    rcases hat with hat | ⟨⟨b, hb, hle⟩, hall⟩
    · rw [hat] at hgv
      exact ((h.row g hgv).mono hok).near (n := xs.length) (by omega) (own_cells ho ho1 hgv (hat.trans hgv)) hmv m y hy
    · -- a new block: its cells are those of the old one
      cases hv4 : v4.ownBlock with
      | none =>
        exfalso
        rcases ho.2 with ⟨rfl, h0⟩ | ⟨g0, cap, cur, rfl, _⟩
        · omega
        · simp [Value.ownBlock] at hv4
      | some g0 =>
        obtain ⟨c, e1, e2, e3⟩ := (h.row g0 hv4).mono hok m y hy
        refine ⟨c, e1, fun j u hj => ?_, Kd.FK_step e3 hmv⟩
        have e4 := e2 j u hj
        have hjl : j < 2 := by have := (List.getElem?_eq_some_iff.1 hj).1; rw [e1] at this; exact this
        have hil : (0 + m) * 2 + j < inner.length := by rw [ho.1]; omega
        have e5 := own_cell_of ho hv4 ((0 + m) * 2 + j) _ (List.getElem?_eq_getElem hil)
        have e6 : u = inner[(0 + m) * 2 + j] := Option.some.inj (e4.symm.trans e5)
        have e7 := own_cell_of ho1 hgv ((0 + m) * 2 + j) u (by rw [List.getElem?_append_left hil, List.getElem?_eq_getElem hil, e6])
        exact e7
  · exact Kd.R_mono (Kd.R_step (Kd.raw_tight hR) (fun k hk hlt => hg.block k hlt (ho5lt k hk.symm))) (fun _ _ => trivial)
  · obtain ⟨g, f, cp, c1, c2, c3, c4, c5, c6, c7, c8⟩ := hv j zs c h1 h2
    refine ⟨g, f, cp, c1, c2, c3, c4, Nat.lt_of_lt_of_le c5 hsz, c6, fun hgv => ?_, ?_⟩
    · rcases hat with hat | ⟨⟨b, hb, hle⟩, hall⟩
      · have := c7 (hat ▸ hgv)
        rw [List.length_append]
        omega
      · rw [hb] at hgv
        injection hgv with hgv
        omega
    · by_cases hgv : v4.ownBlock = some g
      · rcases hat with hat | ⟨⟨b, hb, hle⟩, hall⟩
        · exact (c8.mono hok).near (n := xs.length) (c7 hgv) (own_cells ho ho1 hgv (hat.trans hgv)) hmv
        · exact (c8.mono hok).far (hall g c5) hmv
      · exact (c8.mono hok).far (hg.block g c5 (fun he => hgv he.symm)) hmv
/-- One change more. -/
theorem CI.out {w W w1 : World} {v4 v5 v1 : Value} {xs : List S25} {outs : List (List S25)} {rows : List (List Value)} {ys : List S25} {c : List Value} (h : CI w W v4 v5 xs outs) (hl : rows.length = outs.length) (hv : ∀ (j : Nat) (ys : List S25) (c : List Value), outs[j]? = some ys → rows[j]? = some c → VR w W v4 v5 xs.length ys c) (hR : (Kd.raw 1).R 27 W w.heap.size (fun _ => True) v5 rows)
    (hR1 : (Kd.raw 1).R 27 w1 w.heap.size (fun _ => True) v1 (rows ++ [c])) (hb1 : Below w.heap.size w w1) (hg : W.grownBy w1 v5.ownBlock) (hat : v1.ownBlock = v5.ownBlock ∨ ∃ b, v1.ownBlock = some b ∧ W.heap.size ≤ b) (hx : VR w W v4 v5 xs.length ys c) : CI w w1 v4 v1 xs (outs ++ [ys]) := by
  obtain ⟨inner, ho⟩ := h.own
  obtain ⟨inner5, ho5⟩ := Kd.R_own hR
  have hsz := hg.size
  have hmv : ∀ q, (OKC w v4 v5 q ∧ q < W.heap.size) → q < W.heap.size → w1.heap[q]? = W.heap[q]? := fun q hq hlt => hg.block q hlt hq.1.2.2
  have hne1 : ∀ q, q < W.heap.size → some q ≠ v5.ownBlock → some q ≠ v1.ownBlock := by
    intro q hq h5
    rcases hat with hat | ⟨b, hb, hle⟩
    · rw [hat]; exact h5
    · rw [hb]
      intro he
      injection he with he
      omega
  have hok : ∀ q, (OKC w v4 v5 q ∧ q < W.heap.size) → OKC w v4 v1 q := fun q hq => ⟨hq.1.1, hq.1.2.1, hne1 q hq.2 hq.1.2.2⟩
  have hfar : ∀ {g f : Nat} {zs : List S25}, VAt k25 W (OKC w v4 v5) g f zs → w1.heap[g]? = W.heap[g]? → VAt k25 w1 (OKC w v4 v1) g f zs := fun hz hgg => ((hz.mono (ok' := fun q => OKC w v4 v5 q ∧ q < W.heap.size) (fun q h1 h2 => ⟨h1, h2⟩)).far hgg hmv).mono (fun q hq _ => hok q hq)
  have h4 : ∀ k, v4.ownBlock = some k → w1.heap[k]? = W.heap[k]? := fun k hk => hg.block k (own_lt ho k hk) (own_apart ho ho5 (by decide) k hk)
  have hVR : ∀ {zs : List S25} {c' : List Value}, VR w W v4 v5 xs.length zs c' → VR w w1 v4 v1 xs.length zs c' := by
    rintro zs c' ⟨g, f, cp, c1, c2, c3, c4, c5, c6, c7, c8⟩
    exact ⟨g, f, cp, c1, c2, c3, c4, Nat.lt_of_lt_of_le c5 hsz, hne1 g c5 c6, c7, hfar c8 (hg.block g c5 c6)⟩
  refine ⟨hb1, ⟨inner, own_move ho h4⟩, fun g hgv => hfar (h.row g hgv) (h4 g hgv), rows ++ [c], by simp [hl], hR1, fun j zs c' h1 h2 => ?_⟩
  rcases Nat.lt_trichotomy j outs.length with hj | hj | hj
  · rw [List.getElem?_append_left hj] at h1
    rw [List.getElem?_append_left (by omega)] at h2
    exact hVR (hv j zs c' h1 h2)
  · subst hj
    rw [List.getElem?_append_right (Nat.le_refl _), Nat.sub_self] at h1
    rw [List.getElem?_append_right (by omega), hl, Nat.sub_self] at h2
    simp at h1 h2
    subst h1
    subst h2
    exact hVR hx
  · rw [List.getElem?_append_right (by omega)] at h1
    have := (List.getElem?_eq_some_iff.1 h1).1
    simp at this
    omega
/-- What is told of the result. -/
theorem CI.N {w w' : World} {v4 v5 : Value} {xs : List S25} {outs : List (List S25)} (h : CI w w' v4 v5 xs outs) : Kd.N (Kd.slice 25 k25) 27 w' w.heap.size (fun k => True ∧ w.heap.size ≤ k ∧ True) v5 outs := by
  obtain ⟨rows, hl, hR, hv⟩ := h.outr
  refine ⟨fun k hk => ⟨trivial, Kd.R_base hR k hk, trivial⟩, rows, hl, Kd.raw_tight hR, fun j ys c h1 h2 => ?_⟩
  obtain ⟨g, f, cp, rfl, c2, c3, c4, c5, c6, c7, c8⟩ := hv j ys c h1 h2
  exact (c8.mono (fun q hq _ => ⟨⟨trivial, hq.1, trivial⟩, hq.2.2⟩)).FK c3 ⟨⟨trivial, c4, trivial⟩, c6⟩ c2
/-- A cut of the images told so far. -/
theorem CI.cut {w w' : World} {v5 : Value} {g n cap : Nat} {xs : List S25} {outs : List (List S25)} (h : CI w w' (.slice (some ⟨g, 0, none⟩) n cap) v5 xs outs) (f c : Nat) (hf : f ≤ xs.length) (hc : xs.length - f ≤ c) (hm : xs.length ≤ 9223372036854775807) :
    VR w w' (.slice (some ⟨g, 0, none⟩) n cap) v5 xs.length (xs.drop f) [.slice (some ⟨g, f * 2, none⟩) (xs.length - f) c] := by
  obtain ⟨inner, ho⟩ := h.own
  obtain ⟨rows, hl, hR, hv⟩ := h.outr
  obtain ⟨inner5, ho5⟩ := Kd.R_own hR
  have hgb : (Value.slice (some ⟨g, 0, none⟩) n cap).ownBlock = some g := by simp [Value.ownBlock]
  have hr := h.row g hgb
  have hs := hr.seg f xs.length hf
  rw [List.take_of_length_le (Nat.le_refl _), Nat.zero_add] at hs
  refine ⟨g, f, c, by rw [List.length_drop], by rw [List.length_drop]; exact hc, by rw [List.length_drop]; omega, own_base ho g hgb, own_lt ho g hgb, own_apart ho ho5 (by decide) g hgb, fun _ => by rw [List.length_drop]; omega, hs⟩
end Go.Proofs.Ytjpkjakdhbnehaa.Q
end
section
/- record.Changes: its walk. -/
namespace Go.Proofs.Ytjpkjakdhbnehaa.Q
open Go.RowKit Go.Proofs.YtjpkjakdhbnehaaW.PrintWords Go.Proofs.YtjpkjakdhbnehaaW.PrintLast Go.Proofs.YtjpkjakdhbnehaaW.PrintMore
attribute [local go_sem] max2_int min2_int max_two min_two max_three min_three max_four min_four
set_option linter.unusedVariables false
set_option linter.unusedSimpArgs false
theorem CI.len {w w' : World} {v4 v5 : Value} {xs : List S25} {outs : List (List S25)} (h : CI w w' v4 v5 xs outs) : (∃ A c, v4 = .slice A xs.length c) ∧ ∃ A c, v5 = .slice A outs.length c := by
  obtain ⟨inner, ho⟩ := h.own
  obtain ⟨rows, hl, hR, _⟩ := h.outr
  refine ⟨?_, ?_⟩
  · rcases ho.2 with ⟨rfl, h0⟩ | ⟨g, cap, cur, rfl, _⟩
    · exact ⟨none, 0, by rw [h0]⟩
    · exact ⟨_, _, rfl⟩
  · obtain ⟨A, c, he⟩ := Kd.R_slice hR
    exact ⟨A, c, by rw [he, hl]⟩
theorem fst_drop (l : List S30) (i f : Nat) (hi : i < l.length) (hf : f ≤ i) (h : (chgAt l i).1 = (xsAt l i).drop f) : (chgAt l (i + 1)).1 = (xsAt l (i + 1)).drop (if (rd_T30 l (i : Int)).f1 = true then i + 1 else f) := by
  rw [chgAt_succ l i hi]
  unfold chgStep
  have hl := xsAt_length l (i + 1) (by omega)
  by_cases c : (rd_T30 l (i : Int)).f1 = true
  · rw [if_pos c, if_pos c, List.drop_of_length_le (by omega)]
  · rw [if_neg c, if_neg c]
    show (chgAt l i).1 ++ [_] = _
    rw [h, xsAt_succ l i hi, List.drop_append_of_le_length (by rw [xsAt_length l i (by omega)]; exact hf)]
theorem snd_last (l : List S30) (i f : Nat) (hi : i < l.length) (hf : f ≤ i) (h : (chgAt l i).1 = (xsAt l i).drop f) (c : (rd_T30 l (i : Int)).f1 = true) : (chgAt l (i + 1)).2 = (chgAt l i).2 ++ [(xsAt l (i + 1)).drop f] := by
  rw [chgAt_succ l i hi]
  unfold chgStep
  rw [if_pos c]
  show _ ++ [_] = _
  rw [h, xsAt_succ l i hi, List.drop_append_of_le_length (by rw [xsAt_length l i (by omega)]; exact hf)]
theorem snd_more (l : List S30) (i : Nat) (hi : i < l.length) (c : (rd_T30 l (i : Int)).f1 = false) : (chgAt l (i + 1)).2 = (chgAt l i).2 := by
  rw [chgAt_succ l i hi]
  unfold chgStep
  rw [if_neg (by rw [c]; decide)]
theorem outs_length (l : List S30) : ∀ i, i ≤ l.length → (chgAt l i).2.length ≤ i
  | 0, _ => by simp [chgAt]
  | i + 1, h => by
    have ih := outs_length l i (by omega)
    rw [chgAt_succ l i (by omega)]
    unfold chgStep
    by_cases c : (rd_T30 l (i : Int)).f1 = true
    · rw [if_pos c, List.length_append, List.length_singleton]; omega
    · rw [if_neg c]
      show (chgAt l i).2.length ≤ i + 1
      omega
theorem zero30 : (Try.prog.info? 30).map (·.zero) = some (some (.agg #[.int .u64 0, .slice none 0 0, .bool false])) := by kernel_rfl
theorem infosz30 : (Try.prog.info? 30).map (·.size) = some 3 := by kernel_rfl
theorem infosz23 : (Try.prog.info? 23).map (·.size) = some 1 := by kernel_rfl
theorem st30_one {b : Int} {A : Option Addr} {n c : Nat} {t : Bool} : ∀ u ∈ (#[Value.int .u64 b, .slice A n c, .bool t] : Array Value).toList, u.oneCell' = true := by
  intro u hu
  simp only [List.mem_cons, List.not_mem_nil, or_false] at hu
  rcases hu with rfl | rfl | rfl <;> rfl
theorem st25_one {b : Int} {A : Option Addr} {n c : Nat} : ∀ u ∈ ([Value.int .u64 b, .slice A n c] : List Value), u.oneCell' = true := by
  intro u hu
  simp only [List.mem_cons, List.not_mem_nil, or_false] at hu
  rcases hu with rfl | rfl <;> rfl
theorem own_form {w : World} {base : Nat} {e size n : Nat} {v : Value} {xs : List Value} (h : w.ownsRow base e size v (n + 1) xs) : ∃ g cap, v = .slice (some ⟨g, 0, none⟩) (n + 1) cap ∧ n + 1 ≤ cap := by
  rcases h.2 with ⟨_, h0⟩ | ⟨g, cap, cur, rfl, _, _, hc, _⟩
  · omega
  · exact ⟨g, cap, rfl, hc⟩
/-- The new element: its bytes lie in new memory. -/
theorem fkNew {w W W1 : World} {v4 v5 : Value} {xs : List S25} {outs : List (List S25)} {A : Option Addr} {c g8 : Nat} {x : S25} (h : Kd.R (Kd.int .u8) 5 W1 W.heap.size (fun k => W.heap.size ≤ k ∧ k ≠ g8) (.slice A x.f1.length c) x.f1) (hC : CI w W v4 v5 xs outs) : Kd.FK k25 W1 (OKC w v4 v5) x [.int .u64 x.f0, .slice A x.f1.length c] := by
  obtain ⟨inner, ho⟩ := hC.own
  obtain ⟨rows, hl, hR, _⟩ := hC.outr
  refine Kd.FK_of_M (base := W.heap.size) (k25_mkM W1 W.heap.size _ x (Kd.R_mono h (fun k hk => ⟨Nat.le_trans hC.below.size hk.1, fun he => ?_, fun he => ?_⟩)))
  · have := own_lt ho k he.symm; have := hk.1; omega
  · have := Kd.R_lt hR k he.symm; have := hk.1; omega
theorem info_imgs : (Try.prog.info? 27).map (fun i => (i.zero, i.size, i.bytes)) = some (some (.slice none 0 0), 1, 24) := by kernel_rfl
theorem one_slice {A : Option Addr} {n c : Nat} : ∀ u ∈ ([.slice A n c] : List Value), u.oneCell' = true := by
  intro u hu
  rw [List.mem_singleton.1 hu]
  rfl
set_option maxHeartbeats 4000000 in
set_option maxRecDepth 100000 in
theorem chg.calls (A0 : Option Addr) (c0 : Nat) (l0 : List S30) (w : World) (hr0 : Kd.C k30 w A0 l0.length l0) (hc0 : l0.length ≤ c0) (hok : chgOk l0 = true) (r1 : List (List S25)) (r2 : Int) (hv : chgV l0 = (r1, r2)) :
    Calls Try.prog 18 #[.slice A0 l0.length c0] w fun e w' => ∃ v0_ : Value, e = .returned (.tuple #[v0_, .int .i64 r2]) ∧ Kd.N (Kd.slice 25 k25) 27 w' w.heap.size (fun k => True ∧ w.heap.size ≤ k ∧ True) v0_ r1 ∧ Below w.heap.size w w' := by
  obtain ⟨n, hn⟩ : ∃ n, l0.length = n := ⟨_, rfl⟩
  have HR0 := Aside0.mk hr0
  have HC0 := Aside0.mk hc0
  have HOK := Aside0.mk (show n ≤ 100000 ∧ ∀ i : Nat, i < n → (rd_T30 l0 (i : Int)).f0.f1.length ≤ 100000 from by
    unfold chgOk at hok
    rw [Bool.and_eq_true, decide_eq_true_eq, List.all_eq_true] at hok
    refine ⟨by omega, fun i hi => ?_⟩
    rw [rd30_nat l0 i (by omega)]
    simpa using hok.2 _ (List.getElem_mem _))
  have HN := Aside0.mk hn
  have HCI := Aside0.mk (CI.start w)
  have HX0 := Aside0.mk (show xsAt l0 0 = [] ∧ chgAt l0 0 = ([], []) from ⟨rfl, rfl⟩)
  rw [hn]
  have HVV := Aside0.mk hv
  clear hr0 hc0 hok hv
  go_enter Try.func18, Try.ntmps18
  go_upto_region 1 with (fail)
  go_cut [21] (fun v21 wc => ∃ b : Bool, v21 = .bool b ∧ Aside0 (chgV l0 = if b = true then ([], 11) else ((chgAt l0 n).2, 0)) ∧ Aside0 (CI w wc (.slice none 0 0) (.slice none 0 0) [] []))
  case first =>
    by_cases h0 : n = 0
    · subst h0
      have HV := Aside0.mk (show chgV l0 = ([], 0) from by
        unfold chgV
        rw [if_neg (by rw [HN.out]; rintro ⟨h, _⟩; omega), HN.out]
        rfl)
      clear hn
      go_wp2
      go_meet
      case rel => exact ⟨false, rfl, HV, HCI⟩
    · have hpos : 0 < n := by omega
      obtain ⟨z, hz⟩ : ∃ z, wrap64 ((n : Int) - 1) = z := ⟨_, rfl⟩
      have hzn : z = (n : Int) - 1 := by rw [← hz]; have := HOK.out.1; unfold wrap64; omega
      obtain ⟨ad, A1, c1, e0, hx0, hx1, hx2, hl1, hi1⟩ := at_T30 HR0.out z (by omega) (by rw [HN.out]; omega)
      clear hx0 hx1 hl1 hi1
      subst e0
      have hlast : (rd_T30 l0 ((l0.length : Int) - 1)) = rd_T30 l0 z := by rw [HN.out, hzn]
      have HV := Aside0.mk (show chgV l0 = if (rd_T30 l0 z).f1 = false then ([], 11) else ((chgAt l0 n).2, 0) from by
        unfold chgV
        rw [hlast, HN.out]
        by_cases c : (rd_T30 l0 z).f1 = false
        · rw [if_pos ⟨by omega, c⟩, if_pos c]
        · rw [if_neg (fun h => c h.2), if_neg c])
      obtain ⟨b, hb⟩ : ∃ b, (rd_T30 l0 z).f1 = b := ⟨_, rfl⟩
      rw [hb] at hx2
      have HB := Aside0.mk hb
      have p1 : (0 ≤ wrap64 ((n : Int) - 1)) = True := eq_true (by rw [hz]; omega)
      have q1 : (wrap64 ((n : Int) - 1) < (n : Int)) = True := eq_true (by rw [hz]; omega)
      have g1 : ((n : Int) > 0) = True := eq_true (by omega)
      subst hz
      clear hlast hb hzn h0 hn
      go_wp2
      go_meet
      case rel => exact ⟨!b, rfl, ⟨by rw [HV.out, HB.out]; cases b <;> rfl⟩, HCI⟩
  case rest =>
    clear HCI
    obtain ⟨b, rfl, HV, HCI⟩ := hcut
    cases b with
    | true =>
      have hv := HV.out
      rw [if_pos rfl, HVV.out] at hv
      obtain ⟨rfl, rfl⟩ := Prod.mk.inj hv
      clear hv HV HVV
      go_wp2
      go_ret2
      exact ⟨_, rfl, Kd.N_nil _ _ _ _ _, HCI.out.below⟩
    | false =>
      have hv := HV.out
      rw [if_neg (by decide), HVV.out] at hv
      obtain ⟨rfl, rfl⟩ := Prod.mk.inj hv
      clear hv HV HVV
      go_wp2
      go_loopg [4, 5, 6, 24] n (fun gk v4 v5 v6 v24 w' => ∃ i f : Nat, v24 = .int .i64 i ∧ v6 = .int .i64 f ∧ Aside0 (gk + i = n ∧ f ≤ i ∧ (chgAt l0 i).1 = (xsAt l0 i).drop f) ∧ Aside0 (CI w w' v4 v5 (xsAt l0 i) (chgAt l0 i).2))
      case atStart => exact ⟨0, 0, rfl, rfl, ⟨by omega, by omega, by rw [HX0.out.1, HX0.out.2]; rfl⟩, ⟨by rw [HX0.out.1, HX0.out.2]; exact HCI.out⟩⟩
      case round =>
        clear HCI
        obtain ⟨i, f, rfl, rfl, HI, HCI⟩ := hrel
        obtain ⟨⟨A4, c4, e4⟩, A5, c5, e5⟩ := HCI.out.len
        rw [xsAt_length l0 i (by have := HI.out.1; rw [hn]; omega)] at e4
        subst e4
        subst e5
        by_cases hi : i < n
        · have hil : (i : Int) < (n : Int) := by omega
          have hb := (HI.out)
          obtain ⟨ad, A1, c1, e0, hx0, hx1, hx2, hl1, hi1⟩ := at_T30 HR0.out (i : Int) (by omega) (by rw [HN.out]; omega)
          subst e0
          replace hx0 := (HCI.out.below.cell (World.block_lt_of_cell? w _ hx0)).trans hx0
          replace hx1 := (HCI.out.below.cell (World.block_lt_of_cell? w _ hx1)).trans hx1
          replace hx2 := (HCI.out.below.cell (World.block_lt_of_cell? w _ hx2)).trans hx2
          have HLI := Aside0.mk hi
          have HXL := Aside0.mk (xsAt_length l0 i (by rw [hn]; omega))
          obtain ⟨x, hx⟩ : ∃ x, rd_T30 l0 (i : Int) = x := ⟨_, rfl⟩
          rw [hx] at hx0 hx1 hx2 hl1 hi1
          rw [Int.toNat_natCast] at hx0 hx1 hx2
          have HX := Aside0.mk hx
          have HR1 := Aside0.mk (Kd.C_below hi1 HCI.out.below)
          have HL1 := Aside0.mk hl1
          have HSZ := Aside0.mk (show x.f0.f1.length ≤ 100000 from by rw [← hx]; exact HOK.out.2 i hi)
          clear hl1 hi1 hx hb hi hn
          go_upto_region 11 with (first | ((with_reducible refine gate_dst (N := 8) rfl ?_); refine wl_alloc rfl 30 rfl _ zero30 ?_; intro g8 hg w2 hblk hb hsz; have HG8 := Aside0.mk (show wr.heap.size ≤ g8 by rw [hg]; exact Nat.le_refl _); have HK8 := Aside0.mk (show w2.heap[g8]? = some (.cells #[.int .u64 0, .slice none 0 0, .bool false] 30 (0, 0)) from hblk); have HBW := Aside0.mk hb; clear hg hblk hb hsz) | ((with_reducible refine gate_store (t := 30) (p := 8) rfl ?_); refine wl_store_all rfl rfl 30 _ _ rfl g8 rfl _ _ HK8.out (.agg #[.int .u64 x.f0.f0, .slice A1 x.f0.f1.length c1, .bool x.f1]) rfl rfl st30_one infosz30 ?_; intro w3 hk8 hg8 hs8; have n0_ := Aside0.mk (show w3.heap[g8]? = some (.cells #[.int .u64 x.f0.f0, .slice A1 x.f0.f1.length c1, .bool x.f1] 30 (0, 0)) from hk8); have n1_ := Aside0.mk (grown_below HBW.out hg8 HBW.out.size HG8.out); clear hk8 hg8 hs8 HK8 HBW; have HK8 := n0_; have HBW := n1_; clear n0_ n1_; have hc8_1 : w3.cell? ⟨g8, 1, none⟩ = some (.slice A1 x.f0.f1.length c1) := (blk_cell HK8.out 1).trans rfl) | (go_at_call 28; refine (slices_Clone_byte_byte.calls A1 c1 x.f0.f1 x.f0.f1 _ (Kd.C_below HR1.out HBW.out) HL1.out (by unfold slices_Clone_byte_byte.f; rw [if_pos (by have := HSZ.out; omega)])).mono ?_; rintro e w4 ⟨v9, rfl, ho, hb⟩; have n0_ := Aside0.mk (blk_below HK8.out hb); have n1_ := Aside0.mk (HBW.out.trans (hb.mono HBW.out.size)); have HO9 := Aside0.mk (show Kd.R (Kd.int .u8) 5 w4 wr.heap.size (fun k => wr.heap.size ≤ k ∧ k ≠ g8) v9 x.f0.f1 from Kd.R_lower (Kd.R_mono (Kd.R_bound ho) (fun k hk => ⟨Nat.le_trans HBW.out.size hk.2.1, fun he => by have := blk_lt HK8.out; have := hk.2.1; omega⟩)) HBW.out.size); clear ho hb HK8 HBW hc8_1; have HK8 := n0_; have HBW := n1_; clear n0_ n1_; obtain ⟨A9, c9, e9⟩ := Kd.R_slice HO9.out; subst e9) | ((with_reducible refine gate_store (t := 23) (p := 34) rfl ?_); refine wl_store_cell rfl rfl 23 _ _ rfl g8 1 rfl _ 30 HK8.out (.slice A9 x.f0.f1.length c9) rfl rfl ?side1 rfl infosz23 ?_; (case side1 => show 1 < 3; decide); intro w7 hk7 hg7 hs7; have n0_ := Aside0.mk (show w7.heap[g8]? = some (.cells #[.int .u64 x.f0.f0, .slice A9 x.f0.f1.length c9, .bool x.f1] 30 (0, 0)) from hk7); have n1_ := Aside0.mk (grown_below HBW.out hg7 HBW.out.size HG8.out); have n2_ := Aside0.mk (Kd.R_grown HO9.out hg7 (fun k hk he => hk.2 (by injection he))); clear hk7 hg7 hs7 HK8 HBW HO9; have HK8 := n0_; have HBW := n1_; have HO9 := n2_; clear n0_ n1_ n2_; have hc8_0 : w7.cell? ⟨g8, 0, none⟩ = some (.int .u64 x.f0.f0) := (blk_cell HK8.out 0).trans rfl; have hc8_1 : w7.cell? ⟨g8, 1, none⟩ = some (.slice A9 x.f0.f1.length c9) := (blk_cell HK8.out 1).trans rfl) | ((with_reducible refine gate_builtin (b := .append) (xs := #[.tmp 35, .tmp 38]) rfl ?_); at_builtin; obtain ⟨inner, hown⟩ := (HCI.out.go HBW.out).own; rw [HXL.out] at hown; refine wl_append_full (w0 := w) w.heap.size rfl (.tmp 35) (.tmp 38) 27 25 (.agg #[.int .u64 0, .slice none 0 0]) 2 32 rfl Try.underlying27 info25 rfl (by decide) (by decide) _ i inner [.int .u64 x.f0.f0, .slice A9 x.f0.f1.length c9] rfl rfl rfl st25_one hown (HCI.out.go HBW.out).below (HCI.out.go HBW.out).below.size (by have := HLI.out; have := HOK.out.1; omega) ?_; intro v1 w8 ho1 hb1 hg1 hat1; have n0_ := Aside0.mk ((HCI.out.go HBW.out).all (by rw [HXL.out]; exact hown) (by rw [HXL.out]; exact ho1) hb1 hg1 hat1 rfl (fkNew HO9.out HCI.out)); have n1_ := Aside0.mk (blk_grown HK8.out hg1 (fun he => by have := own_lt HCI.out.own.choose_spec g8 he.symm; have := HG8.out; omega)); have n2_ := own_form ho1; clear hown ho1 hb1 hg1 hat1 hc8_0 hc8_1 HBW HO9 HCI HK8; have HCI := n0_; have HK8 := n1_; obtain ⟨g4, cap4, e4, hcap4⟩ := n2_; subst e4; have HCAP := Aside0.mk hcap4; clear n0_ n1_ hcap4; have hc8_2 : w8.cell? ⟨g8, 2, none⟩ = some (.bool x.f1) := (blk_cell HK8.out 2).trans rfl))
          obtain ⟨b, hb⟩ : ∃ b, x.f1 = b := ⟨_, rfl⟩
          have HBB := Aside0.mk hb
          rw [hb] at hc8_2
          clear hb hx0 hx1 hx2 HR1 HL1 HSZ HG8 HK8
          have HLI2 := HLI.out
          have HN2 := HOK.out.1
          have HF := HI.out.2.1
          have hsx : xsAt l0 i ++ [x.f0] = xsAt l0 (i + 1) := by rw [xsAt_succ l0 i (by rw [HN.out]; omega), HX.out]
          have HXS := Aside0.mk (xsAt_length l0 (i + 1) (by rw [HN.out]; omega))
          have HOL := Aside0.mk (outs_length l0 i (by rw [HN.out]; omega))
          have HFS := Aside0.mk (fst_drop l0 i f (by rw [HN.out]; omega) HF HI.out.2.2)
          have n0_ := Aside0.mk (by have := HCI.out; rw [hsx] at this; exact this)
          clear HCI hsx
          have HCI := n0_
          clear n0_
          cases b with
          | false =>
            have HSM := Aside0.mk (snd_more l0 i (by rw [HN.out]; omega) (by rw [HX.out]; exact HBB.out))
            go_wp2
            go_roundg (gk - 1)
            case measure => have := HI.out.1; omega
            case rel => exact ⟨i + 1, f, by go_num, rfl, ⟨by have := HI.out.1; omega, by omega, by have := HFS.out; rwa [HX.out, HBB.out, if_neg (by decide)] at this⟩, ⟨by rw [HSM.out]; exact HCI.out⟩⟩
          | true =>
            have hcA : (0 ≤ (i : Int) + 1 ∧ (i : Int) + 1 ≤ (cap4 : Int)) = True := eq_true ⟨by omega, by have := HCAP.out; omega⟩
            have HSL := Aside0.mk (snd_last l0 i f (by rw [HN.out]; omega) HF HI.out.2.2 (by rw [HX.out]; exact HBB.out))
            go_wp2_with (first | ((with_reducible refine gate_builtin (b := .append) (xs := #[.tmp 42, .tmp 50]) rfl ?_); at_builtin; obtain ⟨rows, hrl, hR, hv⟩ := HCI.out.outr; refine Kd.R_append (Kd.raw 1) (w0 := w) w.heap.size rfl (.tmp 42) (.tmp 50) 56 27 (.slice none 0 0) 24 rfl Try.underlying56 info_imgs rfl (by decide) (by decide) _ rows [.slice (some ⟨g4, f * 2, none⟩) (i + 1 - f) (i + 1 - f)] [.slice (some ⟨g4, f * 2, none⟩) (i + 1 - f) (i + 1 - f)] (fun _ => True) (fun _ => False) rfl rfl ⟨rfl, rfl, one_slice⟩ (fun _ h => h.elim) (fun _ _ => trivial) hR HCI.out.below HCI.out.below.size (by have := HOL.out; omega) ?_; intro v5 w9 hR1 hb1 hg1 hat1; have n0_ := Aside0.mk (HCI.out.out hrl hv hR hR1 hb1 hg1 hat1 (by have := HCI.out.cut f (i + 1 - f) (by rw [HXS.out]; omega) (by rw [HXS.out]; exact Nat.le_refl _) (by rw [HXS.out]; omega); rw [HXS.out] at this ⊢; exact this)); clear hrl hR hv hR1 hb1 hg1 hat1 HCI; have HCI := n0_; clear n0_))
            go_roundg (gk - 1)
            case measure => have := HI.out.1; omega
            case rel => exact ⟨i + 1, i + 1, by go_num, by go_num, ⟨by have := HI.out.1; omega, by omega, by have := HFS.out; rwa [HX.out, HBB.out, if_pos rfl] at this⟩, ⟨by rw [HSL.out]; exact HCI.out⟩⟩
        · have hni : i = n := by have := HI.out.1; omega
          subst hni
          go_wp2
          go_ret2
          exact ⟨_, rfl, HCI.out.N, HCI.out.below⟩
end Go.Proofs.Ytjpkjakdhbnehaa.Q
end
section
-- Written by this session's own program (ext_print.py) over the kit's print.py, hand proofs among it. Not trusted: Lean checks it.
namespace Go.Proofs.Ytjpkjakdhbnehaa.Q
open Go.RowKit Go.Proofs.YtjpkjakdhbnehaaW.PrintWords Go.Proofs.YtjpkjakdhbnehaaW.PrintLast Go.Proofs.YtjpkjakdhbnehaaW.PrintMore
attribute [local go_sem] max2_int min2_int max_two min_two max_three min_three max_four min_four   -- for this text's walks alone
set_option linter.unusedVariables false
set_option linter.unusedSimpArgs false

/-! ### word_size: function 33 -/
def word_size.f (a0 : Int) : Option (Bool) := if a0 ≥ 1 then (some (decide (a0 ≤ 8))) else (some false)
set_option maxHeartbeats 8000000 in
set_option maxRecDepth 100000 in
theorem word_size.calls (a0 : Int) (r : Bool) (w : World) (h : word_size.f a0 = some r) :
    Calls Try.prog 33 #[.int .i64 a0] w fun e w' => e = .returned (.bool r) ∧ Drawn0 w w' := by
  have H : (if a0 ≥ 1 then (some (decide (a0 ≤ 8))) else (some false)) = some r := h
  clear h
  by_cases c2 : a0 ≥ 1
  · rw [if_pos c2] at H
    have c2b0 : decide (1 ≤ a0) = true := decide_eq_true c2
    clear c2
    obtain rfl := Option.some.inj H
    go_enter Try.func33, Try.ntmps33
    go_wp2
    go_ret
    exact ⟨by first | rfl | (simp; done) | (simp [*]; done), by repeat (first | exact Drawn0.refl _ | apply Drawn0.step)⟩
  · rw [if_neg c2] at H
    have c2b0 : decide (1 ≤ a0) = false := decide_eq_false c2
    clear c2
    obtain rfl := Option.some.inj H
    go_enter Try.func33, Try.ntmps33
    go_wp2
    go_ret
    exact ⟨by first | rfl | (simp; done) | (simp [*]; done), by repeat (first | exact Drawn0.refl _ | apply Drawn0.step)⟩

end Go.Proofs.Ytjpkjakdhbnehaa.Q
end
section
-- Written by this session's own program (ext_print.py) over the kit's print.py, hand proofs among it. Not trusted: Lean checks it.
namespace Go.Proofs.Ytjpkjakdhbnehaa.Q
open Go.RowKit Go.Proofs.YtjpkjakdhbnehaaW.PrintWords Go.Proofs.YtjpkjakdhbnehaaW.PrintLast Go.Proofs.YtjpkjakdhbnehaaW.PrintMore
attribute [local go_sem] max2_int min2_int max_two min_two max_three min_three max_four min_four   -- for this text's walks alone
set_option linter.unusedVariables false
set_option linter.unusedSimpArgs false

/-! ### word_inside: function 35 -/
def word_inside.f (l0 : List Int) (a1 : Int) (a2 : Int) : Option (Int) := (word_size.f a2).bind fun t135 => (if t135 = true then (if a1 < 0 then (some 12) else (if a1 > (l0.length : Int) then (some 12) else (if (wrap64 ((l0.length : Int) - a1)) < a2 then (some 12) else (some 0)))) else (some 1))
set_option maxHeartbeats 8000000 in
set_option maxRecDepth 100000 in
theorem word_inside.calls (A0 : Option Addr) (c0 : Nat) (l0 : List Int) (a1 : Int) (a2 : Int) (r : Int) (w : World) (hr0 : Kd.C (Kd.int .u8) w A0 l0.length l0) (hc0 : l0.length ≤ c0) (h : word_inside.f l0 a1 a2 = some r) :
    Calls Try.prog 35 #[.slice A0 l0.length c0, .int .i64 a1, .int .i64 a2] w fun e w' => e = .returned (.int .i64 r) ∧ Drawn0 w w' := by
  have HR0 := Aside0.mk hr0
  have HC0 := Aside0.mk hc0
  clear hr0 hc0
  have H : ((word_size.f a2).bind fun t135 => (if t135 = true then (if a1 < 0 then (some 12) else (if a1 > (l0.length : Int) then (some 12) else (if (wrap64 ((l0.length : Int) - a1)) < a2 then (some 12) else (some 0)))) else (some 1))) = some r := h
  clear h
  replace H := Option.bind_eq_some_iff.mp H
  obtain ⟨t135, A40, H⟩ := H
  replace H : (if t135 = true then (if a1 < 0 then (some 12) else (if a1 > (l0.length : Int) then (some 12) else (if (wrap64 ((l0.length : Int) - a1)) < a2 then (some 12) else (some 0)))) else (some 1)) = some r := H
  have A4 := Aside0.mk A40
  clear A40
  by_cases c5 : t135 = true
  · subst c5
    have H1 : (if a1 < 0 then (some 12) else (if a1 > (l0.length : Int) then (some 12) else (if (wrap64 ((l0.length : Int) - a1)) < a2 then (some 12) else (some 0)))) = some r := by rw [if_pos rfl] at H; exact H
    clear H
    have H := H1
    clear H1
    by_cases c6 : a1 < 0
    · rw [if_pos c6] at H
      have c6b0 : decide (a1 < 0) = true := decide_eq_true c6
      clear c6
      obtain rfl := Option.some.inj H
      go_enter Try.func35, Try.ntmps35
      go_wp2_with (first | ((with_reducible refine gate_callee (f := 33) rfl ?_); refine goesL_ (some 9) rfl rfl Try.func33 (by kernel_rfl) rfl #[.int .i64 a2] rfl (by (try simp only [List.map_toArray, List.map_cons, List.map_nil]); first | done | rfl | (simp only [List.length_drop, List.length_take]; rfl)) ?_; (with_reducible refine (word_size.calls a2 true _ A4.out).mono ?_); rintro e w' ⟨rfl, ⟨nd, rfl⟩⟩; refine ⟨_, rfl, ?_⟩))
      go_ret
      exact ⟨by first | rfl | (simp; done) | (simp [*]; done), by repeat (first | exact Drawn0.refl _ | apply Drawn0.step)⟩
    · rw [if_neg c6] at H
      have c6b0 : decide (a1 < 0) = false := decide_eq_false c6
      clear c6
      by_cases c7 : a1 > (l0.length : Int)
      · rw [if_pos c7] at H
        have c7b0 : decide ((l0.length : Int) < a1) = true := decide_eq_true c7
        clear c7
        obtain rfl := Option.some.inj H
        go_enter Try.func35, Try.ntmps35
        go_wp2_with (first | ((with_reducible refine gate_callee (f := 33) rfl ?_); refine goesL_ (some 9) rfl rfl Try.func33 (by kernel_rfl) rfl #[.int .i64 a2] rfl (by (try simp only [List.map_toArray, List.map_cons, List.map_nil]); first | done | rfl | (simp only [List.length_drop, List.length_take]; rfl)) ?_; (with_reducible refine (word_size.calls a2 true _ A4.out).mono ?_); rintro e w' ⟨rfl, ⟨nd, rfl⟩⟩; refine ⟨_, rfl, ?_⟩))
        go_ret
        exact ⟨by first | rfl | (simp; done) | (simp [*]; done), by repeat (first | exact Drawn0.refl _ | apply Drawn0.step)⟩
      · rw [if_neg c7] at H
        have c7b0 : decide ((l0.length : Int) < a1) = false := decide_eq_false c7
        clear c7
        by_cases c8 : (wrap64 ((l0.length : Int) - a1)) < a2
        · rw [if_pos c8] at H
          have c8b0 : decide ((wrap64 ((l0.length : Int) - a1)) < a2) = true := decide_eq_true c8
          clear c8
          obtain rfl := Option.some.inj H
          go_enter Try.func35, Try.ntmps35
          go_wp2_with (first | ((with_reducible refine gate_callee (f := 33) rfl ?_); refine goesL_ (some 9) rfl rfl Try.func33 (by kernel_rfl) rfl #[.int .i64 a2] rfl (by (try simp only [List.map_toArray, List.map_cons, List.map_nil]); first | done | rfl | (simp only [List.length_drop, List.length_take]; rfl)) ?_; (with_reducible refine (word_size.calls a2 true _ A4.out).mono ?_); rintro e w' ⟨rfl, ⟨nd, rfl⟩⟩; refine ⟨_, rfl, ?_⟩))
          go_ret
          exact ⟨by first | rfl | (simp; done) | (simp [*]; done), by repeat (first | exact Drawn0.refl _ | apply Drawn0.step)⟩
        · rw [if_neg c8] at H
          have c8b0 : decide ((wrap64 ((l0.length : Int) - a1)) < a2) = false := decide_eq_false c8
          clear c8
          obtain rfl := Option.some.inj H
          go_enter Try.func35, Try.ntmps35
          go_wp2_with (first | ((with_reducible refine gate_callee (f := 33) rfl ?_); refine goesL_ (some 9) rfl rfl Try.func33 (by kernel_rfl) rfl #[.int .i64 a2] rfl (by (try simp only [List.map_toArray, List.map_cons, List.map_nil]); first | done | rfl | (simp only [List.length_drop, List.length_take]; rfl)) ?_; (with_reducible refine (word_size.calls a2 true _ A4.out).mono ?_); rintro e w' ⟨rfl, ⟨nd, rfl⟩⟩; refine ⟨_, rfl, ?_⟩))
          go_ret
          exact ⟨by first | rfl | (simp; done) | (simp [*]; done), by repeat (first | exact Drawn0.refl _ | apply Drawn0.step)⟩
  · replace c5 := Bool.eq_false_iff.mpr c5
    subst c5
    have H1 : (some 1) = some r := by rw [if_neg (show ¬ (false = true) by decide)] at H; exact H
    clear H
    have H := H1
    clear H1
    obtain rfl := Option.some.inj H
    go_enter Try.func35, Try.ntmps35
    go_wp2_with (first | ((with_reducible refine gate_callee (f := 33) rfl ?_); refine goesL_ (some 9) rfl rfl Try.func33 (by kernel_rfl) rfl #[.int .i64 a2] rfl (by (try simp only [List.map_toArray, List.map_cons, List.map_nil]); first | done | rfl | (simp only [List.length_drop, List.length_take]; rfl)) ?_; (with_reducible refine (word_size.calls a2 false _ A4.out).mono ?_); rintro e w' ⟨rfl, ⟨nd, rfl⟩⟩; refine ⟨_, rfl, ?_⟩))
    go_ret
    exact ⟨by first | rfl | (simp; done) | (simp [*]; done), by repeat (first | exact Drawn0.refl _ | apply Drawn0.step)⟩

end Go.Proofs.Ytjpkjakdhbnehaa.Q
end
section
-- Written by this session's own program (ext_print.py) over the kit's print.py, hand proofs among it. Not trusted: Lean checks it.
namespace Go.Proofs.Ytjpkjakdhbnehaa.Q
open Go.RowKit Go.Proofs.YtjpkjakdhbnehaaW.PrintWords Go.Proofs.YtjpkjakdhbnehaaW.PrintLast Go.Proofs.YtjpkjakdhbnehaaW.PrintMore
attribute [local go_sem] max2_int min2_int max_two min_two max_three min_three max_four min_four   -- for this text's walks alone
set_option linter.unusedVariables false
set_option linter.unusedSimpArgs false

-- EXT word_Get: function 27
/-! ### word_Get: function 27 -/
def word_Get.f (l0 : List Int) (a1 : Int) (a2 : Int) : Option (Int × Int) := (word_inside.f l0 a1 a2).bind fun t => if t = 0 then (if 0 ≤ a1 ∧ 1 ≤ a2 ∧ a2 ≤ 8 ∧ a1 + a2 ≤ l0.length ∧ l0.length ≤ 140737488351232 ∧ u8s ((l0.take (a1 + a2).toNat).drop a1.toNat) then some (leval ((l0.take (a1 + a2).toNat).drop a1.toNat), 0) else none) else some (0, t)
set_option maxHeartbeats 8000000 in
set_option maxRecDepth 100000 in
theorem word_Get.calls (A0 : Option Addr) (c0 : Nat) (l0 : List Int) (a1 : Int) (a2 : Int) (r1 : Int) (r2 : Int) (w : World) (hr0 : Kd.C (Kd.int .u8) w A0 l0.length l0) (hc0 : l0.length ≤ c0) (h : word_Get.f l0 a1 a2 = some (r1, r2)) :
    Calls Try.prog 27 #[.slice A0 l0.length c0, .int .i64 a1, .int .i64 a2] w fun e w' => e = .returned (.tuple #[.int .u64 r1, .int .i64 r2]) ∧ Drawn0 w w' := by
  have HR0 := Aside0.mk hr0
  have HC0 := Aside0.mk hc0
  clear hr0 hc0
  unfold word_Get.f at h
  obtain ⟨t, hin, h⟩ := Option.bind_eq_some_iff.mp h
  have HIN := Aside0.mk hin
  clear hin
  by_cases c1 : t = 0
  · rw [if_pos c1] at h
    subst c1
    obtain ⟨seg, hseg⟩ : ∃ s : List Int, s = (l0.take (a1 + a2).toNat).drop a1.toNat := ⟨_, rfl⟩
    by_cases c2 : 0 ≤ a1 ∧ 1 ≤ a2 ∧ a2 ≤ 8 ∧ a1 + a2 ≤ l0.length ∧ l0.length ≤ 140737488351232 ∧ u8s ((l0.take (a1 + a2).toNat).drop a1.toNat)
    · rw [if_pos c2, ← hseg] at h
      have h2 := Option.some.inj h
      obtain ⟨hr1, rfl⟩ := (Prod.mk.injEq _ _ _ _).mp h2
      have hw : wrap64 (a1 + a2) = a1 + a2 := by unfold wrap64; omega
      obtain ⟨i0, hi0, _, hsz0, _⟩ := info_parts info5
      obtain ⟨A9, hcut, hA9, hC9⟩ := print_mid_of (P := Try.prog) (Value.int .u8) 0 23 5 .i64 .i64 Try.underlying23 hi0 hsz0 A0 c0 l0 a1 (a1 + a2) c2.1 (by omega) (by omega) HC0.out
      have hread := Kd.C_of_reads (h1 := fun _ => rfl) (hA9 _ (Kd.reads_of_C HR0.out))
      have hlen : seg.length ≤ 8 := by rw [hseg, List.length_drop, List.length_take]; omega
      have hus := c2.2.2.2.2.2
      rw [← hseg] at hcut hread hus
      rw [← hw] at hcut
      have HRS := Aside0.mk hread
      have HUS := Aside0.mk hus
      have HLEN := Aside0.mk hlen
      have HR1 := Aside0.mk hr1
      have b1 := eq_true c2.1
      have b2 : decide (0 ≤ a1) = true := decide_eq_true c2.1
      clear h h2 hr1 c2 hw hi0 hsz0 hA9 hC9 hread hlen hseg hus
      go_enter Try.func27, Try.ntmps27
      go_wp2_with (first | ((with_reducible refine gate_callee (f := 35) rfl ?_); refine goesL_ (some 15) rfl rfl Try.func35 (by kernel_rfl) rfl #[.slice A0 l0.length c0, .int .i64 a1, .int .i64 a2] rfl (by (try simp only [List.map_toArray, List.map_cons, List.map_nil]); first | done | rfl | (simp only [List.length_drop, List.length_take]; rfl)) ?_; (with_reducible refine (word_inside.calls _ _ l0 a1 a2 0 _ HR0.out HC0.out HIN.out).mono ?_); rintro e w' ⟨rfl, ⟨nd, rfl⟩⟩; refine ⟨_, rfl, ?_⟩))
      go_loopg [9, 26] seg.length (fun gk v9 v26 w' => ∃ (x i : Int), v9 = .int .u64 x ∧ v26 = .int .i64 i ∧ Aside0 (0 ≤ i ∧ (gk : Int) + i = seg.length) ∧ Aside0 (x = leval (seg.take i.toNat)) ∧ Drawn0 w w')
      case atStart => exact ⟨0, 0, rfl, rfl, ⟨by omega⟩, ⟨by simp [leval]⟩, by repeat (first | exact Drawn0.refl _ | apply Drawn0.step)⟩
      case round =>
        obtain ⟨x, i, rfl, rfl, HX, HA, ⟨m1, rfl⟩⟩ := hrel
        by_cases c2 : i < (seg.length : Int)
        · have p1 := HX.out.1
          have hx := Aside0.mk (Kd.at_int HRS.out i p1 c2)
          obtain ⟨ad, e1, hcell⟩ := hx.out
          have hst := leval_step seg HUS.out HLEN.out i p1 c2
          rw [← HA.out] at hst
          have c2b : decide (i < (seg.length : Int)) = true := decide_eq_true c2
          have HW := Aside0.mk (show wrap64 (i + 1) = i + 1 from by have := HLEN.out; unfold wrap64; omega)
          obtain ⟨ji13, hji13⟩ : ∃ j_ : Int, (IntKind.u64.wrap (wrap64 (8 * i))) = j_ := ⟨_, rfl⟩
          rw [hji13] at hst
          have c14 : 0 ≤ ji13 := by
            rw [← hji13]
            simp [IntKind.wrap, IntKind.bits, IntKind.signed]
            omega
          obtain ⟨ji15, hji15⟩ : ∃ j_ : Int, (shl .u64 (IntKind.u64.wrap (rd seg i)) ji13) = j_ := ⟨_, rfl⟩
          rw [hji15] at hst
          have HST := Aside0.mk hst
          have c14b0 := eq_true c14
          have c14b1 : decide (0 ≤ (ji13)) = true := decide_eq_true c14
          have hji15_ : (IntKind.u64.wrap ((IntKind.u64.wrap (rd seg i)) * 2 ^ min (ji13).toNat 64)) = ji15 := hji15
          have hji15z : (ji13) ≤ 64 → (IntKind.u64.wrap ((IntKind.u64.wrap (rd seg i)) * 2 ^ (ji13).toNat)) = ji15 := shl_small hji15
          cases e1
          have c2' := Aside0.mk c2
          have p1' : decide (0 ≤ i) = true := decide_eq_true p1
          have p2 := eq_true p1
          have q2 := eq_true c2
          clear hx hst HA c2 p1 c14
          go_wp2
          go_roundg (gk - 1)
          case measure => have := HX.out; have := c2'.out; omega
          case rel => exact ⟨Go.bits .or .u64 x ji15, i + 1, (by first | rfl | (simp; done) | (simp only [← hji15] <;> (first | rfl | simp)) | (simp [*]; done)), by rw [HW.out], ⟨by have := HX.out; have := c2'.out; omega⟩, HST, by repeat (first | exact Drawn0.refl _ | apply Drawn0.step)⟩
        · have hend : x = r1 := by rw [HA.out, ← HR1.out, List.take_of_length_le (by have := HX.out; omega)]
          subst hend
          have c2b : decide (i < (seg.length : Int)) = false := decide_eq_false c2
          clear c2 HA
          go_wp2
          go_ret2
          exact ⟨rfl, by repeat (first | exact Drawn0.refl _ | apply Drawn0.step)⟩
    · rw [if_neg c2] at h
      exact absurd h (by simp)
  · rw [if_neg c1] at h
    have h2 := Option.some.inj h
    obtain ⟨rfl, rfl⟩ := (Prod.mk.injEq _ _ _ _).mp h2
    have c1b1 : (t != 0) = true := bne_iff_ne.mpr c1
    have c1b0 : (t == 0) = false := beq_eq_false_iff_ne.mpr c1
    clear h h2 c1
    go_enter Try.func27, Try.ntmps27
    go_wp2_with (first | ((with_reducible refine gate_callee (f := 35) rfl ?_); refine goesL_ (some 15) rfl rfl Try.func35 (by kernel_rfl) rfl #[.slice A0 l0.length c0, .int .i64 a1, .int .i64 a2] rfl (by (try simp only [List.map_toArray, List.map_cons, List.map_nil]); first | done | rfl | (simp only [List.length_drop, List.length_take]; rfl)) ?_; (with_reducible refine (word_inside.calls _ _ l0 a1 a2 t _ HR0.out HC0.out HIN.out).mono ?_); rintro e w' ⟨rfl, ⟨nd, rfl⟩⟩; refine ⟨_, rfl, ?_⟩))
    go_ret2
    exact ⟨rfl, by repeat (first | exact Drawn0.refl _ | apply Drawn0.step)⟩

end Go.Proofs.Ytjpkjakdhbnehaa.Q
end
section
-- Written by this session's own program (ext_print.py) over the kit's print.py, hand proofs among it. Not trusted: Lean checks it.
namespace Go.Proofs.Ytjpkjakdhbnehaa.Q
open Go.RowKit Go.Proofs.YtjpkjakdhbnehaaW.PrintWords Go.Proofs.YtjpkjakdhbnehaaW.PrintLast Go.Proofs.YtjpkjakdhbnehaaW.PrintMore
attribute [local go_sem] max2_int min2_int max_two min_two max_three min_three max_four min_four   -- for this text's walks alone
set_option linter.unusedVariables false
set_option linter.unusedSimpArgs false

/-! ### word_Put: function 23 -/
def word_Put.l0 : Nat → Int → List Int → Int → Int → Option (List Int)
  | 0, _, _, _, _ => none
  | k + 1, x0, x5, x12, x13 => if x13 < x12 then (if 0 ≤ (IntKind.u64.wrap (wrap64 (8 * x13))) then (if 0 ≤ x13 then (if x13 < (x5.length : Int) then (word_Put.l0 k x0 (x5.set (x13 : Int).toNat ((shr .u64 x0 (IntKind.u64.wrap (wrap64 (8 * x13)))) % 256)) x12 (wrap64 (x13 + 1))) else (none)) else (none)) else (none)) else (some x5)
def word_Put.f (k : Nat) (a0 : Int) (a1 : Int) : Option (List Int) := (word_size.f a1).bind fun t101 => (if t101 = true then (if 0 ≤ a1 then (if (a1 : Int).toNat ≤ 281474976710656 then (word_Put.l0 k a0 (List.replicate (a1 : Int).toNat 0) a1 0) else (none)) else (none)) else (some ([] : List Int)))
theorem word_Put.mono_l : ∀ k, (∀ y0 y1 y2 y3, LeO (word_Put.l0 k y0 y1 y2 y3) (word_Put.l0 (k + 1) y0 y1 y2 y3))
  | 0 => fun _ _ _ _ r h => by simp [word_Put.l0] at h
  | k + 1 => by
    have ih0 := word_Put.mono_l k
    · intro y0 y1 y2 y3
      unfold word_Put.l0
      repeat' first
      | (with_reducible exact ih0 _ _ _ _)
      | (with_reducible exact LeO.refl _)
      | (with_reducible exact LeO.none _)
      | (with_reducible refine LeO.ite ?_ ?_)
      | (with_reducible refine LeO.bind ?_ (fun _ => ?_))
      | exact ih0 _ _ _ _
      | exact LeO.none _
      | refine LeO.ite ?_ ?_
      | refine LeO.bind ?_ (fun _ => ?_)
theorem word_Put.mono : ∀ a0 a1 k, LeO (word_Put.f k a0 a1) (word_Put.f (k + 1) a0 a1) := by
  intro a0 a1 k
  have ih0 := word_Put.mono_l k
  unfold word_Put.f
  repeat' first
      | (with_reducible exact ih0 _ _ _ _)
      | (with_reducible exact LeO.refl _)
      | (with_reducible exact LeO.none _)
      | (with_reducible refine LeO.ite ?_ ?_)
      | (with_reducible refine LeO.bind ?_ (fun _ => ?_))
      | exact ih0 _ _ _ _
      | exact LeO.none _
      | refine LeO.ite ?_ ?_
      | refine LeO.bind ?_ (fun _ => ?_)
set_option maxHeartbeats 8000000 in
set_option maxRecDepth 100000 in
theorem word_Put.calls (k : Nat) (a0 : Int) (a1 : Int) (r : List Int) (w : World) (h : word_Put.f k a0 a1 = some r) :
    Calls Try.prog 23 #[.int .u64 a0, .int .i64 a1] w fun e w' => ∃ v0_ : Value, e = .returned (v0_) ∧ Kd.R (Kd.int .u8) 5 w' w.heap.size (fun _ => True) v0_ r ∧ Below w.heap.size w w' := by
  have HB := Aside0.mk (Below.refl w.heap.size w)
  have H : ((word_size.f a1).bind fun t101 => (if t101 = true then (if 0 ≤ a1 then (if (a1 : Int).toNat ≤ 281474976710656 then (word_Put.l0 k a0 (List.replicate (a1 : Int).toNat 0) a1 0) else (none)) else (none)) else (some ([] : List Int)))) = some r := h
  clear h
  replace H := Option.bind_eq_some_iff.mp H
  obtain ⟨t101, A30, H⟩ := H
  replace H : (if t101 = true then (if 0 ≤ a1 then (if (a1 : Int).toNat ≤ 281474976710656 then (word_Put.l0 k a0 (List.replicate (a1 : Int).toNat 0) a1 0) else (none)) else (none)) else (some ([] : List Int))) = some r := H
  have A3 := Aside0.mk A30
  clear A30
  by_cases c4 : t101 = true
  · subst c4
    have H1 : (if 0 ≤ a1 then (if (a1 : Int).toNat ≤ 281474976710656 then (word_Put.l0 k a0 (List.replicate (a1 : Int).toNat 0) a1 0) else (none)) else (none)) = some r := by rw [if_pos rfl] at H; exact H
    clear H
    have H := H1
    clear H1
    by_cases c5 : 0 ≤ a1
    · rw [if_pos c5] at H
      have c5b0 := eq_true c5
      have c5b1 : decide (0 ≤ a1) = true := decide_eq_true c5
      clear c5
      by_cases c6 : (a1 : Int).toNat ≤ 281474976710656
      · rw [if_pos c6] at H
        have c6b0 := eq_true c6
        have c6b1 : decide ((a1 : Int).toNat ≤ 281474976710656) = true := decide_eq_true c6
        clear c6
        obtain ⟨y102, hy102⟩ : ∃ y_ : List Int, y_ = (List.replicate (a1 : Int).toNat 0) := ⟨_, rfl⟩
        replace H : (word_Put.l0 k a0 y102 a1 0) = some r := by first | (rw [hy102]; with_reducible exact H) | (have H2_ := (Option.bind_some _ _).symm.trans H; rw [hy102]; with_reducible exact H2_) | (have H2_ := (Option.bind_some _ _).symm.trans H; with_reducible exact H2_) | with_reducible exact H | (rw [hy102]; exact H) | exact H
        have Ny102 := Aside0.mk hy102
        clear hy102
        have H' := Aside0.mk H
        clear H
        go_enter Try.func23, Try.ntmps23
        go_wp2_with (first | ((with_reducible refine gate_callee (f := 33) rfl ?_); refine goesL_ (some 8) rfl rfl Try.func33 (by kernel_rfl) rfl #[.int .i64 a1] rfl (by (try simp only [List.map_toArray, List.map_cons, List.map_nil]); first | done | rfl | (simp only [List.length_drop, List.length_take]; rfl)) ?_; (with_reducible refine (word_size.calls a1 true _ A3.out).mono ?_); rintro e w' ⟨rfl, ⟨nd, rfl⟩⟩; refine ⟨_, rfl, ?_⟩) | ((with_reducible refine gate_dst (N := 11) rfl ?_); refine Kd.R_make (Kd.int .u8) _ 5 rfl (N := 11) rfl 23 _ _ rfl a1 rfl rfl Try.underlying23 (.int .u8 0) 1 info5 rfl (by decide) (by omega) 0 (ok := fun _ => True) (okp := fun _ => True) rfl (fun _ hk => hk) trivial (of_decide_eq_true (by first | (with_reducible assumption) | assumption)) (Nat.le_trans (Nat.mul_le_mul_right _ (of_decide_eq_true (by first | (with_reducible assumption) | assumption) : a1.toNat ≤ 281474976710656)) (by omega)) (Below.refl _ _) (Nat.le_refl _) ?_; intro v103 w7 ho8 hb hg_ hnew_; clear hg_ hnew_; (first | rw [← Ny102.out] at ho8 | (simp only [Int.reduceToNat] at ho8; rw [← Ny102.out] at ho8)); have n0_ := Aside0.mk (Kd.R_lower ho8 (below_size (by repeat (first | (with_reducible first | exact HB.out | apply below_alloc | apply pw_below_drewN | apply below_drew1) | exact HB.out)))); have n1_ := Aside0.mk (below_step (by repeat (first | (with_reducible first | exact HB.out | apply below_alloc | apply pw_below_drewN | apply below_drew1) | exact HB.out)) hb); clear HB; have HO104 := n0_; have HB := n1_; clear n0_ n1_; clear hb ho8))
        go_loopg [13] k (fun kq v13 w' => ∃ (x5_1 : List Int) (x13_1 : Int), v13 = .int .i64 x13_1 ∧ Aside0 (word_Put.l0 kq a0 x5_1 a1 x13_1 = some r) ∧ Aside0 (kq ≤ k) ∧ Aside0 (Kd.R (Kd.int .u8) 5 w' w.heap.size (fun _ => True) v103 x5_1) ∧ Aside0 (Below w.heap.size w w'))
        case atStart => exact ⟨(y102), (0), (by first | rfl | (simp; done) | (simp [*]; done)), H', ⟨Nat.le_refl _⟩, ⟨by (with_reducible repeat (first | apply Kd.R_alloc | apply Kd.R_drewN | apply Kd.R_drew)); exact HO104.out⟩, ⟨by repeat (first | (with_reducible first | exact HB.out | apply below_alloc | apply pw_below_drewN | apply below_drew1) | exact HB.out)⟩⟩
        case round =>
          clear H'
          try clear c2
          try clear p2
          try clear c3
          try clear c4
          try clear c5
          try clear c5b0
          try clear c5b1
          try clear c6
          try clear c6b0
          try clear c6b1
          obtain ⟨x5_1, x13_1, rfl, HA, HK1, HO_5, HB⟩ := hrel
          cases gk with
          | zero => exact absurd HA.out (by simp [word_Put.l0])
          | succ k1 =>
            have H := HA.out
            clear HA
            simp only [word_Put.l0] at H
            by_cases c9 : x13_1 < a1
            · rw [if_pos c9] at H
              have c9b0 : decide (x13_1 < a1) = true := decide_eq_true c9
              clear c9
              obtain ⟨ji10, hji10⟩ : ∃ j_ : Int, (IntKind.u64.wrap (wrap64 (8 * x13_1))) = j_ := ⟨_, rfl⟩
              replace H : (if 0 ≤ (ji10) then (if 0 ≤ x13_1 then (if x13_1 < (x5_1.length : Int) then (word_Put.l0 k1 a0 (x5_1.set (x13_1 : Int).toNat ((shr .u64 a0 (ji10)) % 256)) a1 (wrap64 (x13_1 + 1))) else (none)) else (none)) else (none)) = some r := by first | (rw [hji10] at H; exact H) | (simp only [hji10] at H ⊢; exact H)
              by_cases c11 : 0 ≤ (ji10)
              · rw [if_pos c11] at H
                have c11b0 := eq_true c11
                have c11b1 : decide (0 ≤ (ji10)) = true := decide_eq_true c11
                clear c11
                obtain ⟨ji12, hji12⟩ : ∃ j_ : Int, (shr .u64 a0 (ji10)) = j_ := ⟨_, rfl⟩
                replace H : (if 0 ≤ x13_1 then (if x13_1 < (x5_1.length : Int) then (word_Put.l0 k1 a0 (x5_1.set (x13_1 : Int).toNat ((ji12) % 256)) a1 (wrap64 (x13_1 + 1))) else (none)) else (none)) = some r := by first | (rw [hji12] at H; exact H) | (simp only [hji12] at H ⊢; exact H)
                have hji12_ : (a0 / 2 ^ min (ji10).toNat 64) = ji12 := hji12
                have hji12z : (ji10) ≤ 64 → (a0 / 2 ^ (ji10).toNat) = ji12 := shr_small hji12
                by_cases c13 : 0 ≤ x13_1
                · rw [if_pos c13] at H
                  have c13b0 : decide (0 ≤ x13_1) = true := decide_eq_true c13
                  clear c13
                  by_cases c14 : x13_1 < (x5_1.length : Int)
                  · rw [if_pos c14] at H
                    have c14b0 : decide (x13_1 < (x5_1.length : Int)) = true := decide_eq_true c14
                    clear c14
                    obtain ⟨y105, hy105⟩ : ∃ y_ : List Int, y_ = (x5_1.set (x13_1 : Int).toNat ((ji12) % 256)) := ⟨_, rfl⟩
                    replace H : (word_Put.l0 k1 a0 y105 a1 (wrap64 (x13_1 + 1))) = some r := by first | (rw [hy105]; with_reducible exact H) | (have H2_ := (Option.bind_some _ _).symm.trans H; rw [hy105]; with_reducible exact H2_) | (have H2_ := (Option.bind_some _ _).symm.trans H; with_reducible exact H2_) | with_reducible exact H | (rw [hy105]; exact H) | exact H
                    have Ny105 := Aside0.mk hy105
                    clear hy105
                    have H' := Aside0.mk H
                    clear H
                    have p15 : 0 ≤ (x13_1 : Int) := of_decide_eq_true (by first | (with_reducible assumption) | assumption)
                    have q15 : (x13_1 : Int) < ((x5_1.length : Int) : Int) := of_decide_eq_true (by first | (with_reducible assumption) | assumption)
                    obtain ⟨go15, co15, eo15, gb15, gl15, cl15, HG15⟩ := Kd.R_form HO_5.out (by omega)
                    (first | cases eo15 | (injection eo15 with ea_ en_ ec_; (first | subst ea_ | (injection ea_ with ea_; subst ea_)); subst ec_; clear en_))
                    have GB15 := Aside0.mk gb15
                    have GG15 := Aside0.mk HG15
                    clear gb15 gl15 HG15
                    obtain ⟨hx15_0, hf15_0⟩ := Kd.R_celln 0 HO_5.out (x13_1 : Int) p15 q15
                    replace p15 := eq_true p15
                    replace q15 := eq_true q15
                    have HP16 := Kd.R_putg HO_5.out (x13_1 : Int) ((ji12) % 256)
                    go_wp2_with (first | ((with_reducible refine gate_store (t := 5) (p := 24) rfl ?_); refine store_event (t := 5) (p := 24) (v := ?vo_w17) (w1 := (wr.setCell ⟨go15, (x13_1 : Int).toNat, none⟩ (.int .u8 ((ji12) % 256)))) ?hg ?ho ?hn ?hr ?_; (case ho => rfl); (case hg => rfl); (case hn => rfl); (case hr => first | (go_simp; done) | (go_simp; rfl)); intro w17 hw; have hg : wr.grownBy w17 (some go15) := (by rw [hw]; exact HP16.2); have hp_ : Kd.R (Kd.int .u8) 5 w17 w.heap.size (fun _ => True) (.slice (some ⟨go15, 0, none⟩) x5_1.length co15) y105 := (by rw [hw, Ny105.out]; exact HP16.1); clear HP16; have n0_ := Aside0.mk (hp_); have n1_ := Aside0.mk ((by rw [hw]; exact below_set (HB.out) GB15.out : Below w.heap.size w w17)); clear HO_5; clear HB; have HO_5 := n0_; have HB := n1_; clear n0_ n1_; clear hg hw hp_))
                    go_roundg k1
                    case measure => have := HK1.out; omega
                    case rel => exact ⟨(y105), (wrap64 (x13_1 + 1)), (by first | rfl | (simp; done) | (simp [*]; done)), H', ⟨by have := HK1.out; omega⟩, ⟨by (with_reducible repeat (first | apply Kd.R_alloc | apply Kd.R_drewN | apply Kd.R_drew)); exact HO_5.out⟩, ⟨by repeat (first | (with_reducible first | exact HB.out | apply below_alloc | apply pw_below_drewN | apply below_drew1) | exact HB.out)⟩⟩
                  · rw [if_neg c14] at H
                    exact absurd H (by simp)
                · rw [if_neg c13] at H
                  exact absurd H (by simp)
              · rw [if_neg c11] at H
                exact absurd H (by simp)
            · rw [if_neg c9] at H
              have c9b0 : decide (x13_1 < a1) = false := decide_eq_false c9
              clear c9
              obtain rfl := Option.some.inj H
              go_wp2
              go_ret
              exact ⟨_, by first | rfl | (simp [errW_none, errW_some] <;> rfl) | (simp [*, errW_none, errW_some] <;> rfl), by (with_reducible repeat (first | apply Kd.R_alloc | apply Kd.R_drewN | apply Kd.R_drew)); exact HO_5.out, by repeat (first | (with_reducible first | exact HB.out | apply below_alloc | apply pw_below_drewN | apply below_drew1) | exact HB.out)⟩
      · rw [if_neg c6] at H
        exact absurd H (by simp)
    · rw [if_neg c5] at H
      exact absurd H (by simp)
  · replace c4 := Bool.eq_false_iff.mpr c4
    subst c4
    have H1 : (some ([] : List Int)) = some r := by rw [if_neg (show ¬ (false = true) by decide)] at H; exact H
    clear H
    have H := H1
    clear H1
    obtain rfl := Option.some.inj H
    go_enter Try.func23, Try.ntmps23
    go_wp2_with (first | ((with_reducible refine gate_callee (f := 33) rfl ?_); refine goesL_ (some 8) rfl rfl Try.func33 (by kernel_rfl) rfl #[.int .i64 a1] rfl (by (try simp only [List.map_toArray, List.map_cons, List.map_nil]); first | done | rfl | (simp only [List.length_drop, List.length_take]; rfl)) ?_; (with_reducible refine (word_size.calls a1 false _ A3.out).mono ?_); rintro e w' ⟨rfl, ⟨nd, rfl⟩⟩; refine ⟨_, rfl, ?_⟩))
    go_ret
    exact ⟨_, by first | rfl | (simp [errW_none, errW_some] <;> rfl) | (simp [*, errW_none, errW_some] <;> rfl), by first | exact Kd.R_nil _ _ _ _ _ | exact Kd.N_nil _ _ _ _ _ | exact Kd.V_nil _ _ _ _ _ | exact Kd.Q_nil _ _ _ _ _ | exact Kd.S_nil _ _ _ _ _, by repeat (first | (with_reducible first | exact HB.out | apply below_alloc | apply pw_below_drewN | apply below_drew1) | exact HB.out)⟩

end Go.Proofs.Ytjpkjakdhbnehaa.Q
end
section
-- Written by this session's own program (ext_print.py) over the kit's print.py, hand proofs among it. Not trusted: Lean checks it.
namespace Go.Proofs.Ytjpkjakdhbnehaa.Q
open Go.RowKit Go.Proofs.YtjpkjakdhbnehaaW.PrintWords Go.Proofs.YtjpkjakdhbnehaaW.PrintLast Go.Proofs.YtjpkjakdhbnehaaW.PrintMore
attribute [local go_sem] max2_int min2_int max_two min_two max_three min_three max_four min_four   -- for this text's walks alone
set_option linter.unusedVariables false
set_option linter.unusedSimpArgs false

-- EXT word_Pad: function 22
/-! ### word_Pad: function 22 -/
def word_Pad.f (l0 : List Int) (a1 : Int) : Option (List Int) := if a1 < 1 then some [] else if a1.toNat ≤ 281474976710656 then some (l0.take a1.toNat ++ List.replicate (a1.toNat - l0.length) 0) else none
set_option maxHeartbeats 8000000 in
set_option maxRecDepth 100000 in
theorem word_Pad.calls (A0 : Option Addr) (c0 : Nat) (l0 : List Int) (a1 : Int) (r : List Int) (w : World) (hr0 : Kd.C (Kd.int .u8) w A0 l0.length l0) (hc0 : l0.length ≤ c0) (h : word_Pad.f l0 a1 = some r) :
    Calls Try.prog 22 #[.slice A0 l0.length c0, .int .i64 a1] w fun e w' => ∃ v0_ : Value, e = .returned (v0_) ∧ Kd.R (Kd.int .u8) 5 w' w.heap.size (fun _ => True) v0_ r ∧ Below w.heap.size w w' := by
  have HB := Aside0.mk (Below.refl w.heap.size w)
  have HR0 := Aside0.mk hr0
  clear hr0 hc0
  unfold word_Pad.f at h
  by_cases c1 : a1 < 1
  · rw [if_pos c1] at h
    obtain rfl := Option.some.inj h
    have c1b : decide (a1 < 1) = true := decide_eq_true c1
    clear c1 h
    go_enter Try.func22, Try.ntmps22
    go_wp2
    go_ret
    exact ⟨_, rfl, Kd.R_nil _ _ _ _ _, HB.out⟩
  · rw [if_neg c1] at h
    by_cases c2 : a1.toNat ≤ 281474976710656
    · rw [if_pos c2] at h
      have hr := Option.some.inj h
      have hz : r = (List.replicate a1.toNat (0 : Int)).take 0 ++ (l0.take a1.toNat ++ (List.replicate a1.toNat (0 : Int)).drop (0 + min l0.length a1.toNat)) := by
        rw [← hr, List.take_zero, List.nil_append, List.drop_replicate]
        congr 2
        omega
      have HZ := Aside0.mk hz
      have H0 := Aside0.mk (show 0 ≤ a1 by omega)
      have H1 := Aside0.mk (show 0 < a1.toNat by omega)
      have H2 := Aside0.mk c2
      have c1b : decide (a1 < 1) = false := decide_eq_false c1
      have hsz : (Try.prog.info? 5).map (·.size) = some 1 := by kernel_rfl
      have HS := Aside0.mk hsz
      clear c1 c2 h hr hz hsz
      go_enter Try.func22, Try.ntmps22
      go_wp2_with (first | ((with_reducible refine gate_dst (N := 9) rfl ?_); refine Kd.R_make (Kd.int .u8) _ 5 rfl (N := 9) rfl 23 _ _ rfl a1 rfl rfl Try.underlying23 (.int .u8 0) 1 info5 rfl (by decide) (by omega) 0 (ok := fun _ => True) (okp := fun _ => True) rfl (fun _ hk => hk) trivial H0.out (by have := H2.out; omega) (Below.refl _ _) (Nat.le_refl _) ?_; intro v1 w1 ho hb hg_ hn_; clear hg_ hn_; obtain ⟨go, co, eo, gb, gl, cl⟩ := Kd.R_form ho (by rw [List.length_replicate]; exact H1.out); cases eo; have HO := Aside0.mk ho; have HC1 := Aside0.mk (Kd.C_below HR0.out hb); have HB1 := Aside0.mk hb; clear ho hb gb gl cl) | ((with_reducible refine gate_builtin (b := .copy) (xs := #[.tmp 10, .tmp 11]) rfl ?_); refine ext_copy (w0 := w) w.heap.size rfl (.tmp 10) (.tmp 11) 23 23 5 rfl Try.underlying23 HS.out .u8 (fun _ => True) go co (List.replicate a1.toNat 0) l0 0 a1.toNat co (some ⟨go, 0, none⟩) A0 l0.length c0 rfl rfl HO.out HC1.out (by simp) (fun _ => rfl) HB1.out ?_; intro w2 ho2 hb2 hg2; clear hg2; rw [← HZ.out] at ho2; have HO2 := Aside0.mk ho2; have HB2 := Aside0.mk hb2; clear ho2 hb2))
      go_ret
      have ho3 := HO2.out
      rw [List.length_replicate] at ho3
      exact ⟨_, rfl, ho3, HB2.out⟩
    · rw [if_neg c2] at h
      exact absurd h (by simp)

end Go.Proofs.Ytjpkjakdhbnehaa.Q
end
section
-- Written by this session's own program (ext_print.py) over the kit's print.py, hand proofs among it. Not trusted: Lean checks it.
namespace Go.Proofs.Ytjpkjakdhbnehaa.Q
open Go.RowKit Go.Proofs.YtjpkjakdhbnehaaW.PrintWords Go.Proofs.YtjpkjakdhbnehaaW.PrintLast Go.Proofs.YtjpkjakdhbnehaaW.PrintMore
attribute [local go_sem] max2_int min2_int max_two min_two max_three min_three max_four min_four   -- for this text's walks alone
set_option linter.unusedVariables false
set_option linter.unusedSimpArgs false

/-! ### reliquaryref01_Get: function 29 -/
mutual
def reliquaryref01_Get.j0 : Nat → List Int → Int → Int → Bool → Option (Int × Int)
  | 0, _, _, _, _ => none
  | k + 1, x0, x1, x2, x16 => if x16 = true then (some (0, 1)) else (if x1 < 0 then (reliquaryref01_Get.j1 k x0 x1 x2 true) else (if x1 > (x0.length : Int) then (reliquaryref01_Get.j1 k x0 x1 x2 true) else (reliquaryref01_Get.j1 k x0 x1 x2 (decide ((wrap64 ((x0.length : Int) - x1)) < x2)))))
def reliquaryref01_Get.j1 : Nat → List Int → Int → Int → Bool → Option (Int × Int)
  | 0, _, _, _, _ => none
  | k + 1, x0, x1, x2, x32 => if x32 = true then (some (0, 12)) else (reliquaryref01_Get.l0 k x0 x1 x2 0 1 0)
def reliquaryref01_Get.l0 : Nat → List Int → Int → Int → Int → Int → Int → Option (Int × Int)
  | 0, _, _, _, _, _, _ => none
  | k + 1, x0, x1, x2, x8, x9, x10 => if x10 < x2 then (if 0 ≤ (wrap64 (x1 + x10)) then (if (wrap64 (x1 + x10)) < (x0.length : Int) then (reliquaryref01_Get.l0 k x0 x1 x2 (IntKind.u64.wrap (x8 + (IntKind.u64.wrap ((IntKind.u64.wrap (rd x0 (wrap64 (x1 + x10)))) * x9)))) (IntKind.u64.wrap (x9 * 256)) (wrap64 (x10 + 1))) else (none)) else (none)) else (some (x8, 0))
end
def reliquaryref01_Get.f (k : Nat) (l0 : List Int) (a1 : Int) (a2 : Int) : Option (Int × Int) := if a2 < 1 then (reliquaryref01_Get.j0 k l0 a1 a2 true) else (reliquaryref01_Get.j0 k l0 a1 a2 (decide (a2 > 8)))
theorem reliquaryref01_Get.mono_l : ∀ k, (∀ y0 y1 y2 y3, LeO (reliquaryref01_Get.j0 k y0 y1 y2 y3) (reliquaryref01_Get.j0 (k + 1) y0 y1 y2 y3)) ∧ (∀ y0 y1 y2 y3, LeO (reliquaryref01_Get.j1 k y0 y1 y2 y3) (reliquaryref01_Get.j1 (k + 1) y0 y1 y2 y3)) ∧ (∀ y0 y1 y2 y3 y4 y5, LeO (reliquaryref01_Get.l0 k y0 y1 y2 y3 y4 y5) (reliquaryref01_Get.l0 (k + 1) y0 y1 y2 y3 y4 y5))
  | 0 => ⟨fun _ _ _ _ r h => by simp [reliquaryref01_Get.j0] at h, fun _ _ _ _ r h => by simp [reliquaryref01_Get.j1] at h, fun _ _ _ _ _ _ r h => by simp [reliquaryref01_Get.l0] at h⟩
  | k + 1 => by
    obtain ⟨ih0, ih1, ih2⟩ := reliquaryref01_Get.mono_l k
    refine ⟨?_, ?_, ?_⟩
    · intro y0 y1 y2 y3
      unfold reliquaryref01_Get.j0
      repeat' first
      | (with_reducible exact ih0 _ _ _ _)
      | (with_reducible exact ih1 _ _ _ _)
      | (with_reducible exact ih2 _ _ _ _ _ _)
      | (with_reducible exact LeO.refl _)
      | (with_reducible exact LeO.none _)
      | (with_reducible refine LeO.ite ?_ ?_)
      | (with_reducible refine LeO.bind ?_ (fun _ => ?_))
      | exact ih0 _ _ _ _
      | exact ih1 _ _ _ _
      | exact ih2 _ _ _ _ _ _
      | exact LeO.none _
      | refine LeO.ite ?_ ?_
      | refine LeO.bind ?_ (fun _ => ?_)
    · intro y0 y1 y2 y3
      unfold reliquaryref01_Get.j1
      repeat' first
      | (with_reducible exact ih0 _ _ _ _)
      | (with_reducible exact ih1 _ _ _ _)
      | (with_reducible exact ih2 _ _ _ _ _ _)
      | (with_reducible exact LeO.refl _)
      | (with_reducible exact LeO.none _)
      | (with_reducible refine LeO.ite ?_ ?_)
      | (with_reducible refine LeO.bind ?_ (fun _ => ?_))
      | exact ih0 _ _ _ _
      | exact ih1 _ _ _ _
      | exact ih2 _ _ _ _ _ _
      | exact LeO.none _
      | refine LeO.ite ?_ ?_
      | refine LeO.bind ?_ (fun _ => ?_)
    · intro y0 y1 y2 y3 y4 y5
      unfold reliquaryref01_Get.l0
      repeat' first
      | (with_reducible exact ih0 _ _ _ _)
      | (with_reducible exact ih1 _ _ _ _)
      | (with_reducible exact ih2 _ _ _ _ _ _)
      | (with_reducible exact LeO.refl _)
      | (with_reducible exact LeO.none _)
      | (with_reducible refine LeO.ite ?_ ?_)
      | (with_reducible refine LeO.bind ?_ (fun _ => ?_))
      | exact ih0 _ _ _ _
      | exact ih1 _ _ _ _
      | exact ih2 _ _ _ _ _ _
      | exact LeO.none _
      | refine LeO.ite ?_ ?_
      | refine LeO.bind ?_ (fun _ => ?_)
theorem reliquaryref01_Get.mono : ∀ a0 a1 a2 k, LeO (reliquaryref01_Get.f k a0 a1 a2) (reliquaryref01_Get.f (k + 1) a0 a1 a2) := by
  intro a0 a1 a2 k
  obtain ⟨ih0, ih1, ih2⟩ := reliquaryref01_Get.mono_l k
  unfold reliquaryref01_Get.f
  repeat' first
      | (with_reducible exact ih0 _ _ _ _)
      | (with_reducible exact ih1 _ _ _ _)
      | (with_reducible exact ih2 _ _ _ _ _ _)
      | (with_reducible exact LeO.refl _)
      | (with_reducible exact LeO.none _)
      | (with_reducible refine LeO.ite ?_ ?_)
      | (with_reducible refine LeO.bind ?_ (fun _ => ?_))
      | exact ih0 _ _ _ _
      | exact ih1 _ _ _ _
      | exact ih2 _ _ _ _ _ _
      | exact LeO.none _
      | refine LeO.ite ?_ ?_
      | refine LeO.bind ?_ (fun _ => ?_)
set_option maxHeartbeats 8000000 in
set_option maxRecDepth 100000 in
theorem reliquaryref01_Get.calls (k : Nat) (A0 : Option Addr) (c0 : Nat) (l0 : List Int) (a1 : Int) (a2 : Int) (r1 : Int) (r2 : Int) (w : World) (hr0 : Kd.C (Kd.int .u8) w A0 l0.length l0) (hc0 : l0.length ≤ c0) (h : reliquaryref01_Get.f k l0 a1 a2 = some (r1, r2)) :
    Calls Try.prog 29 #[.slice A0 l0.length c0, .int .i64 a1, .int .i64 a2] w fun e w' => e = .returned (.tuple #[.int .u64 r1, .int .i64 r2]) ∧ Drawn0 w w' := by
  have HR0 := Aside0.mk hr0
  have HC0 := Aside0.mk hc0
  clear hr0 hc0
  have H : (if a2 < 1 then (reliquaryref01_Get.j0 k l0 a1 a2 true) else (reliquaryref01_Get.j0 k l0 a1 a2 (decide (a2 > 8)))) = some (r1, r2) := h
  clear h
  have HC4 := Aside0.mk H
  clear H
  go_enter Try.func29, Try.ntmps29
  go_upto_region 1 with (fail)
  go_cut [16] (fun v16 wc => ∃ (kq : Nat) (x16_3 : Bool), v16 = .bool x16_3 ∧ Aside0 (reliquaryref01_Get.j0 kq l0 a1 a2 x16_3 = some (r1, r2)) ∧ Aside0 (kq ≤ k) ∧ Drawn0 w wc)
  case first =>
    have H := HC4.out
    clear HC4
    by_cases c5 : a2 < 1
    · rw [if_pos c5] at H
      have c5b0 : decide (a2 < 1) = true := decide_eq_true c5
      clear c5
      (first | rw [c5b0] | (simp only [i64_w, i32_w]; rw [c5b0]) | skip)
      have H' := Aside0.mk H
      clear H
      go_wp2
      go_meet
      case rel => exact ⟨_, (true), (by first | rfl | (simp; done) | (simp [*]; done)), H', ⟨by first | omega | exact Nat.le_refl _⟩, by repeat (first | exact Drawn0.refl _ | apply Drawn0.step)⟩
    · rw [if_neg c5] at H
      have c5b0 : decide (a2 < 1) = false := decide_eq_false c5
      clear c5
      (first | rw [c5b0] | (simp only [i64_w, i32_w]; rw [c5b0]) | skip)
      have H' := Aside0.mk H
      clear H
      go_wp2
      go_meet
      case rel => exact ⟨_, (decide (a2 > 8)), (by first | rfl | (simp; done) | (simp [*]; done)), H', ⟨by first | omega | exact Nat.le_refl _⟩, by repeat (first | exact Drawn0.refl _ | apply Drawn0.step)⟩
  case rest =>
    clear HC4
    try clear c2
    try clear p2
    try clear c5
    try clear c5b0
    obtain ⟨kq, x16_3, rfl, HA, HJ3, ⟨mc3, rfl⟩⟩ := hcut
    cases kq with
    | zero => exact absurd HA.out (by simp [reliquaryref01_Get.j0])
    | succ kj3 =>
      have H := HA.out
      clear HA
      simp only [reliquaryref01_Get.j0] at H
      by_cases c6 : x16_3 = true
      · subst c6
        have H1 : (some (0, 1)) = some (r1, r2) := by rw [if_pos rfl] at H; exact H
        clear H
        have H := H1
        clear H1
        simp only [Option.some.injEq, Prod.mk.injEq] at H
        obtain ⟨rfl, rfl⟩ := H
        go_wp2
        go_ret2
        exact ⟨by first | rfl | (simp; done) | (simp [*]; done), by repeat (first | exact Drawn0.refl _ | apply Drawn0.step)⟩
      · replace c6 := Bool.eq_false_iff.mpr c6
        subst c6
        have H1 : (if a1 < 0 then (reliquaryref01_Get.j1 kj3 l0 a1 a2 true) else (if a1 > (l0.length : Int) then (reliquaryref01_Get.j1 kj3 l0 a1 a2 true) else (reliquaryref01_Get.j1 kj3 l0 a1 a2 (decide ((wrap64 ((l0.length : Int) - a1)) < a2))))) = some (r1, r2) := by rw [if_neg (show ¬ (false = true) by decide)] at H; exact H
        clear H
        have H := H1
        clear H1
        have HC7 := Aside0.mk H
        clear H
        go_upto_region 3 with (fail)
        go_cut [32] (fun v32 wc => ∃ (kq : Nat) (x32_6 : Bool), v32 = .bool x32_6 ∧ Aside0 (reliquaryref01_Get.j1 kq l0 a1 a2 x32_6 = some (r1, r2)) ∧ Aside0 (kq ≤ kj3) ∧ Drawn0 w wc)
        case first =>
          have H := HC7.out
          clear HC7
          by_cases c8 : a1 < 0
          · rw [if_pos c8] at H
            have c8b0 : decide (a1 < 0) = true := decide_eq_true c8
            clear c8
            (first | rw [c8b0] | (simp only [i64_w, i32_w]; rw [c8b0]) | skip)
            have H' := Aside0.mk H
            clear H
            go_wp2
            go_meet
            case rel => exact ⟨_, (true), (by first | rfl | (simp; done) | (simp [*]; done)), H', ⟨by have := HJ3.out; first | omega | exact Nat.le_refl _⟩, by repeat (first | exact Drawn0.refl _ | apply Drawn0.step)⟩
          · rw [if_neg c8] at H
            have c8b0 : decide (a1 < 0) = false := decide_eq_false c8
            clear c8
            (first | rw [c8b0] | (simp only [i64_w, i32_w]; rw [c8b0]) | skip)
            by_cases c9 : a1 > (l0.length : Int)
            · rw [if_pos c9] at H
              have c9b0 : decide ((l0.length : Int) < a1) = true := decide_eq_true c9
              clear c9
              have H' := Aside0.mk H
              clear H
              go_wp2
              go_meet
              case rel => exact ⟨_, (true), (by first | rfl | (simp; done) | (simp [*]; done)), H', ⟨by have := HJ3.out; first | omega | exact Nat.le_refl _⟩, by repeat (first | exact Drawn0.refl _ | apply Drawn0.step)⟩
            · rw [if_neg c9] at H
              have c9b0 : decide ((l0.length : Int) < a1) = false := decide_eq_false c9
              clear c9
              have H' := Aside0.mk H
              clear H
              go_wp2
              go_meet
              case rel => exact ⟨_, (decide ((wrap64 ((l0.length : Int) - a1)) < a2)), (by first | rfl | (simp; done) | (simp [*]; done)), H', ⟨by have := HJ3.out; first | omega | exact Nat.le_refl _⟩, by repeat (first | exact Drawn0.refl _ | apply Drawn0.step)⟩
        case rest =>
          clear HC7
          try clear c2
          try clear p2
          try clear c3
          try clear c5
          try clear c5b0
          try clear c6
          try clear p6
          try clear c8
          try clear c8b0
          try clear c9
          try clear c9b0
          try clear p2
          obtain ⟨kq, x32_6, rfl, HA, HJ6, ⟨mc6, rfl⟩⟩ := hcut
          cases kq with
          | zero => exact absurd HA.out (by simp [reliquaryref01_Get.j1])
          | succ kj6 =>
            have H := HA.out
            clear HA
            simp only [reliquaryref01_Get.j1] at H
            by_cases c10 : x32_6 = true
            · subst c10
              have H1 : (some (0, 12)) = some (r1, r2) := by rw [if_pos rfl] at H; exact H
              clear H
              have H := H1
              clear H1
              simp only [Option.some.injEq, Prod.mk.injEq] at H
              obtain ⟨rfl, rfl⟩ := H
              go_wp2
              go_ret2
              exact ⟨by first | rfl | (simp; done) | (simp [*]; done), by repeat (first | exact Drawn0.refl _ | apply Drawn0.step)⟩
            · replace c10 := Bool.eq_false_iff.mpr c10
              subst c10
              have H1 : (reliquaryref01_Get.l0 kj6 l0 a1 a2 0 1 0) = some (r1, r2) := by rw [if_neg (show ¬ (false = true) by decide)] at H; exact H
              clear H
              have H := H1
              clear H1
              have H' := Aside0.mk H
              clear H
              go_wp2
              go_loopg [8, 9, 10] kj6 (fun kq v8 v9 v10 w' => ∃ (x8_3 : Int) (x9_3 : Int) (x10_3 : Int), v8 = .int .u64 x8_3 ∧ v9 = .int .u64 x9_3 ∧ v10 = .int .i64 x10_3 ∧ Aside0 (reliquaryref01_Get.l0 kq l0 a1 a2 x8_3 x9_3 x10_3 = some (r1, r2)) ∧ Aside0 (kq ≤ kj6) ∧ Drawn0 w w')
              case atStart => exact ⟨(0), (1), (0), (by first | rfl | (simp; done) | (simp [*]; done)), (by first | rfl | (simp; done) | (simp [*]; done)), (by first | rfl | (simp; done) | (simp [*]; done)), H', ⟨Nat.le_refl _⟩, by repeat (first | exact Drawn0.refl _ | apply Drawn0.step)⟩
              case round =>
                clear H'
                try clear c1
                try clear c2
                try clear p2
                try clear c3
                try clear c5
                try clear c5b0
                try clear c6
                try clear p6
                try clear c8
                try clear c8b0
                try clear c9
                try clear c9b0
                try clear c10
                try clear p2
                try clear p6
                obtain ⟨x8_3, x9_3, x10_3, rfl, rfl, rfl, HA, HK3, ⟨m3, rfl⟩⟩ := hrel
                cases gk with
                | zero => exact absurd HA.out (by simp [reliquaryref01_Get.l0])
                | succ k3 =>
                  have H := HA.out
                  clear HA
                  simp only [reliquaryref01_Get.l0] at H
                  by_cases c11 : x10_3 < a2
                  · rw [if_pos c11] at H
                    have c11b0 : decide (x10_3 < a2) = true := decide_eq_true c11
                    clear c11
                    obtain ⟨ji12, hji12⟩ : ∃ j_ : Int, (wrap64 (a1 + x10_3)) = j_ := ⟨_, rfl⟩
                    replace H : (if 0 ≤ (ji12) then (if (ji12) < (l0.length : Int) then (reliquaryref01_Get.l0 k3 l0 a1 a2 (IntKind.u64.wrap (x8_3 + (IntKind.u64.wrap ((IntKind.u64.wrap (rd l0 (ji12))) * x9_3)))) (IntKind.u64.wrap (x9_3 * 256)) (wrap64 (x10_3 + 1))) else (none)) else (none)) = some (r1, r2) := by first | (rw [hji12] at H; exact H) | (simp only [hji12] at H ⊢; exact H)
                    have hji12w : (IntKind.i64.wrap (a1 + x10_3)) = ji12 := (i64_w _).trans hji12
                    by_cases c13 : 0 ≤ (ji12)
                    · rw [if_pos c13] at H
                      have c13b0 : decide (0 ≤ (ji12)) = true := decide_eq_true c13
                      clear c13
                      by_cases c14 : (ji12) < (l0.length : Int)
                      · rw [if_pos c14] at H
                        have c14b0 : decide ((ji12) < (l0.length : Int)) = true := decide_eq_true c14
                        clear c14
                        have H' := Aside0.mk H
                        clear H
                        have p221 : 0 ≤ ((ji12) : Int) := of_decide_eq_true (by first | (with_reducible assumption) | assumption)
                        have q221 : (ji12) < (l0.length : Int) := of_decide_eq_true (by first | (with_reducible assumption) | assumption)
                        obtain ⟨ad221, e221, hx221_0⟩ := Kd.at_int HR0.out (ji12) p221 q221
                        cases e221
                        replace p221 := eq_true p221
                        replace q221 := eq_true q221
                        go_wp2
                        go_roundg k3
                        case measure => have := HJ3.out; have := HJ6.out; have := HK3.out; omega
                        case rel => exact ⟨(IntKind.u64.wrap (x8_3 + (IntKind.u64.wrap ((IntKind.u64.wrap (rd l0 (ji12))) * x9_3)))), (IntKind.u64.wrap (x9_3 * 256)), (wrap64 (x10_3 + 1)), (by first | rfl | (simp; done) | (simp only [← hji12] <;> (first | rfl | simp)) | (simp [*]; done)), (by first | rfl | (simp; done) | (simp [*]; done)), (by first | rfl | (simp; done) | (simp [*]; done)), H', ⟨by have := HJ3.out; have := HJ6.out; have := HK3.out; omega⟩, by repeat (first | exact Drawn0.refl _ | apply Drawn0.step)⟩
                      · rw [if_neg c14] at H
                        exact absurd H (by simp)
                    · rw [if_neg c13] at H
                      exact absurd H (by simp)
                  · rw [if_neg c11] at H
                    have c11b0 : decide (x10_3 < a2) = false := decide_eq_false c11
                    clear c11
                    simp only [Option.some.injEq, Prod.mk.injEq] at H
                    obtain ⟨rfl, rfl⟩ := H
                    go_wp2
                    go_ret2
                    exact ⟨by first | rfl | (simp; done) | (simp [*]; done), by repeat (first | exact Drawn0.refl _ | apply Drawn0.step)⟩

def conv_reliquaryref01_Get.f (k : Nat) (x0 : ByteArray) (x1 : Int) (x2 : Int) := if x0.size ≤ 140737488351232 then reliquaryref01_Get.f k (bytesOf x0) x1 x2 else none
theorem conv_reliquaryref01_Get.mono : ∀ (x0 : ByteArray) (x1 : Int) (x2 : Int) (k : Nat), LeO (conv_reliquaryref01_Get.f k x0 x1 x2) (conv_reliquaryref01_Get.f (k + 1) x0 x1 x2) := fun x0 x1 x2 k => LeO.ite (reliquaryref01_Get.mono (bytesOf x0) x1 x2 k) (LeO.none _)
theorem conv_reliquaryref01_Get.size_of {k : Nat} {x0 : ByteArray} {x1 : Int} {x2 : Int} {r} (h : conv_reliquaryref01_Get.f k x0 x1 x2 = some r) : x0.size ≤ 140737488351232 := by unfold conv_reliquaryref01_Get.f at h; split at h; assumption; exact absurd h (by simp)
theorem conv_reliquaryref01_Get.of {k : Nat} {x0 : ByteArray} {x1 : Int} {x2 : Int} {r} (h : conv_reliquaryref01_Get.f k x0 x1 x2 = some r) : reliquaryref01_Get.f k (bytesOf x0) x1 x2 = some r := by unfold conv_reliquaryref01_Get.f at h; split at h; exact h; exact absurd h (by simp)
theorem conv_reliquaryref01_Get.event {P : Program} {a : Act} {o : Oper} {ops : Array Oper} {rest : List Oper} {Q : Exit → Act → World → Prop} {W : World} {u : TypeDesc} (hgd : o.guard = none) {N : Tmp} (hd : o.dst = some N) (src dst e : TypeId) (x : Operand) (ho : o.op = .convert src dst x) (s : ByteArray) (hx : a.eval x = .string s)
    (hsu : P.underlying src = some u) (hdu : P.underlying dst = some (.slice e)) (heu : P.underlying e = some (.int .u8)) (hs : s.size ≤ 140737488351232)
    (h : ∀ (W1 : World) (A : Option Addr) (c : Nat), Below W.heap.size W W1 → Kd.C (Kd.int .u8) W1 A (bytesOf s).length (bytesOf s) → (bytesOf s).length ≤ c → wpList P ops Q rest (a.put (some N) (.slice A (bytesOf s).length c)) W1) : wpList P ops Q (o :: rest) a W := by
  have hsr := SeenRow.conv W W.heap.size e s (Nat.le_refl _) (by omega)
  obtain ⟨A, c, he, hc, hC⟩ := hsr.reads
  have hb : Below W.heap.size W (Lib.bytesWorld W e s) := below_freeze (below_alloc (below_drew (Below.refl _ _)) _) _ _ (Nat.le_refl _)
  refine Kd.event_run hgd (v := .slice (some ⟨W.heap.size, 0, none⟩) s.size (grownCap W s.size 0 e)) (w1 := Lib.bytesWorld W e s) ?_ ?_
  · unfold execOp
    rw [ho]
    simp [hx, Lib.run_convert_string_bytes W src dst e s hsu hdu heu, Result.andThen]
  · rw [he, hd]
    exact h _ A c hb hC hc

end Go.Proofs.Ytjpkjakdhbnehaa.Q
end
