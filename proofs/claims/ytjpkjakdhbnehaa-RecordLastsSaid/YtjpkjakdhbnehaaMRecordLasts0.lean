/- RecordLasts: for every input the statement's function returns true; there is no further condition. Text 1 of 6: this session's texts, laid together by its own program (merge.py). Not trusted: Lean checks them. -/
import Derived.Test.YtjpkjakdhbnehaaProg
import Derived.Below
import Derived.Deep.Draws
import Derived.Deep.AppendLies
import Derived.Maps.AppendAt
import Derived.OwnWalk
import Derived.Laws.BytesArg
import Derived.Laws.MakeOwn
import Derived.Laws.OwnMore
import Derived.Deep.OwnRows
import Derived.Tactics
import Derived.Lib.ConvBytes
import Derived.Laws.Slices
import Derived.WalkKit
import Derived.KernelRfl
import Derived.RowKit3
import Derived.Deep.LoopGhost
import Derived.Deep.QuietTactic
import Derived.BigQuiet
import Derived.WideLaws
import Derived.Deep.DeepCutAuto
import Derived.Deep.CutBlock
import Derived.Deep.RegionHeld3
import Derived.Laws.Rows
import Derived.Lib.AppendStr
import Derived.ArgAppend
import Derived.Laws.IdiomCopy
import Derived.OrdersHeld
import Derived.Laws.BitsLemmas
import Derived.RowKit
import Derived.Laws.CopyOwn
import Derived.Lib.SliceRun
import Derived.Outline
import Derived.Test.YtjpkjakdhbnehaaWWords
import Derived.Test.YtjpkjakdhbnehaaWLast
import Derived.Test.YtjpkjakdhbnehaaWTab
import Derived.Test.YtjpkjakdhbnehaaWFour
import Derived.Test.YtjpkjakdhbnehaaWQPut
import Derived.Test.YtjpkjakdhbnehaaWApart
import Derived.Test.YtjpkjakdhbnehaaWArr
import Derived.Test.YtjpkjakdhbnehaaWZeros
import Derived.Test.YtjpkjakdhbnehaaWFoot
import Derived.Test.YtjpkjakdhbnehaaWKept
import Derived.Test.YtjpkjakdhbnehaaWShare
import Derived.Test.YtjpkjakdhbnehaaWN
import Derived.Test.YtjpkjakdhbnehaaWFootNe
import Derived.Test.YtjpkjakdhbnehaaWAt
import Derived.Test.YtjpkjakdhbnehaaWEqStruct
import Derived.Test.YtjpkjakdhbnehaaWRepsOne
import Derived.Test.YtjpkjakdhbnehaaWInv
import Derived.Test.YtjpkjakdhbnehaaWInvWords
import Derived.Test.YtjpkjakdhbnehaaWGuard
import Derived.Test.YtjpkjakdhbnehaaWNEv
import Derived.Test.YtjpkjakdhbnehaaWMore
import Derived.ProofKit
import Derived.OpenShut
import Derived.ShutString
import Derived.ChangeOld
import Derived.SizedLaws
import Derived.Deep.Grids
section
-- Written by this session's own program (ext_print.py) over the kit's print.py, hand proofs among it. Not trusted: Lean checks it.
namespace Go.Proofs.Ytjpkjakdhbnehaa.Q
open Go.RowKit Go.Proofs.YtjpkjakdhbnehaaW.PrintWords Go.Proofs.YtjpkjakdhbnehaaW.PrintLast Go.Proofs.YtjpkjakdhbnehaaW.PrintMore
attribute [local go_sem] max2_int min2_int max_two min_two max_three min_three max_four min_four   -- for this text's walks alone
set_option linter.unusedVariables false
set_option linter.unusedSimpArgs false



def errW : Option Int → Value
  | none => .nilIface
  | some c => .iface 0 (.int .i64 c)
theorem errW_none : errW none = .nilIface := rfl
theorem errW_some (c : Int) : errW (some c) = .iface 0 (.int .i64 c) := rfl

theorem info5 : (Try.prog.info? 5).map (fun i => (i.zero, i.size, i.bytes)) = some (some (.int .u8 0), 1, 1) := by kernel_rfl
theorem info23 : (Try.prog.info? 23).map (fun i => (i.zero, i.size, i.bytes)) = some (some (.slice none 0 0), 1, 24) := by kernel_rfl
theorem info25 : (Try.prog.info? 25).map (fun i => (i.zero, i.size, i.bytes)) = some (some (.agg #[(.int .u64 0), (.slice none 0 0)]), 2, 32) := by kernel_rfl
theorem info27 : (Try.prog.info? 27).map (fun i => (i.zero, i.size, i.bytes)) = some (some (.slice none 0 0), 1, 24) := by kernel_rfl
theorem info30 : (Try.prog.info? 30).map (fun i => (i.zero, i.size, i.bytes)) = some (some (.agg #[(.int .u64 0), (.slice none 0 0), (.bool false)]), 3, 40) := by kernel_rfl
theorem info37 : (Try.prog.info? 37).map (fun i => (i.zero, i.size, i.bytes)) = some (some (.agg #[(.int .u64 0), (.string ⟨#[]⟩)]), 2, 24) := by kernel_rfl
theorem info39 : (Try.prog.info? 39).map (fun i => (i.zero, i.size, i.bytes)) = some (some (.agg #[(.int .u64 0), (.string ⟨#[]⟩), (.bool false)]), 3, 32) := by kernel_rfl
theorem info54 : (Try.prog.info? 54).map (fun i => (i.zero, i.size, i.bytes)) = some (some (.slice none 0 0), 1, 24) := by kernel_rfl
-- the values' own types
def rd_L1 (xs : List (List Int)) (i : Int) : (List Int) := xs.getD i.toNat ([] : List Int)
theorem at_L1 {w : World} {A : Option Addr} {n : Nat} {xs : List (List Int)} (h : Kd.C (Kd.slice 5 (Kd.int .u8)) w A n xs) (i : Int) (h0 : 0 ≤ i) (h1 : i < n) : ∃ ad A0 c0, A = some ad ∧ w.cell? (ad.add i.toNat) = some (.slice A0 (rd_L1 xs i).length c0) ∧ (rd_L1 xs i).length ≤ c0 ∧ (Kd.int .u8).C w A0 (rd_L1 xs i).length (rd_L1 xs i) := by
  obtain ⟨ad, c, e, _, hK, hc0⟩ := Kd.C_get h ([] : List Int) i h0 h1
  have hc : ∀ j u, c[j]? = some u → w.cell? (ad.add (i.toNat * 1 + j)) = some u := hc0
  obtain ⟨A0, c0, rfl, l0, g0⟩ := hK
  exact ⟨ad, A0, c0, e, by have hq := hc 0 _ rfl; rwa [Nat.mul_one, Nat.add_zero] at hq, l0, g0⟩

def rd_L2 (xs : List (List (List Int))) (i : Int) : (List (List Int)) := xs.getD i.toNat ([] : List (List Int))
theorem at_L2 {w : World} {A : Option Addr} {n : Nat} {xs : List (List (List Int))} (h : Kd.C (Kd.slice 23 (Kd.slice 5 (Kd.int .u8))) w A n xs) (i : Int) (h0 : 0 ≤ i) (h1 : i < n) : ∃ ad A0 c0, A = some ad ∧ w.cell? (ad.add i.toNat) = some (.slice A0 (rd_L2 xs i).length c0) ∧ (rd_L2 xs i).length ≤ c0 ∧ (Kd.slice 5 (Kd.int .u8)).C w A0 (rd_L2 xs i).length (rd_L2 xs i) := by
  obtain ⟨ad, c, e, _, hK, hc0⟩ := Kd.C_get h ([] : List (List Int)) i h0 h1
  have hc : ∀ j u, c[j]? = some u → w.cell? (ad.add (i.toNat * 1 + j)) = some u := hc0
  obtain ⟨A0, c0, rfl, l0, g0⟩ := hK
  exact ⟨ad, A0, c0, e, by have hq := hc 0 _ rfl; rwa [Nat.mul_one, Nat.add_zero] at hq, l0, g0⟩

/-! #### struct type 25 -/
structure S25 where
  f0 : Int
  f1 : (List Int)
def z25 : S25 := ⟨(0 : Int), ([] : List Int)⟩
def k25 : Kd S25 := Kd.iso (Kd.pair (Kd.int .u64) (Kd.slice 5 (Kd.int .u8))) (fun x : S25 => (x.f0, x.f1))
theorem k25_open {w : World} {x : S25} {cs : List Value} (h : k25.K w x cs) : ∃ A1 c1, cs = [.int .u64 x.f0, .slice A1 x.f1.length c1] ∧ x.f1.length ≤ c1 ∧ (Kd.int .u8).C w A1 x.f1.length x.f1 := by
  obtain ⟨_, _, rfl, rfl, ⟨A1, c1, rfl, l1, g1⟩⟩ := h
  exact ⟨A1, c1, rfl, l1, g1⟩
theorem k25_openM {w : World} {base : Nat} {ok : Nat → Prop} {x : S25} {cs : List Value} (h : k25.M w base ok x cs) : ∃ v1, cs = [.int .u64 x.f0, v1] ∧ (Kd.int .u8).R 5 w base ok v1 x.f1 := by
  obtain ⟨_, _, rfl, rfl, ⟨v1, rfl, g1⟩⟩ := h
  exact ⟨v1, rfl, g1⟩
theorem k25_mk (w : World) (x : S25) {A1 : Option Addr} {c1 : Nat} (l1 : x.f1.length ≤ c1) (g1 : (Kd.int .u8).C w A1 x.f1.length x.f1) : k25.K w x [.int .u64 x.f0, .slice A1 x.f1.length c1] := ⟨[.int .u64 x.f0], [.slice A1 x.f1.length c1], rfl, rfl, ⟨A1, c1, rfl, l1, g1⟩⟩
theorem k25_mkM (w : World) (base : Nat) (ok : Nat → Prop) (x : S25) {v1 : Value} (g1 : (Kd.int .u8).R 5 w base ok v1 x.f1) : k25.M w base ok x [.int .u64 x.f0, v1] := ⟨[.int .u64 x.f0], [v1], rfl, rfl, ⟨v1, rfl, g1⟩⟩
theorem k25_openF {W : World} {ok : Nat → Prop} {x : S25} {cs : List Value} (h : Kd.FK k25 W ok x cs) : ∃ A1 c1, cs = [.int .u64 x.f0, .slice A1 x.f1.length c1] ∧ x.f1.length ≤ c1 ∧ Kd.F (Kd.int .u8) W ok A1 x.f1.length x.f1 := by
  obtain ⟨A1, c1, rfl, l1, _⟩ := k25_open (Kd.FK_now h)
  exact ⟨A1, c1, rfl, l1, (fun W' hW => by obtain ⟨A1_, c1_, he, l1_, g1_⟩ := k25_open (h W' hW); injection (Option.some.inj (show some (Value.slice A1 x.f1.length c1) = some (Value.slice A1_ x.f1.length c1_) from congrArg (fun l => l[1]?) he)) with ha_ _ _; rw [ha_]; exact g1_)⟩
theorem k25_mkF (W : World) (ok : Nat → Prop) (x : S25) {A1 : Option Addr} {c1 : Nat} (l1 : x.f1.length ≤ c1) (g1 : Kd.F (Kd.int .u8) W ok A1 x.f1.length x.f1) : Kd.FK k25 W ok x [.int .u64 x.f0, .slice A1 x.f1.length c1] := fun W2 hW => k25_mk W2 x l1 (g1 W2 hW)
def rd_T25 (xs : List S25) (i : Int) : S25 := xs.getD i.toNat z25
theorem at_T25 {w : World} {A : Option Addr} {n : Nat} {xs : List S25} (h : Kd.C k25 w A n xs) (i : Int) (h0 : 0 ≤ i) (h1 : i < n) : ∃ ad A1 c1, A = some ad ∧ w.cell? (ad.add (i.toNat * 2)) = some (.int .u64 (rd_T25 xs i).f0) ∧ w.cell? ⟨(ad.add (i.toNat * 2)).block, (ad.add (i.toNat * 2)).off + 1, none⟩ = some (.slice A1 (rd_T25 xs i).f1.length c1) ∧ (rd_T25 xs i).f1.length ≤ c1 ∧ (Kd.int .u8).C w A1 (rd_T25 xs i).f1.length (rd_T25 xs i).f1 := by
  obtain ⟨ad, c, e, _, hK, hc0⟩ := Kd.C_get h z25 i h0 h1
  have hc : ∀ j u, c[j]? = some u → w.cell? (ad.add (i.toNat * 2 + j)) = some u := hc0
  obtain ⟨A1, c1, rfl, l1, g1⟩ := k25_open hK
  exact ⟨ad, A1, c1, e, hc 0 _ rfl, by rw [← add_field _ _ 1 (by omega)]; exact hc 1 _ rfl, l1, g1⟩

/-! #### struct type 30 -/
structure S30 where
  f0 : S25
  f1 : Bool
def z30 : S30 := ⟨z25, false⟩
def k30 : Kd S30 := Kd.iso (Kd.pair k25 Kd.bool) (fun x : S30 => (x.f0, x.f1))
theorem k30_open {w : World} {x : S30} {cs : List Value} (h : k30.K w x cs) : ∃ A1 c1, cs = [.int .u64 x.f0.f0, .slice A1 x.f0.f1.length c1, .bool x.f1] ∧ x.f0.f1.length ≤ c1 ∧ (Kd.int .u8).C w A1 x.f0.f1.length x.f0.f1 := by
  obtain ⟨_, _, rfl, s0, rfl⟩ := h
  obtain ⟨A1, c1, rfl, l1, g1⟩ := k25_open s0
  exact ⟨A1, c1, rfl, l1, g1⟩
theorem k30_openM {w : World} {base : Nat} {ok : Nat → Prop} {x : S30} {cs : List Value} (h : k30.M w base ok x cs) : ∃ v1, cs = [.int .u64 x.f0.f0, v1, .bool x.f1] ∧ (Kd.int .u8).R 5 w base ok v1 x.f0.f1 := by
  obtain ⟨_, _, rfl, s0, rfl⟩ := h
  obtain ⟨v1, rfl, g1⟩ := k25_openM s0
  exact ⟨v1, rfl, g1⟩
theorem k30_mk (w : World) (x : S30) {A1 : Option Addr} {c1 : Nat} (l1 : x.f0.f1.length ≤ c1) (g1 : (Kd.int .u8).C w A1 x.f0.f1.length x.f0.f1) : k30.K w x [.int .u64 x.f0.f0, .slice A1 x.f0.f1.length c1, .bool x.f1] := ⟨[.int .u64 x.f0.f0, .slice A1 x.f0.f1.length c1], [.bool x.f1], rfl, (k25_mk w x.f0 l1 g1), rfl⟩
theorem k30_mkM (w : World) (base : Nat) (ok : Nat → Prop) (x : S30) {v1 : Value} (g1 : (Kd.int .u8).R 5 w base ok v1 x.f0.f1) : k30.M w base ok x [.int .u64 x.f0.f0, v1, .bool x.f1] := ⟨[.int .u64 x.f0.f0, v1], [.bool x.f1], rfl, (k25_mkM w base ok x.f0 g1), rfl⟩
theorem k30_openF {W : World} {ok : Nat → Prop} {x : S30} {cs : List Value} (h : Kd.FK k30 W ok x cs) : ∃ A1 c1, cs = [.int .u64 x.f0.f0, .slice A1 x.f0.f1.length c1, .bool x.f1] ∧ x.f0.f1.length ≤ c1 ∧ Kd.F (Kd.int .u8) W ok A1 x.f0.f1.length x.f0.f1 := by
  obtain ⟨A1, c1, rfl, l1, _⟩ := k30_open (Kd.FK_now h)
  exact ⟨A1, c1, rfl, l1, (fun W' hW => by obtain ⟨A1_, c1_, he, l1_, g1_⟩ := k30_open (h W' hW); injection (Option.some.inj (show some (Value.slice A1 x.f0.f1.length c1) = some (Value.slice A1_ x.f0.f1.length c1_) from congrArg (fun l => l[1]?) he)) with ha_ _ _; rw [ha_]; exact g1_)⟩
theorem k30_mkF (W : World) (ok : Nat → Prop) (x : S30) {A1 : Option Addr} {c1 : Nat} (l1 : x.f0.f1.length ≤ c1) (g1 : Kd.F (Kd.int .u8) W ok A1 x.f0.f1.length x.f0.f1) : Kd.FK k30 W ok x [.int .u64 x.f0.f0, .slice A1 x.f0.f1.length c1, .bool x.f1] := fun W2 hW => k30_mk W2 x l1 (g1 W2 hW)
def rd_T30 (xs : List S30) (i : Int) : S30 := xs.getD i.toNat z30
theorem at_T30 {w : World} {A : Option Addr} {n : Nat} {xs : List S30} (h : Kd.C k30 w A n xs) (i : Int) (h0 : 0 ≤ i) (h1 : i < n) : ∃ ad A1 c1, A = some ad ∧ w.cell? (ad.add (i.toNat * 3)) = some (.int .u64 (rd_T30 xs i).f0.f0) ∧ w.cell? ⟨(ad.add (i.toNat * 3)).block, (ad.add (i.toNat * 3)).off + 1, none⟩ = some (.slice A1 (rd_T30 xs i).f0.f1.length c1) ∧ w.cell? ⟨(ad.add (i.toNat * 3)).block, (ad.add (i.toNat * 3)).off + 2, none⟩ = some (.bool (rd_T30 xs i).f1) ∧ (rd_T30 xs i).f0.f1.length ≤ c1 ∧ (Kd.int .u8).C w A1 (rd_T30 xs i).f0.f1.length (rd_T30 xs i).f0.f1 := by
  obtain ⟨ad, c, e, _, hK, hc0⟩ := Kd.C_get h z30 i h0 h1
  have hc : ∀ j u, c[j]? = some u → w.cell? (ad.add (i.toNat * 3 + j)) = some u := hc0
  obtain ⟨A1, c1, rfl, l1, g1⟩ := k30_open hK
  exact ⟨ad, A1, c1, e, hc 0 _ rfl, by rw [← add_field _ _ 1 (by omega)]; exact hc 1 _ rfl, by rw [← add_field _ _ 2 (by omega)]; exact hc 2 _ rfl, l1, g1⟩

/-! #### struct type 37 -/
structure S37 where
  f0 : Int
  f1 : ByteArray
def z37 : S37 := ⟨(0 : Int), (⟨#[]⟩ : ByteArray)⟩
def k37 : Kd S37 := Kd.iso (Kd.pair (Kd.int .u64) Kd.string) (fun x : S37 => (x.f0, x.f1))
theorem k37_open {w : World} {x : S37} {cs : List Value} (h : k37.K w x cs) : cs = [.int .u64 x.f0, .string x.f1] := by
  obtain ⟨_, _, rfl, rfl, rfl⟩ := h
  exact rfl
theorem k37_openM {w : World} {base : Nat} {ok : Nat → Prop} {x : S37} {cs : List Value} (h : k37.M w base ok x cs) : cs = [.int .u64 x.f0, .string x.f1] := by
  obtain ⟨_, _, rfl, rfl, rfl⟩ := h
  exact rfl
theorem k37_mk (w : World) (x : S37)  : k37.K w x [.int .u64 x.f0, .string x.f1] := ⟨[.int .u64 x.f0], [.string x.f1], rfl, rfl, rfl⟩
theorem k37_mkM (w : World) (base : Nat) (ok : Nat → Prop) (x : S37)  : k37.M w base ok x [.int .u64 x.f0, .string x.f1] := ⟨[.int .u64 x.f0], [.string x.f1], rfl, rfl, rfl⟩
theorem k37_mkF (W : World) (ok : Nat → Prop) (x : S37) : Kd.FK k37 W ok x [.int .u64 x.f0, .string x.f1] := fun W2 _ => k37_mk W2 x
def rd_T37 (xs : List S37) (i : Int) : S37 := xs.getD i.toNat z37
theorem at_T37 {w : World} {A : Option Addr} {n : Nat} {xs : List S37} (h : Kd.C k37 w A n xs) (i : Int) (h0 : 0 ≤ i) (h1 : i < n) : ∃ ad , A = some ad ∧ w.cell? (ad.add (i.toNat * 2)) = some (.int .u64 (rd_T37 xs i).f0) ∧ w.cell? ⟨(ad.add (i.toNat * 2)).block, (ad.add (i.toNat * 2)).off + 1, none⟩ = some (.string (rd_T37 xs i).f1) := by
  obtain ⟨ad, c, e, _, hK, hc0⟩ := Kd.C_get h z37 i h0 h1
  have hc : ∀ j u, c[j]? = some u → w.cell? (ad.add (i.toNat * 2 + j)) = some u := hc0
  obtain rfl := k37_open hK
  exact ⟨ad, e, hc 0 _ rfl, by rw [← add_field _ _ 1 (by omega)]; exact hc 1 _ rfl⟩

/-! #### struct type 39 -/
structure S39 where
  f0 : S37
  f1 : Bool
def z39 : S39 := ⟨z37, false⟩
def k39 : Kd S39 := Kd.iso (Kd.pair k37 Kd.bool) (fun x : S39 => (x.f0, x.f1))
theorem k39_open {w : World} {x : S39} {cs : List Value} (h : k39.K w x cs) : cs = [.int .u64 x.f0.f0, .string x.f0.f1, .bool x.f1] := by
  obtain ⟨_, _, rfl, s0, rfl⟩ := h
  obtain rfl := k37_open s0
  exact rfl
theorem k39_openM {w : World} {base : Nat} {ok : Nat → Prop} {x : S39} {cs : List Value} (h : k39.M w base ok x cs) : cs = [.int .u64 x.f0.f0, .string x.f0.f1, .bool x.f1] := by
  obtain ⟨_, _, rfl, s0, rfl⟩ := h
  obtain rfl := k37_openM s0
  exact rfl
theorem k39_mk (w : World) (x : S39)  : k39.K w x [.int .u64 x.f0.f0, .string x.f0.f1, .bool x.f1] := ⟨[.int .u64 x.f0.f0, .string x.f0.f1], [.bool x.f1], rfl, (k37_mk w x.f0 ), rfl⟩
theorem k39_mkM (w : World) (base : Nat) (ok : Nat → Prop) (x : S39)  : k39.M w base ok x [.int .u64 x.f0.f0, .string x.f0.f1, .bool x.f1] := ⟨[.int .u64 x.f0.f0, .string x.f0.f1], [.bool x.f1], rfl, (k37_mkM w base ok x.f0 ), rfl⟩
theorem k39_mkF (W : World) (ok : Nat → Prop) (x : S39) : Kd.FK k39 W ok x [.int .u64 x.f0.f0, .string x.f0.f1, .bool x.f1] := fun W2 _ => k39_mk W2 x
def rd_T39 (xs : List S39) (i : Int) : S39 := xs.getD i.toNat z39
theorem at_T39 {w : World} {A : Option Addr} {n : Nat} {xs : List S39} (h : Kd.C k39 w A n xs) (i : Int) (h0 : 0 ≤ i) (h1 : i < n) : ∃ ad , A = some ad ∧ w.cell? (ad.add (i.toNat * 3)) = some (.int .u64 (rd_T39 xs i).f0.f0) ∧ w.cell? ⟨(ad.add (i.toNat * 3)).block, (ad.add (i.toNat * 3)).off + 1, none⟩ = some (.string (rd_T39 xs i).f0.f1) ∧ w.cell? ⟨(ad.add (i.toNat * 3)).block, (ad.add (i.toNat * 3)).off + 2, none⟩ = some (.bool (rd_T39 xs i).f1) := by
  obtain ⟨ad, c, e, _, hK, hc0⟩ := Kd.C_get h z39 i h0 h1
  have hc : ∀ j u, c[j]? = some u → w.cell? (ad.add (i.toNat * 3 + j)) = some u := hc0
  obtain rfl := k39_open hK
  exact ⟨ad, e, hc 0 _ rfl, by rw [← add_field _ _ 1 (by omega)]; exact hc 1 _ rfl, by rw [← add_field _ _ 2 (by omega)]; exact hc 2 _ rfl⟩

def rd_L11 (xs : List (List S30)) (i : Int) : (List S30) := xs.getD i.toNat ([] : List S30)
theorem at_L11 {w : World} {A : Option Addr} {n : Nat} {xs : List (List S30)} (h : Kd.C (Kd.slice 30 k30) w A n xs) (i : Int) (h0 : 0 ≤ i) (h1 : i < n) : ∃ ad A0 c0, A = some ad ∧ w.cell? (ad.add i.toNat) = some (.slice A0 (rd_L11 xs i).length c0) ∧ (rd_L11 xs i).length ≤ c0 ∧ k30.C w A0 (rd_L11 xs i).length (rd_L11 xs i) := by
  obtain ⟨ad, c, e, _, hK, hc0⟩ := Kd.C_get h ([] : List S30) i h0 h1
  have hc : ∀ j u, c[j]? = some u → w.cell? (ad.add (i.toNat * 1 + j)) = some u := hc0
  obtain ⟨A0, c0, rfl, l0, g0⟩ := hK
  exact ⟨ad, A0, c0, e, by have hq := hc 0 _ rfl; rwa [Nat.mul_one, Nat.add_zero] at hq, l0, g0⟩

def rd_L12 (xs : List (List S25)) (i : Int) : (List S25) := xs.getD i.toNat ([] : List S25)
theorem at_L12 {w : World} {A : Option Addr} {n : Nat} {xs : List (List S25)} (h : Kd.C (Kd.slice 25 k25) w A n xs) (i : Int) (h0 : 0 ≤ i) (h1 : i < n) : ∃ ad A0 c0, A = some ad ∧ w.cell? (ad.add i.toNat) = some (.slice A0 (rd_L12 xs i).length c0) ∧ (rd_L12 xs i).length ≤ c0 ∧ k25.C w A0 (rd_L12 xs i).length (rd_L12 xs i) := by
  obtain ⟨ad, c, e, _, hK, hc0⟩ := Kd.C_get h ([] : List S25) i h0 h1
  have hc : ∀ j u, c[j]? = some u → w.cell? (ad.add (i.toNat * 1 + j)) = some u := hc0
  obtain ⟨A0, c0, rfl, l0, g0⟩ := hK
  exact ⟨ad, A0, c0, e, by have hq := hc 0 _ rfl; rwa [Nat.mul_one, Nat.add_zero] at hq, l0, g0⟩

def rd_L13 (xs : List (List (List S25))) (i : Int) : (List (List S25)) := xs.getD i.toNat ([] : List (List S25))
theorem at_L13 {w : World} {A : Option Addr} {n : Nat} {xs : List (List (List S25))} (h : Kd.C (Kd.slice 27 (Kd.slice 25 k25)) w A n xs) (i : Int) (h0 : 0 ≤ i) (h1 : i < n) : ∃ ad A0 c0, A = some ad ∧ w.cell? (ad.add i.toNat) = some (.slice A0 (rd_L13 xs i).length c0) ∧ (rd_L13 xs i).length ≤ c0 ∧ (Kd.slice 25 k25).C w A0 (rd_L13 xs i).length (rd_L13 xs i) := by
  obtain ⟨ad, c, e, _, hK, hc0⟩ := Kd.C_get h ([] : List (List S25)) i h0 h1
  have hc : ∀ j u, c[j]? = some u → w.cell? (ad.add (i.toNat * 1 + j)) = some u := hc0
  obtain ⟨A0, c0, rfl, l0, g0⟩ := hK
  exact ⟨ad, A0, c0, e, by have hq := hc 0 _ rfl; rwa [Nat.mul_one, Nat.add_zero] at hq, l0, g0⟩

def rd_L14 (xs : List (List S37)) (i : Int) : (List S37) := xs.getD i.toNat ([] : List S37)
theorem at_L14 {w : World} {A : Option Addr} {n : Nat} {xs : List (List S37)} (h : Kd.C (Kd.slice 37 k37) w A n xs) (i : Int) (h0 : 0 ≤ i) (h1 : i < n) : ∃ ad A0 c0, A = some ad ∧ w.cell? (ad.add i.toNat) = some (.slice A0 (rd_L14 xs i).length c0) ∧ (rd_L14 xs i).length ≤ c0 ∧ k37.C w A0 (rd_L14 xs i).length (rd_L14 xs i) := by
  obtain ⟨ad, c, e, _, hK, hc0⟩ := Kd.C_get h ([] : List S37) i h0 h1
  have hc : ∀ j u, c[j]? = some u → w.cell? (ad.add (i.toNat * 1 + j)) = some u := hc0
  obtain ⟨A0, c0, rfl, l0, g0⟩ := hK
  exact ⟨ad, A0, c0, e, by have hq := hc 0 _ rfl; rwa [Nat.mul_one, Nat.add_zero] at hq, l0, g0⟩

end Go.Proofs.Ytjpkjakdhbnehaa.Q
end
section
/- Slices of images, and of booleans, that come in. -/
namespace Go.Proofs.Ytjpkjakdhbnehaa.Q
open Go.ChangeShapes Go.WideShapes Go.ChangeAt Go.RowKit Go.Proofs.YtjpkjakdhbnehaaW.PrintWords
set_option linter.unusedVariables false
set_option linter.unusedSimpArgs false
theorem list_of' {α : Type} {p : Nat → α → Prop} : ∀ (n : Nat), (∀ i, i < n → ∃ x, p i x) → ∃ l : List α, l.length = n ∧ ∀ i x, l[i]? = some x → p i x
  | 0, _ => ⟨[], rfl, fun i x h => by simp at h⟩
  | n + 1, h => by
    obtain ⟨l, h1, h2⟩ := list_of' n (fun i hi => h i (by omega))
    obtain ⟨y, hy⟩ := h n (by omega)
    refine ⟨l ++ [y], by simp [h1], fun i x hx => ?_⟩
    by_cases hi : i < l.length
    · rw [List.getElem?_append_left hi] at hx
      exact h2 i x hx
    · have hlt := (List.getElem?_eq_some_iff.1 hx).1
      simp at hlt
      have : i = l.length := by omega
      subst this
      rw [List.getElem?_append_right (Nat.le_refl _), Nat.sub_self] at hx
      simp at hx
      subst hx
      rw [h1]
      exact hy
theorem add_add' {a : Addr} {i j : Nat} : (a.add i).add j = a.add (i + j) := by
  unfold Addr.add
  by_cases ha : i = 0 <;> by_cases hb : j = 0 <;> simp [ha, hb, Nat.add_assoc]
section
variable {H : Type} {enc : TypeId × Value → H} {W : World} {held : Bool} {fuel : Nat} {cs : List Value} {y : DataW H × List MemPlace}
theorem open_u8s (h : DataW.trod enc Try.prog W 0 (fun _ => true) held fuel 23 cs = some y) : ∃ (A : Option Addr) (l : List Int) (c : Nat), cs = [.slice A l.length c] ∧ l.length ≤ c ∧ Kd.C (Kd.int .u8) W A l.length l := by
  have key : ∃ (a : Option Addr) (len cap : Nat) (zs : List Int), cs = [.slice a len cap] ∧ ((a = none ∧ len = 0 ∧ cap = 0 ∧ zs = []) ∨ ∃ x, a = some x ∧ len ≤ cap ∧ cap ≤ maxLen ∧ zs.length = cap ∧ (∀ i, i < zs.length → W.cell? (x.add i) = some (.int .u8 (zs.getD i 0))) ∧ ∀ n ∈ zs, (Lit.int .u8 n).wf = true) := by
    rcases open_ints Try.underlying23 Try.underlying5 (by kernel_rfl) h with ⟨e_, _⟩ | ⟨x, l, c, zs, e_, _, hl_, hm_, hz_, _, hc_, hw_⟩
    · exact ⟨none, 0, 0, [], e_, .inl ⟨rfl, rfl, rfl, rfl⟩⟩
    · exact ⟨some x, l, c, zs, e_, .inr ⟨_, rfl, hl_, hm_, by simpa using hz_, hc_, hw_⟩⟩
  obtain ⟨a, len, cap, zs, e, hz⟩ := key
  obtain ⟨l, rfl, hr, hm, hw, hc⟩ := ReadsInt.ofRowC hz
  exact ⟨a, l, cap, e, hc, Kd.C_of_reads (d := (0 : Int)) (h1 := fun _ => rfl) hr⟩
theorem open_img (h : DataW.trod enc Try.prog W 0 (fun _ => true) held fuel 25 cs = some y) : ∃ x : S25, k25.K W x cs := by
  obtain ⟨xs, n, _, _, hl, hlen, hff⟩ := DataW.trod_struct Try.underlying25 h
  have hsz : cs.length = 2 := hl.trans (by kernel_rfl)
  obtain ⟨c0, c1, rfl⟩ : ∃ c0 c1 : Value, cs = [c0, c1] := by
    rcases cs with _ | ⟨c0, _ | ⟨c1, _ | ⟨_, _⟩⟩⟩ <;> simp at hsz
    exact ⟨c0, c1, rfl⟩
  have hq0 := hff 0 _ rfl
  rw [List.getElem?_eq_getElem (show 0 < xs.length by rw [hlen]; decide)] at hq0
  have u0 : Try.prog.cellsOf 22 = 1 := by kernel_rfl
  obtain ⟨b, e_, _, w0⟩ := DataW.trod_int Try.underlying22 hq0
  obtain rfl : c0 = .int .u64 b := by simpa [u0] using e_
  have hq1 := hff 1 _ rfl
  rw [List.getElem?_eq_getElem (show 1 < xs.length by rw [hlen]; decide)] at hq1
  have u1 : Try.prog.cellsOf 23 = 1 := by kernel_rfl
  obtain ⟨A, l, c, e1, hc, hC⟩ := open_u8s hq1
  obtain rfl : c1 = .slice A l.length c := by simpa [u1] using e1
  exact ⟨⟨b, l⟩, k25_mk W ⟨b, l⟩ hc hC⟩
/-- A slice of elements each of which is read. -/
theorem open_row {α : Type} (d : Kd α) {t e : TypeId} (ht : Try.prog.underlying t = some (.slice e)) (hsz : Try.prog.cellsOf e = d.sz) (he : ∀ (n : Nat) (cs : List Value) (y : DataW H × List MemPlace), DataW.trod enc Try.prog W 0 (fun _ => true) held n e cs = some y → ∃ x, d.K W x cs)
    (h : DataW.trod enc Try.prog W 0 (fun _ => true) held fuel t cs = some y) : ∃ (A : Option Addr) (xs : List α) (c : Nat), cs = [.slice A xs.length c] ∧ xs.length ≤ c ∧ Kd.C d W A xs.length xs := by
  rcases DataW.trod_slice ht h with ⟨hcs, _⟩ | ⟨ad, len', cap', elems, rest, n, _, hcs, hx, _, hle, hm, hlen, hel, _, _⟩
  · exact ⟨none, [], 0, hcs, Nat.le_refl _, rfl, by simp, fun h => absurd h (by simp)⟩
  · obtain ⟨l, h1, h2⟩ := list_of' (p := fun i x => ∃ c : List Value, c.length = d.sz ∧ d.K W x c ∧ ∀ (k : Nat) (u : Value), c[k]? = some u → W.cell? (ad.add (i * d.sz + k)) = some u) len' (fun i hi => by
      have hq := hel i hi
      rw [List.getElem?_eq_getElem (by omega), Option.bind_eq_some_iff] at hq
      obtain ⟨c, hc, hq⟩ := hq
      obtain ⟨x, hx⟩ := he n c _ hq
      rw [hsz] at hc
      obtain ⟨_, hcl, hcg⟩ := World.cells?_some hc
      refine ⟨x, c, hcl, hx, fun k u hu => ?_⟩
      have hk := (List.getElem?_eq_some_iff.1 hu).1
      have := hcg k (by omega)
      rw [add_add'] at this
      rw [this, hu])
    refine ⟨some ad, l, cap', by rw [h1]; exact hcs, by omega, rfl, by simp only [maxLen] at hm; omega, fun _ => ⟨ad, rfl, fun j p hj => h2 j p hj⟩⟩
theorem open_imgs (h : DataW.trod enc Try.prog W 0 (fun _ => true) held fuel 27 cs = some y) : ∃ (A : Option Addr) (xs : List S25) (c : Nat), cs = [.slice A xs.length c] ∧ xs.length ≤ c ∧ Kd.C k25 W A xs.length xs :=
  open_row k25 Try.underlying27 (by kernel_rfl) (fun n cs y h => open_img h) h
theorem open_imgss (h : DataW.trod enc Try.prog W 0 (fun _ => true) held fuel 56 cs = some y) : ∃ (A : Option Addr) (xs : List (List S25)) (c : Nat), cs = [.slice A xs.length c] ∧ xs.length ≤ c ∧ Kd.C (Kd.slice 25 k25) W A xs.length xs :=
  open_row (Kd.slice 25 k25) Try.underlying56 (by kernel_rfl) (fun n cs y h => by
    obtain ⟨A, xs, c, rfl, hc, hC⟩ := open_imgs h
    exact ⟨xs, A, c, rfl, hc, hC⟩) h
theorem open_bls (h : DataW.trod enc Try.prog W 0 (fun _ => true) held fuel 47 cs = some y) : ∃ (A : Option Addr) (xs : List Bool) (c : Nat), cs = [.slice A xs.length c] ∧ xs.length ≤ c ∧ Kd.C Kd.bool W A xs.length xs :=
  open_row Kd.bool Try.underlying47 (by kernel_rfl) (fun n cs y h => by
    obtain ⟨b, h1, _⟩ := DataW.trod_bool Try.underlying4 h
    exact ⟨b, h1⟩) h
end
/-- What came in, and what is known of it. -/
structure RowIn (α : Type) where
  a : Option Addr
  c : Nat
  xs : List α
def RowIn.Ok {α : Type} (d : Kd α) (W : World) (x : RowIn α) : Prop := Kd.C d W x.a x.xs.length x.xs ∧ x.xs.length ≤ x.c
section
variable {H : Type} {enc : TypeId × Value → H} {W : World} {base : Nat} {r : _} {v : Value} {d : DataW H} {p : List MemPlace}
theorem in_imgs (hv : Value.okWide Try.prog W r base 27 v) (h : DataW.Trod enc Try.prog W 0 (fun _ => true) true 27 v d p) : ∃ x : RowIn S25, RowIn.Ok k25 W x ∧ v = .slice x.a x.xs.length x.c := by
  obtain ⟨a, len, cap, rfl⟩ := okWide_slice Try.underlying27 hv
  obtain ⟨fuel, hf⟩ := h
  obtain ⟨A, xs, c, e, hc, hC⟩ := open_imgs hf
  simp [Value.cells] at e
  obtain ⟨rfl, rfl, rfl⟩ := e
  exact ⟨⟨_, _, xs⟩, ⟨hC, hc⟩, rfl⟩
theorem in_imgss (hv : Value.okWide Try.prog W r base 56 v) (h : DataW.Trod enc Try.prog W 0 (fun _ => true) true 56 v d p) : ∃ x : RowIn (List S25), RowIn.Ok (Kd.slice 25 k25) W x ∧ v = .slice x.a x.xs.length x.c := by
  obtain ⟨a, len, cap, rfl⟩ := okWide_slice Try.underlying56 hv
  obtain ⟨fuel, hf⟩ := h
  obtain ⟨A, xs, c, e, hc, hC⟩ := open_imgss hf
  simp [Value.cells] at e
  obtain ⟨rfl, rfl, rfl⟩ := e
  exact ⟨⟨_, _, xs⟩, ⟨hC, hc⟩, rfl⟩
theorem in_bools (hv : Value.okWide Try.prog W r base 47 v) (h : DataW.Trod enc Try.prog W 0 (fun _ => true) true 47 v d p) : ∃ x : RowIn Bool, RowIn.Ok Kd.bool W x ∧ v = .slice x.a x.xs.length x.c := by
  obtain ⟨a, len, cap, rfl⟩ := okWide_slice Try.underlying47 hv
  obtain ⟨fuel, hf⟩ := h
  obtain ⟨A, xs, c, e, hc, hC⟩ := open_bls hf
  simp [Value.cells] at e
  obtain ⟨rfl, rfl, rfl⟩ := e
  exact ⟨⟨_, _, xs⟩, ⟨hC, hc⟩, rfl⟩
end
end Go.Proofs.Ytjpkjakdhbnehaa.Q
end
section
-- Written by this session's own program (ext_print.py) over the kit's print.py, hand proofs among it. Not trusted: Lean checks it.
namespace Go.Proofs.Ytjpkjakdhbnehaa.Q
open Go.RowKit Go.Proofs.YtjpkjakdhbnehaaW.PrintWords Go.Proofs.YtjpkjakdhbnehaaW.PrintLast Go.Proofs.YtjpkjakdhbnehaaW.PrintMore
attribute [local go_sem] max2_int min2_int max_two min_two max_three min_three max_four min_four   -- for this text's walks alone
set_option linter.unusedVariables false
set_option linter.unusedSimpArgs false

-- EXT words
/-- copy(v[off:], ys...) into a row of one's own. -/
theorem ext_copy_run {P : Program} {o : Oper} {a : Act} {w0 W : World} (base : Nat) (d s : Operand) (dT sT e : TypeId)
    (ho : o.op = .call { callee := .builtin .copy, args := #[d, s], argTypes := #[dT, sT] })
    (hu : P.underlying dT = some (.slice e)) (hsz : (P.info? e).map (·.size) = some 1)
    (k : IntKind) (ok : Nat → Prop) (g cap : Nat) (xs ys : List Int) (off dLen dCap : Nat) (dp A : Option Addr) (m c : Nat)
    (hd : a.eval d = .slice dp dLen dCap) (hs : a.eval s = .slice A m c)
    (HO : (Kd.int k).R e W base ok (.slice (some ⟨g, 0, none⟩) xs.length cap) xs) (HR : (Kd.int k).C W A m ys)
    (hoff : off + dLen = xs.length) (hdp : 0 < dLen → dp = some ⟨g, off, none⟩) (HB : Below base w0 W) :
    ∃ w', (execOp a.eval o).run P W = .ok (.value (goInt (min m dLen : Nat))) w' ∧ (Kd.int k).R e w' base ok (.slice (some ⟨g, 0, none⟩) xs.length cap) (xs.take off ++ (ys.take dLen ++ xs.drop (off + min m dLen))) ∧ Below base w0 w' ∧ W.grownBy w' (some g) := by
  have hrd := Kd.reads_of_C (enc := Value.int k) (d := (0 : Int)) (h1 := fun _ => rfl) HR
  have hm : ys.length = m := hrd.1
  obtain ⟨hlen, hown⟩ := Kd.own_of_R (enc := Value.int k) (h1 := fun _ => rfl) HO
  rcases hown with ⟨h1, _⟩ | ⟨g', cap', cur, he, hb, hheap, hnc, hcm, hcs, hpre⟩
  · cases h1
  · injection he with ha hn hc
    injection ha with ha
    injection ha with ha
    subst ha
    subst hc
    by_cases h0 : min m dLen = 0
    · have hrun := run_copy_none (P := P) W dT sT o.type e dp A dLen dCap m c hu hsz h0
      have e1 : ys.take dLen = [] := by
        apply List.eq_nil_of_length_eq_zero
        rw [List.length_take]
        omega
      have e2 : xs.take off ++ (ys.take dLen ++ xs.drop (off + min m dLen)) = xs := by
        rw [e1, h0, List.nil_append, Nat.add_zero, List.take_append_drop]
      refine ⟨W, ?_, by rw [e2]; exact HO, HB, World.grownBy.refl W _⟩
      rw [h0]
      simp [execOp, ho, resolve, invoke, builtin, hd, hs, hrun, Result.andThen]
    · have hdp' := hdp (by omega)
      subst hdp'
      obtain ⟨ad, rfl, hcell⟩ := hrd.2.2 (by omega)
      obtain ⟨CS, hCS⟩ : ∃ CS, CS = (ys.take dLen).map (Value.int k) := ⟨_, rfl⟩
      have hcl : CS.length = Nat.min m dLen := by
        rw [hCS]
        simp only [List.length_map, List.length_take]
        show min dLen ys.length = min m dLen
        omega
      have hml : Nat.min m dLen = min m dLen := rfl
      have hrun := run_copy_row (P := P) W dT sT o.type e g off dLen dCap ad m c cur e CS hu hsz hheap hcl ?_ ?_ ?_
      rotate_left
      · intro j v hj
        rw [hCS] at hj
        have hj' : j < ys.length ∧ j < dLen := by
          have := (List.getElem?_eq_some_iff.1 hj).1
          simp only [List.length_map, List.length_take] at this
          omega
        have hv : v = .int k (ys.getD j 0) := by
          rw [List.getElem?_map, List.getElem?_take_of_lt hj'.2, List.getElem?_eq_getElem hj'.1] at hj
          simp only [Option.map_some, Option.some.injEq] at hj
          rw [← hj, List.getD_eq_getElem?_getD, List.getElem?_eq_getElem hj'.1]
          rfl
        rw [hv]
        exact hcell j (by omega)
      · rw [hcl, hml]
        omega
      · intro v hv
        rw [hCS] at hv
        obtain ⟨q, _, rfl⟩ := List.mem_map.1 hv
        rfl
      · rw [hcl, hml] at hrun
        try rw [List.append_assoc] at hrun
        have hold : cur.toList = encs (Value.int k) xs ++ cur.toList.drop xs.length := by
          have := (List.take_append_drop (xs.length * 1) cur.toList).symm
          rw [hpre] at this
          simpa using this
        have hel : (encs (Value.int k) xs).length = xs.length := encs_length xs
        have ht1 : cur.toList.take off = (encs (Value.int k) xs).take off := by
          rw [hold, List.take_append_of_le_length (by omega)]
        have ht2 : cur.toList.drop (off + min m dLen) = (encs (Value.int k) xs).drop (off + min m dLen) ++ cur.toList.drop xs.length := by
          conv => lhs; rw [hold]
          rw [List.drop_append_of_le_length (by omega)]
        have hnew : cur.toList.take off ++ (CS ++ cur.toList.drop (off + min m dLen)) = encs (Value.int k) (xs.take off ++ (ys.take dLen ++ xs.drop (off + min m dLen))) ++ cur.toList.drop xs.length := by
          rw [ht1, ht2, hCS]
          simp only [encs, List.map_append, List.map_take, List.map_drop, List.append_assoc]
        have hnl : (xs.take off ++ (ys.take dLen ++ xs.drop (off + min m dLen))).length = xs.length := by
          simp only [List.length_append, List.length_take, List.length_drop]
          omega
        refine ⟨_, by simp [execOp, ho, resolve, invoke, builtin, hd, hs, hrun, Result.andThen]; rfl, ?_, below_setRow HB hb _, ?_⟩
        · refine Kd.R_of_own (enc := Value.int k) (h1 := fun _ => rfl) ⟨by rw [encs_length]; omega, .inr ⟨g, cap, _, by rw [hnl], hb, setRow_heap W g _ _ e _ hheap, by omega, hcm, ?_, ?_⟩⟩ HO.1
          · rw [hnew]
            simp only [List.size_toArray, List.length_append, encs_length, hnl, List.length_drop, Array.length_toList]
            omega
          · rw [hnew]
            rw [List.take_append_of_le_length (by rw [encs_length]; omega), List.take_of_length_le (by rw [encs_length]; omega)]
        · exact ⟨rfl, rfl, rfl, by simp [World.setRow], fun q hq hne => setRow_other W g q _ (fun e => hne (by rw [e]))⟩

theorem ext_copy {P : Program} {ops : Array Oper} {rest : List Oper} {o : Oper} {a : Act} {Q : Exit → Act → World → Prop} {w0 W : World} (base : Nat) (hgd : o.guard = none) (d s : Operand) (dT sT e : TypeId)
    (ho : o.op = .call { callee := .builtin .copy, args := #[d, s], argTypes := #[dT, sT] })
    (hu : P.underlying dT = some (.slice e)) (hsz : (P.info? e).map (·.size) = some 1)
    (k : IntKind) (ok : Nat → Prop) (g cap : Nat) (xs ys : List Int) (off dLen dCap : Nat) (dp A : Option Addr) (m c : Nat)
    (hd : a.eval d = .slice dp dLen dCap) (hs : a.eval s = .slice A m c)
    (HO : (Kd.int k).R e W base ok (.slice (some ⟨g, 0, none⟩) xs.length cap) xs) (HR : (Kd.int k).C W A m ys)
    (hoff : off + dLen = xs.length) (hdp : 0 < dLen → dp = some ⟨g, off, none⟩) (HB : Below base w0 W)
    (h : ∀ w', (Kd.int k).R e w' base ok (.slice (some ⟨g, 0, none⟩) xs.length cap) (xs.take off ++ (ys.take dLen ++ xs.drop (off + min m dLen))) → Below base w0 w' → W.grownBy w' (some g) → wpList P ops Q rest (a.put o.dst (goInt (min m dLen : Nat))) w') :
    wpList P ops Q (o :: rest) a W := by
  obtain ⟨w', hr, h1, h2, h3⟩ := ext_copy_run base d s dT sT e ho hu hsz k ok g cap xs ys off dLen dCap dp A m c hd hs HO HR hoff hdp HB
  exact Kd.event_run hgd hr (h w' h1 h2 h3)
theorem ext_copy_step {P : Program} {ops : Array Oper} {o : Oper} {a : Act} {K : Act → World → Prop} {Q : Exit → Act → World → Prop} {E : Prop} {w0 W : World} (base : Nat) (hgd : o.guard = none) (d s : Operand) (dT sT e : TypeId)
    (ho : o.op = .call { callee := .builtin .copy, args := #[d, s], argTypes := #[dT, sT] })
    (hu : P.underlying dT = some (.slice e)) (hsz : (P.info? e).map (·.size) = some 1)
    (k : IntKind) (ok : Nat → Prop) (g cap : Nat) (xs ys : List Int) (off dLen dCap : Nat) (dp A : Option Addr) (m c : Nat)
    (hd : a.eval d = .slice dp dLen dCap) (hs : a.eval s = .slice A m c)
    (HO : (Kd.int k).R e W base ok (.slice (some ⟨g, 0, none⟩) xs.length cap) xs) (HR : (Kd.int k).C W A m ys)
    (hoff : off + dLen = xs.length) (hdp : 0 < dLen → dp = some ⟨g, off, none⟩) (HB : Below base w0 W)
    (h : ∀ w', (Kd.int k).R e w' base ok (.slice (some ⟨g, 0, none⟩) xs.length cap) (xs.take off ++ (ys.take dLen ++ xs.drop (off + min m dLen))) → Below base w0 w' → W.grownBy w' (some g) → K (a.put o.dst (goInt (min m dLen : Nat))) w') :
    if Region.wanted o (yielded ops a.tmps) = true then Oper.wp P o a W K Q else E := by
  obtain ⟨w', hr, h1, h2, h3⟩ := ext_copy_run base d s dT sT e ho hu hsz k ok g cap xs ys off dLen dCap dp A m c hd hs HO HR hoff hdp HB
  have hw : Region.wanted o (yielded ops a.tmps) = true := by simp [Region.wanted, hgd]
  rw [if_pos hw]
  unfold Oper.wp
  rw [hr]
  exact h w' h1 h2 h3
/-- v[a:] of a row of one's own, behind its head. -/
theorem ext_cut {P : Program} (t e : TypeId) (kl : IntKind) (ht : P.underlying t = some (.slice e)) (hsz : (P.info? e).map (·.size) = some 1) (g n c : Nat) (a : Int) (h0 : 0 ≤ a) (h1 : a < n) (hc : n ≤ c) :
    ∀ W : World, (Instr.slice t (.slice (some ⟨g, 0, none⟩) n c) (some (.int kl a)) none none).run P W = .ok (.slice (some ⟨g, a.toNat, none⟩) (n - a.toNat) (c - a.toNat)) W := by
  intro W
  obtain ⟨i, hi, hs⟩ := Option.map_eq_some_iff.1 hsz
  have hel : P.elem t = e := by simp [Program.elem, ht]
  have hu : P.underlying t = some (.slice (P.elem t)) := by rw [hel]; exact ht
  rw [run_slice_l W t (some ⟨g, 0, none⟩) n c hu kl a h0 (by omega), hel]
  simp [sizeOf, typeInfo, hi, hs, sliced, Result.andThen, show ¬ (c = a.toNat) by omega, add_plain]
theorem ext_R_le {α : Type} {d : Kd α} {e n c : Nat} {w : World} {base : Nat} {ok : Nat → Prop} {A : Option Addr} {xs : List α} (h : d.R e w base ok (.slice A n c) xs) : n ≤ c := by
  obtain ⟨A', c', he, hl, _⟩ := Kd.R_reads h
  injection he with _ h1 h2
  omega

/-! the number that bytes tell, the lowest first -/
def leval : List Int → Int
  | [] => 0
  | x :: t => x + 256 * leval t
def u8s (l : List Int) : Prop := ∀ x ∈ l, 0 ≤ x ∧ x < 256
instance (l : List Int) : Decidable (u8s l) := by unfold u8s; infer_instance
theorem leval_range : ∀ (l : List Int), u8s l → 0 ≤ leval l ∧ leval l < 256 ^ l.length
  | [], _ => by simp [leval]
  | x :: t, h => by
    have h1 := h x (by simp)
    have h2 := leval_range t (fun y hy => h y (by simp [hy]))
    rw [leval, List.length_cons, Int.pow_succ]
    omega
theorem leval_snoc : ∀ (l : List Int) (x : Int), leval (l ++ [x]) = leval l + x * 256 ^ l.length
  | [], x => by simp [leval]
  | y :: t, x => by
    rw [List.cons_append, leval, leval, leval_snoc t x, List.length_cons, Int.pow_succ, Int.mul_add, ← Int.add_assoc, Int.mul_comm 256 (x * 256 ^ t.length), Int.mul_assoc]
theorem leval_take (l : List Int) (i : Nat) (h : i < l.length) : leval (l.take (i + 1)) = leval (l.take i) + rd l i * 256 ^ i := by
  rw [List.take_succ_eq_append_getElem h, leval_snoc, List.length_take, Nat.min_eq_left (by omega)]
  simp [rd, List.getD_eq_getElem?_getD, List.getElem?_eq_getElem h]
theorem wraps_u64 (n : Int) (h0 : 0 ≤ n) (h1 : n < 2 ^ 64) : IntKind.u64.wrap n = n := by
  simp [IntKind.wrap, IntKind.bits, IntKind.signed]
  omega
theorem pow_mono (b : Nat) (hb : 0 < b) {i j : Nat} (h : i ≤ j) : ((b : Int)) ^ i ≤ (b : Int) ^ j := by exact_mod_cast Nat.pow_le_pow_right hb h
theorem or_u64 (x y : Int) (i : Nat) (hi : i ≤ 64) (hx0 : 0 ≤ x) (hx : x < 2 ^ i) (hy0 : 0 ≤ y) (hy : y % 2 ^ i = 0) (hy1 : y < 2 ^ 64) : Go.bits .or .u64 x y = x + y := by
  have hx1 : x < 2 ^ 64 := Int.lt_of_lt_of_le hx (pow_mono 2 (by decide) hi)
  have hc : Go.bits .or .u64 x y = Go.bits .or .u64 y x := by
    obtain ⟨a, rfl⟩ := Int.eq_ofNat_of_zero_le hx0
    obtain ⟨b, rfl⟩ := Int.eq_ofNat_of_zero_le hy0
    rw [(bits_nat .u64 64 (by decide) wraps_u64 a b (by exact_mod_cast hx1) (by exact_mod_cast hy1)).2, (bits_nat .u64 64 (by decide) wraps_u64 b a (by exact_mod_cast hy1) (by exact_mod_cast hx1)).2, Nat.or_comm]
  rw [hc, bits_join .u64 64 (by decide) wraps_u64 i y x hy0 hy hy1 hx0 hx hx1, Int.add_comm]
theorem pow256 (i : Nat) : (256 : Int) ^ i = 2 ^ (8 * i) := by rw [Int.pow_mul]; rfl
theorem leval_step (l : List Int) (hu : u8s l) (hl : l.length ≤ 8) (i : Int) (h0 : 0 ≤ i) (h1 : i < l.length) :
    Go.bits .or .u64 (leval (l.take i.toNat)) (shl .u64 (IntKind.u64.wrap (rd l i)) (IntKind.u64.wrap (wrap64 (8 * i)))) = leval (l.take (i + 1).toNat) := by
  obtain ⟨n, rfl⟩ := Int.eq_ofNat_of_zero_le h0
  have hn : n < l.length := by omega
  have hb : 0 ≤ rd l n ∧ rd l n < 256 := by
    have := hu (l[n]) (List.getElem_mem hn)
    simpa [rd, List.getD_eq_getElem?_getD, List.getElem?_eq_getElem hn] using this
  have hw : IntKind.u64.wrap (wrap64 (8 * (n : Int))) = 8 * (n : Int) := by
    have : wrap64 (8 * (n : Int)) = 8 * (n : Int) := by unfold wrap64; omega
    rw [this, wraps_u64 _ (by omega) (by omega)]
  have hr := leval_range (l.take n) (fun x hx => hu x (List.mem_of_mem_take hx))
  rw [List.length_take, Nat.min_eq_left (by omega)] at hr
  have e1 : ((n : Int) + 1).toNat = n + 1 := by omega
  have e2 : (8 * (n : Int)).toNat = 8 * n := by omega
  have hp : (256 : Int) ^ n * 256 ≤ 2 ^ 64 := by
    rw [← Int.pow_succ, show (2 : Int) ^ 64 = 256 ^ 8 from by decide]
    exact pow_mono 256 (by decide) (by omega)
  have hp0 : (0 : Int) < 256 ^ n := Int.pow_pos (by decide)
  have hprod : rd l n * 256 ^ n ≤ 255 * 256 ^ n := Int.mul_le_mul_of_nonneg_right (by omega) (by omega)
  have hprod0 : 0 ≤ rd l n * 256 ^ n := Int.mul_nonneg hb.1 (by omega)
  rw [hw, wraps_u64 (rd l n) hb.1 (by omega), Int.toNat_natCast, e1, leval_take l n hn]
  unfold shl
  rw [e2, show IntKind.u64.bits = 64 from rfl, Nat.min_eq_left (by omega), ← pow256, wraps_u64 _ hprod0 (by omega)]
  exact or_u64 _ _ (8 * n) (by omega) hr.1 (by rw [← pow256]; exact hr.2) hprod0 (by rw [← pow256]; exact Int.mul_emod_left _ _) (by omega)
/-- '[]T{}'. -/
theorem ext_R_empty (k : IntKind) (e : Nat) (w : World) : (Kd.int k).R e (w.alloc (.cells #[] e)) w.heap.size (fun _ => True) (.slice (some ⟨w.heap.size, 0, none⟩) 0 0) [] :=
  Kd.R_of_own (enc := Value.int k) (h1 := fun _ => rfl) ⟨rfl, .inr ⟨w.heap.size, 0, #[], rfl, Nat.le_refl _, by simpa using heap_alloc_new w _, Nat.le_refl _, by simp [maxLen], rfl, rfl⟩⟩ (fun _ _ => trivial)
/-- v[:0] of a row of one's own. -/
theorem ext_take0 {P : Program} (t e : TypeId) (kl : IntKind) (ht : P.underlying t = some (.slice e)) (hsz : (P.info? e).map (·.size) = some 1) (g n c : Nat) :
    ∀ W : World, (Instr.slice t (.slice (some ⟨g, 0, none⟩) n c) none (some (.int kl 0)) none).run P W = .ok (.slice (some ⟨g, 0, none⟩) 0 c) W := by
  intro W
  obtain ⟨i, hi, hs⟩ := Option.map_eq_some_iff.1 hsz
  have hel : P.elem t = e := by simp [Program.elem, ht]
  have hu : P.underlying t = some (.slice (P.elem t)) := by rw [hel]; exact ht
  rw [run_slice_h W t (some ⟨g, 0, none⟩) n c hu kl 0 (by omega) (by omega), hel]
  simp [sizeOf, typeInfo, hi, hs, sliced, Result.andThen, Addr.add]
/-- An element of a row of rows that is read. -/
theorem ext_row_at {e : Nat} {α : Type} {d : Kd α} {w : World} {A : Option Addr} {n : Nat} {xs : List (List α)} (h : (Kd.slice e d).C w A n xs) (i : Int) (h0 : 0 ≤ i) (h1 : i < n) :
    ∃ ad A9 c9, A = some ad ∧ w.cell? (ad.add i.toNat) = some (.slice A9 (xs.getD i.toNat []).length c9) ∧ (xs.getD i.toNat []).length ≤ c9 ∧ d.C w A9 (xs.getD i.toNat []).length (xs.getD i.toNat []) := by
  obtain ⟨ad, c, e1, _, ⟨A9, c9, rfl, hl, hr⟩, hc⟩ := Kd.C_get h [] i h0 h1
  have h2 := hc 0 _ rfl
  have h3 : i.toNat * (Kd.slice e d).sz + 0 = i.toNat := by
    show i.toNat * 1 + 0 = i.toNat
    omega
  rw [h3] at h2
  exact ⟨ad, A9, c9, e1, h2, hl, hr⟩
theorem flat_snoc {α : Type} (l : List (List α)) (i : Nat) (h : i < l.length) : (l.take (i + 1)).flatten = (l.take i).flatten ++ l.getD i [] := by
  rw [List.take_succ_eq_append_getElem h, List.flatten_append]
  simp [List.getElem?_eq_getElem h]
theorem flat_le {α : Type} (l : List (List α)) (i : Nat) : (l.take i).flatten.length ≤ l.flatten.length := by
  conv => rhs; rw [← List.take_append_drop i l, List.flatten_append, List.length_append]
  omega
/-! a row of bytes that is only seen: whatever is marked, whatever room is behind it -/
def SeenRow (W : World) (base : Nat) (e : TypeId) (xs : List Int) (v : Value) : Prop :=
  ∃ (g c : Nat) (cells : Array Value) (fr : Nat × Nat), v = .slice (some ⟨g, 0, none⟩) xs.length c ∧ xs.length ≤ c ∧ xs.length ≤ 9223372036854775807 ∧ base ≤ g ∧ W.heap[g]? = some (.cells cells e fr) ∧ cells.toList.take xs.length = encs (Value.int .u8) xs
theorem SeenRow.lt {W : World} {base : Nat} {e : TypeId} {xs : List Int} {v : Value} (h : SeenRow W base e xs v) : ∀ k, v.ownBlock = some k → k < W.heap.size := by
  obtain ⟨g, c, cells, fr, rfl, _, _, _, hh, _⟩ := h
  intro k hk
  have : g = k := by simpa [Value.ownBlock] using hk
  subst this
  exact (Array.getElem?_eq_some_iff.1 hh).1
theorem SeenRow.below {W W1 : World} {base : Nat} {e : TypeId} {xs : List Int} {v : Value} (h : SeenRow W base e xs v) (hb : Below W.heap.size W W1) : SeenRow W1 base e xs v := by
  obtain ⟨g, c, cells, fr, rfl, h1, h2, h3, hh, h4⟩ := h
  exact ⟨g, c, cells, fr, rfl, h1, h2, h3, (hb.block g (Array.getElem?_eq_some_iff.1 hh).1).trans hh, h4⟩
theorem SeenRow.reads {W : World} {base : Nat} {e : TypeId} {xs : List Int} {v : Value} (h : SeenRow W base e xs v) : ∃ A c, v = .slice A xs.length c ∧ xs.length ≤ c ∧ (Kd.int .u8).C W A xs.length xs := by
  obtain ⟨g, c, cells, fr, rfl, h1, h2, h3, hh, h4⟩ := h
  refine ⟨_, c, rfl, h1, Kd.C_of_reads (enc := Value.int .u8) (d := (0 : Int)) (h1 := fun _ => rfl) ⟨rfl, h2, fun hn => ⟨_, rfl, fun j hj => ?_⟩⟩⟩
  rw [add_plain]
  have h5 : cells.toList[j]? = some (.int .u8 (xs.getD j 0)) := by
    have h6 := encs_get (enc := Value.int .u8) (d := (0 : Int)) xs j hj
    rw [← h4, List.getElem?_take_of_lt hj] at h6
    exact h6
  simp only [World.cell?, hh]
  rw [Array.getElem?_toList] at h5
  simpa using h5
/-- '[]byte{..}', as it is laid. -/
theorem SeenRow.lit (W : World) (base : Nat) (e : TypeId) (xs : List Int) (hb : base ≤ W.heap.size) (hn : xs.length ≤ 9223372036854775807) : SeenRow (W.alloc (.cells (encs (Value.int .u8) xs).toArray e)) base e xs (.slice (some ⟨W.heap.size, 0, none⟩) xs.length xs.length) :=
  ⟨W.heap.size, xs.length, (encs (Value.int .u8) xs).toArray, (0, 0), rfl, Nat.le_refl _, hn, hb, heap_alloc_new W _, by show List.take xs.length (encs (Value.int .u8) xs) = _; exact List.take_of_length_le (by rw [encs_length]; exact Nat.le_refl _)⟩
theorem below_freeze {B : Nat} {w W : World} (h : Below B w W) (a : Addr) (n : Nat) (hB : B ≤ a.block) : Below B w (W.freeze a n) := by
  refine h.trans ⟨?_, ?_, ?_, ?_, fun k hk => ?_⟩
  · unfold World.freeze; split <;> rfl
  · unfold World.freeze; split <;> rfl
  · unfold World.freeze; split <;> rfl
  · unfold World.freeze; split <;> simp
  · unfold World.freeze
    split
    · rfl
    · have hne : a.block ≠ k := by omega
      simp [Array.getElem?_modify, hne]
/-- '[]byte("..")' of a constant: the literal's row gets the run-time's mark. -/
theorem SeenRow.mark {P : Program} {w0 W : World} {base : Nat} {t e : TypeId} {xs : List Int} {v : Value} (h : SeenRow W base e xs v) (ht : P.underlying t = some (.slice e)) (he : P.underlying e = some (.int .u8)) (hb : Below base w0 W) :
    ∃ W1 : World, (convert t t v).run P W = .ok v W1 ∧ SeenRow W1 base e xs v ∧ Below base w0 W1 ∧ W1.heap.size = W.heap.size ∧ ∀ k, some k ≠ v.ownBlock → W1.heap[k]? = W.heap[k]? := by
  obtain ⟨g, c, cells, ⟨lo, hi⟩, rfl, h1, h2, h3, hh, h4⟩ := h
  have hsh : W.shape? g = some (e, cells.size) := by unfold World.shape?; rw [hh]
  refine ⟨W.freeze ⟨g, cells.size, none⟩ 1, ?_, ?_, below_freeze hb _ _ h3, by unfold World.freeze; split <;> simp, fun k hk => ?_⟩
  · simp [convert, run_underlying ht, run_underlying he, markStringish, hsh]
  · refine ⟨g, c, cells, (if lo == hi then (cells.size, cells.size + 1) else (min lo cells.size, max hi (cells.size + 1))), rfl, h1, h2, h3, ?_, h4⟩
    unfold World.freeze
    rw [if_neg (by decide)]
    simp [Array.getElem?_modify, hh]
  · have hne : g ≠ k := by
      rintro rfl
      exact hk (by simp [Value.ownBlock])
    unfold World.freeze
    rw [if_neg (by decide)]
    simp [Array.getElem?_modify, hne]
/-- '[]byte(s)': a row of its own, seen. -/
theorem SeenRow.conv (W : World) (base : Nat) (e : TypeId) (s : ByteArray) (hb : base ≤ W.heap.size) (hs : s.size ≤ 9223372036854775807) : SeenRow (Lib.bytesWorld W e s) base e (bytesOf s) (.slice (some ⟨W.heap.size, 0, none⟩) s.size (grownCap W s.size 0 e)) := by
  refine ⟨W.heap.size, grownCap W s.size 0 e, Lib.bytesCells W e s, _, by rw [bytesOf_length], ?_, by rw [bytesOf_length]; exact hs, hb, Lib.bytesWorld_at_new W e s, ?_⟩
  · rw [bytesOf_length]
    exact grownCap_ge _ _ _ _
  · have h1 : (s.data.map fun b => Value.int .u8 b.toNat).toList = encs (Value.int .u8) (bytesOf s) := by
      rw [Array.toList_map, encs, bytesOf, List.map_map]
      rfl
    have h2 : (encs (Value.int .u8) (bytesOf s)).length = s.size := by rw [encs_length, bytesOf_length]
    rw [bytesOf_length]
    unfold Lib.bytesCells
    rw [Array.toList_append, h1, List.take_append_of_le_length (by rw [h2]; exact Nat.le_refl _), List.take_of_length_le (by rw [h2]; exact Nat.le_refl _)]
/-- What a call has made is none of an elder row. -/
theorem ext_R_new {e : Nat} {W W1 : World} {base : Nat} {u v : Value} {p : List Int} {c : Prop} (ho : (Kd.int .u8).R e W1 W.heap.size (fun _ => True) v p) (hv : c → ∀ k, u.ownBlock = some k → k < W.heap.size) (hb : base ≤ W.heap.size) :
    (Kd.int .u8).R e W1 base (fun k => c → some k ≠ u.ownBlock) v p :=
  Kd.R_lower (Kd.R_mono (Kd.R_bound ho) (fun k hk hc he => by have := hv hc k he.symm; have := hk.2.1; omega)) hb
/-- A row behind a new block. -/
theorem ext_R_fresh {e : Nat} {W W1 : World} {base n m : Nat} {v : Value} {p : List Int} {ok : Nat → Prop} {c : Prop} (h : (Kd.int .u8).R e W base ok v p) (hb : Below W.heap.size W W1) :
    (Kd.int .u8).R e W1 base (fun k => c → some k ≠ (Value.slice (some ⟨W.heap.size, 0, none⟩) n m).ownBlock) v p :=
  Kd.R_below (Kd.R_mono (Kd.R_bound h) (fun k hk _ he => by have h1 : k = W.heap.size := by simpa [Value.ownBlock] using he
                                                            have := hk.2.2.1; omega)) hb
/-- A literal of rows that are read. -/
theorem ext_C_rows {α : Type} {d : Kd α} {e E : Nat} (W : World) (vs : List Value) (xss : List (List α)) (hl : vs.length = xss.length) (hn : xss.length ≤ 9223372036854775807)
    (h : ∀ (j : Nat) (v : Value) (xs : List α), vs[j]? = some v → xss[j]? = some xs → ∃ (A : Option Addr) (c : Nat), v = Value.slice A xs.length c ∧ xs.length ≤ c ∧ d.C W A xs.length xs) :
    (Kd.slice e d).C (W.alloc (.cells vs.toArray E)) (some ⟨W.heap.size, 0, none⟩) xss.length xss := by
  refine ⟨rfl, hn, fun h0 => ⟨_, rfl, fun j p hj => ?_⟩⟩
  have hjl : j < xss.length := (List.getElem?_eq_some_iff.1 hj).1
  have hv : vs[j]? = some vs[j] := List.getElem?_eq_getElem (by omega)
  obtain ⟨A, c, e1, h1, h2⟩ := h j _ p hv hj
  refine ⟨[vs[j]], rfl, ⟨A, c, by rw [e1], h1, Kd.C_alloc h2 _⟩, fun i u hu => ?_⟩
  have hi : i = 0 := by
    rcases Nat.eq_zero_or_pos i with h | h
    · exact h
    · rw [List.getElem?_eq_none (by simp; omega)] at hu; cases hu
  subst hi
  simp only [List.getElem?_cons_zero, Option.some.injEq] at hu
  subst hu
  rw [add_plain, show j * (Kd.slice e d).sz + 0 = j from by show j * 1 + 0 = j; omega]
  have hh : (W.alloc (.cells vs.toArray E)).heap[W.heap.size]? = some (.cells vs.toArray E (0, 0)) := by simpa using heap_alloc_new W _
  simp only [World.cell?, hh]
  simp [hv]
/-- A literal of one number. -/
theorem ext_C_one (k : IntKind) (e : TypeId) (W : World) (x : Int) : (Kd.int k).C (W.alloc (.cells #[.int k x] e)) (some ⟨W.heap.size, 0, none⟩) 1 [x] :=
  Kd.C_of_reads (enc := Value.int k) (d := (0 : Int)) (h1 := fun _ => rfl) ⟨rfl, by decide, fun _ => ⟨_, rfl, fun j hj => by
    obtain rfl : j = 0 := by omega
    have hh : (W.alloc (.cells #[.int k x] e)).heap[W.heap.size]? = some (.cells #[.int k x] e (0, 0)) := heap_alloc_new W _
    rw [add_plain]
    simp only [World.cell?, hh]
    rfl⟩⟩
/-- append onto a slice that is only seen, where there is no room. -/
theorem ext_append_grows {P : Program} {ops : Array Oper} {rest : List Oper} {o : Oper} {a : Act} {Q : Exit → Act → World → Prop} {w0 W : World} (base : Nat) (hgd : o.guard = none) (s x : Operand) (t e : TypeId)
    (ho : o.op = .call { callee := .builtin .append, args := #[s, x], argTypes := #[t, t] })
    (ht : P.underlying t = some (.slice e)) (hinfo : (P.info? e).map (fun i => (i.zero, i.size, i.bytes)) = some (some (.int .u8 0), 1, 1))
    (A A2 : Option Addr) (n c m c2 : Nat) (xs ys : List Int) (hs : a.eval s = .slice A n c) (hx : a.eval x = .slice A2 m c2)
    (HX : (Kd.int .u8).C W A n xs) (HY : (Kd.int .u8).C W A2 m ys) (hn0 : 0 < n) (hm0 : 0 < m) (hfull : c < n + m) (hb : n + m ≤ 140737488355328) (HB : Below base w0 W) (hbase : base ≤ W.heap.size)
    (h : ∀ v1 w1, (Kd.int .u8).R e w1 base (fun _ => True) v1 (xs ++ ys) → Below base w0 w1 → Below W.heap.size W w1 → wpList P ops Q rest (a.put o.dst v1) w1) :
    wpList P ops Q (o :: rest) a W := by
  obtain ⟨i, hi, hzz⟩ := Option.map_eq_some_iff.1 hinfo
  simp only [Prod.mk.injEq] at hzz
  obtain ⟨hz0, hz1, hz2⟩ := hzz
  have hX := Kd.reads_of_C (enc := Value.int .u8) (d := (0 : Int)) (h1 := fun _ => rfl) HX
  have hY := Kd.reads_of_C (enc := Value.int .u8) (d := (0 : Int)) (h1 := fun _ => rfl) HY
  have hxl : xs.length = n := hX.1
  have hyl : ys.length = m := hY.1
  obtain ⟨ad, rfl, hxc⟩ := hX.2.2 hn0
  obtain ⟨ad2, rfl, hyc⟩ := hY.2.2 hm0
  have cells : ∀ (zs : List Int) (b : Addr), (∀ j, j < zs.length → W.cell? (b.add j) = some (.int .u8 (zs.getD j 0))) → ∀ j u, (encs (Value.int .u8) zs)[j]? = some u → W.cell? (b.add j) = some u := by
    intro zs b hc j u hu
    have hj : j < zs.length := by
      have := (List.getElem?_eq_some_iff.1 hu).1
      rwa [encs_length] at this
    rw [encs_get (enc := Value.int .u8) (d := (0 : Int)) zs j hj] at hu
    rw [← hu]
    exact hc j hj
  refine wpList_append_grows W hgd s x t ho e i (.int .u8 0) 1 1 ht hi hz0 hz1 hz2 rfl (by decide) (some ad) n c (encs (Value.int .u8) xs) hs (fun h => by cases h) (by rw [encs_length]; omega)
    (fun b hb2 => by injection hb2 with hb2; subst hb2; exact cells xs ad (by rw [hxl]; exact hxc)) ad2 m c2 (encs (Value.int .u8) ys) hx (by rw [encs_length]; omega) (cells ys ad2 (by rw [hyl]; exact hyc))
    (fun u hu => by obtain ⟨q, _, rfl⟩ := List.mem_map.1 hu; rfl) hfull (by unfold maxLen; omega) (by omega) ?_
  intro v1 w1 hown hg
  have hb1 : Below W.heap.size W w1 := ⟨hg.os, hg.tape, hg.output, hg.size, fun k hk => hg.block k hk (by simp)⟩
  refine h v1 w1 (Kd.R_lower (Kd.R_of_own (enc := Value.int .u8) (h1 := fun _ => rfl) (by rw [List.length_append, hxl, hyl, encs_append]; exact hown) (fun _ _ => trivial)) hbase) (HB.grown hg hbase (fun k hk => by cases hk)) hb1

end Go.Proofs.Ytjpkjakdhbnehaa.Q
end
section
-- Written by this session's own program (ext_print.py) over the kit's print.py, hand proofs among it. Not trusted: Lean checks it.
namespace Go.Proofs.Ytjpkjakdhbnehaa.Q
open Go.RowKit Go.Proofs.YtjpkjakdhbnehaaW.PrintWords Go.Proofs.YtjpkjakdhbnehaaW.PrintLast Go.Proofs.YtjpkjakdhbnehaaW.PrintMore
attribute [local go_sem] max2_int min2_int max_two min_two max_three min_three max_four min_four   -- for this text's walks alone
set_option linter.unusedVariables false
set_option linter.unusedSimpArgs false

/-! ### word_size: function 33 -/
def word_size.f (a0 : Int) : Option (Bool) := if a0 ≥ 1 then (some (decide (a0 ≤ 8))) else (some false)
set_option maxHeartbeats 8000000 in
set_option maxRecDepth 100000 in
theorem word_size.calls (a0 : Int) (r : Bool) (w : World) (h : word_size.f a0 = some r) :
    Calls Try.prog 33 #[.int .i64 a0] w fun e w' => e = .returned (.bool r) ∧ Drawn0 w w' := by
  have H : (if a0 ≥ 1 then (some (decide (a0 ≤ 8))) else (some false)) = some r := h
  clear h
  by_cases c2 : a0 ≥ 1
  · rw [if_pos c2] at H
    have c2b0 : decide (1 ≤ a0) = true := decide_eq_true c2
    clear c2
    obtain rfl := Option.some.inj H
    go_enter Try.func33, Try.ntmps33
    go_wp2
    go_ret
    exact ⟨by first | rfl | (simp; done) | (simp [*]; done), by repeat (first | exact Drawn0.refl _ | apply Drawn0.step)⟩
  · rw [if_neg c2] at H
    have c2b0 : decide (1 ≤ a0) = false := decide_eq_false c2
    clear c2
    obtain rfl := Option.some.inj H
    go_enter Try.func33, Try.ntmps33
    go_wp2
    go_ret
    exact ⟨by first | rfl | (simp; done) | (simp [*]; done), by repeat (first | exact Drawn0.refl _ | apply Drawn0.step)⟩

end Go.Proofs.Ytjpkjakdhbnehaa.Q
end
section
-- Written by this session's own program (ext_print.py) over the kit's print.py, hand proofs among it. Not trusted: Lean checks it.
namespace Go.Proofs.Ytjpkjakdhbnehaa.Q
open Go.RowKit Go.Proofs.YtjpkjakdhbnehaaW.PrintWords Go.Proofs.YtjpkjakdhbnehaaW.PrintLast Go.Proofs.YtjpkjakdhbnehaaW.PrintMore
attribute [local go_sem] max2_int min2_int max_two min_two max_three min_three max_four min_four   -- for this text's walks alone
set_option linter.unusedVariables false
set_option linter.unusedSimpArgs false

/-! ### word_inside: function 35 -/
def word_inside.f (l0 : List Int) (a1 : Int) (a2 : Int) : Option (Int) := (word_size.f a2).bind fun t135 => (if t135 = true then (if a1 < 0 then (some 12) else (if a1 > (l0.length : Int) then (some 12) else (if (wrap64 ((l0.length : Int) - a1)) < a2 then (some 12) else (some 0)))) else (some 1))
set_option maxHeartbeats 8000000 in
set_option maxRecDepth 100000 in
theorem word_inside.calls (A0 : Option Addr) (c0 : Nat) (l0 : List Int) (a1 : Int) (a2 : Int) (r : Int) (w : World) (hr0 : Kd.C (Kd.int .u8) w A0 l0.length l0) (hc0 : l0.length ≤ c0) (h : word_inside.f l0 a1 a2 = some r) :
    Calls Try.prog 35 #[.slice A0 l0.length c0, .int .i64 a1, .int .i64 a2] w fun e w' => e = .returned (.int .i64 r) ∧ Drawn0 w w' := by
  have HR0 := Aside0.mk hr0
  have HC0 := Aside0.mk hc0
  clear hr0 hc0
  have H : ((word_size.f a2).bind fun t135 => (if t135 = true then (if a1 < 0 then (some 12) else (if a1 > (l0.length : Int) then (some 12) else (if (wrap64 ((l0.length : Int) - a1)) < a2 then (some 12) else (some 0)))) else (some 1))) = some r := h
  clear h
  replace H := Option.bind_eq_some_iff.mp H
  obtain ⟨t135, A40, H⟩ := H
  replace H : (if t135 = true then (if a1 < 0 then (some 12) else (if a1 > (l0.length : Int) then (some 12) else (if (wrap64 ((l0.length : Int) - a1)) < a2 then (some 12) else (some 0)))) else (some 1)) = some r := H
  have A4 := Aside0.mk A40
  clear A40
  by_cases c5 : t135 = true
  · subst c5
    have H1 : (if a1 < 0 then (some 12) else (if a1 > (l0.length : Int) then (some 12) else (if (wrap64 ((l0.length : Int) - a1)) < a2 then (some 12) else (some 0)))) = some r := by rw [if_pos rfl] at H; exact H
    clear H
    have H := H1
    clear H1
    by_cases c6 : a1 < 0
    · rw [if_pos c6] at H
      have c6b0 : decide (a1 < 0) = true := decide_eq_true c6
      clear c6
      obtain rfl := Option.some.inj H
      go_enter Try.func35, Try.ntmps35
      go_wp2_with (first | ((with_reducible refine gate_callee (f := 33) rfl ?_); refine goesL_ (some 9) rfl rfl Try.func33 (by kernel_rfl) rfl #[.int .i64 a2] rfl (by (try simp only [List.map_toArray, List.map_cons, List.map_nil]); first | done | rfl | (simp only [List.length_drop, List.length_take]; rfl)) ?_; (with_reducible refine (word_size.calls a2 true _ A4.out).mono ?_); rintro e w' ⟨rfl, ⟨nd, rfl⟩⟩; refine ⟨_, rfl, ?_⟩))
      go_ret
      exact ⟨by first | rfl | (simp; done) | (simp [*]; done), by repeat (first | exact Drawn0.refl _ | apply Drawn0.step)⟩
    · rw [if_neg c6] at H
      have c6b0 : decide (a1 < 0) = false := decide_eq_false c6
      clear c6
      by_cases c7 : a1 > (l0.length : Int)
      · rw [if_pos c7] at H
        have c7b0 : decide ((l0.length : Int) < a1) = true := decide_eq_true c7
        clear c7
        obtain rfl := Option.some.inj H
        go_enter Try.func35, Try.ntmps35
        go_wp2_with (first | ((with_reducible refine gate_callee (f := 33) rfl ?_); refine goesL_ (some 9) rfl rfl Try.func33 (by kernel_rfl) rfl #[.int .i64 a2] rfl (by (try simp only [List.map_toArray, List.map_cons, List.map_nil]); first | done | rfl | (simp only [List.length_drop, List.length_take]; rfl)) ?_; (with_reducible refine (word_size.calls a2 true _ A4.out).mono ?_); rintro e w' ⟨rfl, ⟨nd, rfl⟩⟩; refine ⟨_, rfl, ?_⟩))
        go_ret
        exact ⟨by first | rfl | (simp; done) | (simp [*]; done), by repeat (first | exact Drawn0.refl _ | apply Drawn0.step)⟩
      · rw [if_neg c7] at H
        have c7b0 : decide ((l0.length : Int) < a1) = false := decide_eq_false c7
        clear c7
        by_cases c8 : (wrap64 ((l0.length : Int) - a1)) < a2
        · rw [if_pos c8] at H
          have c8b0 : decide ((wrap64 ((l0.length : Int) - a1)) < a2) = true := decide_eq_true c8
          clear c8
          obtain rfl := Option.some.inj H
          go_enter Try.func35, Try.ntmps35
          go_wp2_with (first | ((with_reducible refine gate_callee (f := 33) rfl ?_); refine goesL_ (some 9) rfl rfl Try.func33 (by kernel_rfl) rfl #[.int .i64 a2] rfl (by (try simp only [List.map_toArray, List.map_cons, List.map_nil]); first | done | rfl | (simp only [List.length_drop, List.length_take]; rfl)) ?_; (with_reducible refine (word_size.calls a2 true _ A4.out).mono ?_); rintro e w' ⟨rfl, ⟨nd, rfl⟩⟩; refine ⟨_, rfl, ?_⟩))
          go_ret
          exact ⟨by first | rfl | (simp; done) | (simp [*]; done), by repeat (first | exact Drawn0.refl _ | apply Drawn0.step)⟩
        · rw [if_neg c8] at H
          have c8b0 : decide ((wrap64 ((l0.length : Int) - a1)) < a2) = false := decide_eq_false c8
          clear c8
          obtain rfl := Option.some.inj H
          go_enter Try.func35, Try.ntmps35
          go_wp2_with (first | ((with_reducible refine gate_callee (f := 33) rfl ?_); refine goesL_ (some 9) rfl rfl Try.func33 (by kernel_rfl) rfl #[.int .i64 a2] rfl (by (try simp only [List.map_toArray, List.map_cons, List.map_nil]); first | done | rfl | (simp only [List.length_drop, List.length_take]; rfl)) ?_; (with_reducible refine (word_size.calls a2 true _ A4.out).mono ?_); rintro e w' ⟨rfl, ⟨nd, rfl⟩⟩; refine ⟨_, rfl, ?_⟩))
          go_ret
          exact ⟨by first | rfl | (simp; done) | (simp [*]; done), by repeat (first | exact Drawn0.refl _ | apply Drawn0.step)⟩
  · replace c5 := Bool.eq_false_iff.mpr c5
    subst c5
    have H1 : (some 1) = some r := by rw [if_neg (show ¬ (false = true) by decide)] at H; exact H
    clear H
    have H := H1
    clear H1
    obtain rfl := Option.some.inj H
    go_enter Try.func35, Try.ntmps35
    go_wp2_with (first | ((with_reducible refine gate_callee (f := 33) rfl ?_); refine goesL_ (some 9) rfl rfl Try.func33 (by kernel_rfl) rfl #[.int .i64 a2] rfl (by (try simp only [List.map_toArray, List.map_cons, List.map_nil]); first | done | rfl | (simp only [List.length_drop, List.length_take]; rfl)) ?_; (with_reducible refine (word_size.calls a2 false _ A4.out).mono ?_); rintro e w' ⟨rfl, ⟨nd, rfl⟩⟩; refine ⟨_, rfl, ?_⟩))
    go_ret
    exact ⟨by first | rfl | (simp; done) | (simp [*]; done), by repeat (first | exact Drawn0.refl _ | apply Drawn0.step)⟩

end Go.Proofs.Ytjpkjakdhbnehaa.Q
end
section
-- Written by this session's own program (ext_print.py) over the kit's print.py, hand proofs among it. Not trusted: Lean checks it.
namespace Go.Proofs.Ytjpkjakdhbnehaa.Q
open Go.RowKit Go.Proofs.YtjpkjakdhbnehaaW.PrintWords Go.Proofs.YtjpkjakdhbnehaaW.PrintLast Go.Proofs.YtjpkjakdhbnehaaW.PrintMore
attribute [local go_sem] max2_int min2_int max_two min_two max_three min_three max_four min_four   -- for this text's walks alone
set_option linter.unusedVariables false
set_option linter.unusedSimpArgs false

-- EXT word_Get: function 27
/-! ### word_Get: function 27 -/
def word_Get.f (l0 : List Int) (a1 : Int) (a2 : Int) : Option (Int × Int) := (word_inside.f l0 a1 a2).bind fun t => if t = 0 then (if 0 ≤ a1 ∧ 1 ≤ a2 ∧ a2 ≤ 8 ∧ a1 + a2 ≤ l0.length ∧ l0.length ≤ 140737488351232 ∧ u8s ((l0.take (a1 + a2).toNat).drop a1.toNat) then some (leval ((l0.take (a1 + a2).toNat).drop a1.toNat), 0) else none) else some (0, t)
set_option maxHeartbeats 8000000 in
set_option maxRecDepth 100000 in
theorem word_Get.calls (A0 : Option Addr) (c0 : Nat) (l0 : List Int) (a1 : Int) (a2 : Int) (r1 : Int) (r2 : Int) (w : World) (hr0 : Kd.C (Kd.int .u8) w A0 l0.length l0) (hc0 : l0.length ≤ c0) (h : word_Get.f l0 a1 a2 = some (r1, r2)) :
    Calls Try.prog 27 #[.slice A0 l0.length c0, .int .i64 a1, .int .i64 a2] w fun e w' => e = .returned (.tuple #[.int .u64 r1, .int .i64 r2]) ∧ Drawn0 w w' := by
  have HR0 := Aside0.mk hr0
  have HC0 := Aside0.mk hc0
  clear hr0 hc0
  unfold word_Get.f at h
  obtain ⟨t, hin, h⟩ := Option.bind_eq_some_iff.mp h
  have HIN := Aside0.mk hin
  clear hin
  by_cases c1 : t = 0
  · rw [if_pos c1] at h
    subst c1
    obtain ⟨seg, hseg⟩ : ∃ s : List Int, s = (l0.take (a1 + a2).toNat).drop a1.toNat := ⟨_, rfl⟩
    by_cases c2 : 0 ≤ a1 ∧ 1 ≤ a2 ∧ a2 ≤ 8 ∧ a1 + a2 ≤ l0.length ∧ l0.length ≤ 140737488351232 ∧ u8s ((l0.take (a1 + a2).toNat).drop a1.toNat)
    · rw [if_pos c2, ← hseg] at h
      have h2 := Option.some.inj h
      obtain ⟨hr1, rfl⟩ := (Prod.mk.injEq _ _ _ _).mp h2
      have hw : wrap64 (a1 + a2) = a1 + a2 := by unfold wrap64; omega
      obtain ⟨i0, hi0, _, hsz0, _⟩ := info_parts info5
      obtain ⟨A9, hcut, hA9, hC9⟩ := print_mid_of (P := Try.prog) (Value.int .u8) 0 23 5 .i64 .i64 Try.underlying23 hi0 hsz0 A0 c0 l0 a1 (a1 + a2) c2.1 (by omega) (by omega) HC0.out
      have hread := Kd.C_of_reads (h1 := fun _ => rfl) (hA9 _ (Kd.reads_of_C HR0.out))
      have hlen : seg.length ≤ 8 := by rw [hseg, List.length_drop, List.length_take]; omega
      have hus := c2.2.2.2.2.2
      rw [← hseg] at hcut hread hus
      rw [← hw] at hcut
      have HRS := Aside0.mk hread
      have HUS := Aside0.mk hus
      have HLEN := Aside0.mk hlen
      have HR1 := Aside0.mk hr1
      have b1 := eq_true c2.1
      have b2 : decide (0 ≤ a1) = true := decide_eq_true c2.1
      clear h h2 hr1 c2 hw hi0 hsz0 hA9 hC9 hread hlen hseg hus
      go_enter Try.func27, Try.ntmps27
      go_wp2_with (first | ((with_reducible refine gate_callee (f := 35) rfl ?_); refine goesL_ (some 15) rfl rfl Try.func35 (by kernel_rfl) rfl #[.slice A0 l0.length c0, .int .i64 a1, .int .i64 a2] rfl (by (try simp only [List.map_toArray, List.map_cons, List.map_nil]); first | done | rfl | (simp only [List.length_drop, List.length_take]; rfl)) ?_; (with_reducible refine (word_inside.calls _ _ l0 a1 a2 0 _ HR0.out HC0.out HIN.out).mono ?_); rintro e w' ⟨rfl, ⟨nd, rfl⟩⟩; refine ⟨_, rfl, ?_⟩))
      go_loopg [9, 26] seg.length (fun gk v9 v26 w' => ∃ (x i : Int), v9 = .int .u64 x ∧ v26 = .int .i64 i ∧ Aside0 (0 ≤ i ∧ (gk : Int) + i = seg.length) ∧ Aside0 (x = leval (seg.take i.toNat)) ∧ Drawn0 w w')
      case atStart => exact ⟨0, 0, rfl, rfl, ⟨by omega⟩, ⟨by simp [leval]⟩, by repeat (first | exact Drawn0.refl _ | apply Drawn0.step)⟩
      case round =>
        obtain ⟨x, i, rfl, rfl, HX, HA, ⟨m1, rfl⟩⟩ := hrel
        by_cases c2 : i < (seg.length : Int)
        · have p1 := HX.out.1
          have hx := Aside0.mk (Kd.at_int HRS.out i p1 c2)
          obtain ⟨ad, e1, hcell⟩ := hx.out
          have hst := leval_step seg HUS.out HLEN.out i p1 c2
          rw [← HA.out] at hst
          have c2b : decide (i < (seg.length : Int)) = true := decide_eq_true c2
          have HW := Aside0.mk (show wrap64 (i + 1) = i + 1 from by have := HLEN.out; unfold wrap64; omega)
          obtain ⟨ji13, hji13⟩ : ∃ j_ : Int, (IntKind.u64.wrap (wrap64 (8 * i))) = j_ := ⟨_, rfl⟩
          rw [hji13] at hst
          have c14 : 0 ≤ ji13 := by
            rw [← hji13]
            simp [IntKind.wrap, IntKind.bits, IntKind.signed]
            omega
          obtain ⟨ji15, hji15⟩ : ∃ j_ : Int, (shl .u64 (IntKind.u64.wrap (rd seg i)) ji13) = j_ := ⟨_, rfl⟩
          rw [hji15] at hst
          have HST := Aside0.mk hst
          have c14b0 := eq_true c14
          have c14b1 : decide (0 ≤ (ji13)) = true := decide_eq_true c14
          have hji15_ : (IntKind.u64.wrap ((IntKind.u64.wrap (rd seg i)) * 2 ^ min (ji13).toNat 64)) = ji15 := hji15
          have hji15z : (ji13) ≤ 64 → (IntKind.u64.wrap ((IntKind.u64.wrap (rd seg i)) * 2 ^ (ji13).toNat)) = ji15 := shl_small hji15
          cases e1
          have c2' := Aside0.mk c2
          have p1' : decide (0 ≤ i) = true := decide_eq_true p1
          have p2 := eq_true p1
          have q2 := eq_true c2
          clear hx hst HA c2 p1 c14
          go_wp2
          go_roundg (gk - 1)
          case measure => have := HX.out; have := c2'.out; omega
          case rel => exact ⟨Go.bits .or .u64 x ji15, i + 1, (by first | rfl | (simp; done) | (simp only [← hji15] <;> (first | rfl | simp)) | (simp [*]; done)), by rw [HW.out], ⟨by have := HX.out; have := c2'.out; omega⟩, HST, by repeat (first | exact Drawn0.refl _ | apply Drawn0.step)⟩
        · have hend : x = r1 := by rw [HA.out, ← HR1.out, List.take_of_length_le (by have := HX.out; omega)]
          subst hend
          have c2b : decide (i < (seg.length : Int)) = false := decide_eq_false c2
          clear c2 HA
          go_wp2
          go_ret2
          exact ⟨rfl, by repeat (first | exact Drawn0.refl _ | apply Drawn0.step)⟩
    · rw [if_neg c2] at h
      exact absurd h (by simp)
  · rw [if_neg c1] at h
    have h2 := Option.some.inj h
    obtain ⟨rfl, rfl⟩ := (Prod.mk.injEq _ _ _ _).mp h2
    have c1b1 : (t != 0) = true := bne_iff_ne.mpr c1
    have c1b0 : (t == 0) = false := beq_eq_false_iff_ne.mpr c1
    clear h h2 c1
    go_enter Try.func27, Try.ntmps27
    go_wp2_with (first | ((with_reducible refine gate_callee (f := 35) rfl ?_); refine goesL_ (some 15) rfl rfl Try.func35 (by kernel_rfl) rfl #[.slice A0 l0.length c0, .int .i64 a1, .int .i64 a2] rfl (by (try simp only [List.map_toArray, List.map_cons, List.map_nil]); first | done | rfl | (simp only [List.length_drop, List.length_take]; rfl)) ?_; (with_reducible refine (word_inside.calls _ _ l0 a1 a2 t _ HR0.out HC0.out HIN.out).mono ?_); rintro e w' ⟨rfl, ⟨nd, rfl⟩⟩; refine ⟨_, rfl, ?_⟩))
    go_ret2
    exact ⟨rfl, by repeat (first | exact Drawn0.refl _ | apply Drawn0.step)⟩

end Go.Proofs.Ytjpkjakdhbnehaa.Q
end
section
-- Written by this session's own program (ext_print.py) over the kit's print.py, hand proofs among it. Not trusted: Lean checks it.
namespace Go.Proofs.Ytjpkjakdhbnehaa.Q
open Go.RowKit Go.Proofs.YtjpkjakdhbnehaaW.PrintWords Go.Proofs.YtjpkjakdhbnehaaW.PrintLast Go.Proofs.YtjpkjakdhbnehaaW.PrintMore
attribute [local go_sem] max2_int min2_int max_two min_two max_three min_three max_four min_four   -- for this text's walks alone
set_option linter.unusedVariables false
set_option linter.unusedSimpArgs false

/-! ### word_Put: function 23 -/
def word_Put.l0 : Nat → Int → List Int → Int → Int → Option (List Int)
  | 0, _, _, _, _ => none
  | k + 1, x0, x5, x12, x13 => if x13 < x12 then (if 0 ≤ (IntKind.u64.wrap (wrap64 (8 * x13))) then (if 0 ≤ x13 then (if x13 < (x5.length : Int) then (word_Put.l0 k x0 (x5.set (x13 : Int).toNat ((shr .u64 x0 (IntKind.u64.wrap (wrap64 (8 * x13)))) % 256)) x12 (wrap64 (x13 + 1))) else (none)) else (none)) else (none)) else (some x5)
def word_Put.f (k : Nat) (a0 : Int) (a1 : Int) : Option (List Int) := (word_size.f a1).bind fun t101 => (if t101 = true then (if 0 ≤ a1 then (if (a1 : Int).toNat ≤ 281474976710656 then (word_Put.l0 k a0 (List.replicate (a1 : Int).toNat 0) a1 0) else (none)) else (none)) else (some ([] : List Int)))
theorem word_Put.mono_l : ∀ k, (∀ y0 y1 y2 y3, LeO (word_Put.l0 k y0 y1 y2 y3) (word_Put.l0 (k + 1) y0 y1 y2 y3))
  | 0 => fun _ _ _ _ r h => by simp [word_Put.l0] at h
  | k + 1 => by
    have ih0 := word_Put.mono_l k
    · intro y0 y1 y2 y3
      unfold word_Put.l0
      repeat' first
      | (with_reducible exact ih0 _ _ _ _)
      | (with_reducible exact LeO.refl _)
      | (with_reducible exact LeO.none _)
      | (with_reducible refine LeO.ite ?_ ?_)
      | (with_reducible refine LeO.bind ?_ (fun _ => ?_))
      | exact ih0 _ _ _ _
      | exact LeO.none _
      | refine LeO.ite ?_ ?_
      | refine LeO.bind ?_ (fun _ => ?_)
theorem word_Put.mono : ∀ a0 a1 k, LeO (word_Put.f k a0 a1) (word_Put.f (k + 1) a0 a1) := by
  intro a0 a1 k
  have ih0 := word_Put.mono_l k
  unfold word_Put.f
  repeat' first
      | (with_reducible exact ih0 _ _ _ _)
      | (with_reducible exact LeO.refl _)
      | (with_reducible exact LeO.none _)
      | (with_reducible refine LeO.ite ?_ ?_)
      | (with_reducible refine LeO.bind ?_ (fun _ => ?_))
      | exact ih0 _ _ _ _
      | exact LeO.none _
      | refine LeO.ite ?_ ?_
      | refine LeO.bind ?_ (fun _ => ?_)
set_option maxHeartbeats 8000000 in
set_option maxRecDepth 100000 in
theorem word_Put.calls (k : Nat) (a0 : Int) (a1 : Int) (r : List Int) (w : World) (h : word_Put.f k a0 a1 = some r) :
    Calls Try.prog 23 #[.int .u64 a0, .int .i64 a1] w fun e w' => ∃ v0_ : Value, e = .returned (v0_) ∧ Kd.R (Kd.int .u8) 5 w' w.heap.size (fun _ => True) v0_ r ∧ Below w.heap.size w w' := by
  have HB := Aside0.mk (Below.refl w.heap.size w)
  have H : ((word_size.f a1).bind fun t101 => (if t101 = true then (if 0 ≤ a1 then (if (a1 : Int).toNat ≤ 281474976710656 then (word_Put.l0 k a0 (List.replicate (a1 : Int).toNat 0) a1 0) else (none)) else (none)) else (some ([] : List Int)))) = some r := h
  clear h
  replace H := Option.bind_eq_some_iff.mp H
  obtain ⟨t101, A30, H⟩ := H
  replace H : (if t101 = true then (if 0 ≤ a1 then (if (a1 : Int).toNat ≤ 281474976710656 then (word_Put.l0 k a0 (List.replicate (a1 : Int).toNat 0) a1 0) else (none)) else (none)) else (some ([] : List Int))) = some r := H
  have A3 := Aside0.mk A30
  clear A30
  by_cases c4 : t101 = true
  · subst c4
    have H1 : (if 0 ≤ a1 then (if (a1 : Int).toNat ≤ 281474976710656 then (word_Put.l0 k a0 (List.replicate (a1 : Int).toNat 0) a1 0) else (none)) else (none)) = some r := by rw [if_pos rfl] at H; exact H
    clear H
    have H := H1
    clear H1
    by_cases c5 : 0 ≤ a1
    · rw [if_pos c5] at H
      have c5b0 := eq_true c5
      have c5b1 : decide (0 ≤ a1) = true := decide_eq_true c5
      clear c5
      by_cases c6 : (a1 : Int).toNat ≤ 281474976710656
      · rw [if_pos c6] at H
        have c6b0 := eq_true c6
        have c6b1 : decide ((a1 : Int).toNat ≤ 281474976710656) = true := decide_eq_true c6
        clear c6
        obtain ⟨y102, hy102⟩ : ∃ y_ : List Int, y_ = (List.replicate (a1 : Int).toNat 0) := ⟨_, rfl⟩
        replace H : (word_Put.l0 k a0 y102 a1 0) = some r := by first | (rw [hy102]; with_reducible exact H) | (have H2_ := (Option.bind_some _ _).symm.trans H; rw [hy102]; with_reducible exact H2_) | (have H2_ := (Option.bind_some _ _).symm.trans H; with_reducible exact H2_) | with_reducible exact H | (rw [hy102]; exact H) | exact H
        have Ny102 := Aside0.mk hy102
        clear hy102
        have H' := Aside0.mk H
        clear H
        go_enter Try.func23, Try.ntmps23
        go_wp2_with (first | ((with_reducible refine gate_callee (f := 33) rfl ?_); refine goesL_ (some 8) rfl rfl Try.func33 (by kernel_rfl) rfl #[.int .i64 a1] rfl (by (try simp only [List.map_toArray, List.map_cons, List.map_nil]); first | done | rfl | (simp only [List.length_drop, List.length_take]; rfl)) ?_; (with_reducible refine (word_size.calls a1 true _ A3.out).mono ?_); rintro e w' ⟨rfl, ⟨nd, rfl⟩⟩; refine ⟨_, rfl, ?_⟩) | ((with_reducible refine gate_dst (N := 11) rfl ?_); refine Kd.R_make (Kd.int .u8) _ 5 rfl (N := 11) rfl 23 _ _ rfl a1 rfl rfl Try.underlying23 (.int .u8 0) 1 info5 rfl (by decide) (by omega) 0 (ok := fun _ => True) (okp := fun _ => True) rfl (fun _ hk => hk) trivial (of_decide_eq_true (by first | (with_reducible assumption) | assumption)) (Nat.le_trans (Nat.mul_le_mul_right _ (of_decide_eq_true (by first | (with_reducible assumption) | assumption) : a1.toNat ≤ 281474976710656)) (by omega)) (Below.refl _ _) (Nat.le_refl _) ?_; intro v103 w7 ho8 hb hg_ hnew_; clear hg_ hnew_; (first | rw [← Ny102.out] at ho8 | (simp only [Int.reduceToNat] at ho8; rw [← Ny102.out] at ho8)); have n0_ := Aside0.mk (Kd.R_lower ho8 (below_size (by repeat (first | (with_reducible first | exact HB.out | apply below_alloc | apply pw_below_drewN | apply below_drew1) | exact HB.out)))); have n1_ := Aside0.mk (below_step (by repeat (first | (with_reducible first | exact HB.out | apply below_alloc | apply pw_below_drewN | apply below_drew1) | exact HB.out)) hb); clear HB; have HO104 := n0_; have HB := n1_; clear n0_ n1_; clear hb ho8))
        go_loopg [13] k (fun kq v13 w' => ∃ (x5_1 : List Int) (x13_1 : Int), v13 = .int .i64 x13_1 ∧ Aside0 (word_Put.l0 kq a0 x5_1 a1 x13_1 = some r) ∧ Aside0 (kq ≤ k) ∧ Aside0 (Kd.R (Kd.int .u8) 5 w' w.heap.size (fun _ => True) v103 x5_1) ∧ Aside0 (Below w.heap.size w w'))
        case atStart => exact ⟨(y102), (0), (by first | rfl | (simp; done) | (simp [*]; done)), H', ⟨Nat.le_refl _⟩, ⟨by (with_reducible repeat (first | apply Kd.R_alloc | apply Kd.R_drewN | apply Kd.R_drew)); exact HO104.out⟩, ⟨by repeat (first | (with_reducible first | exact HB.out | apply below_alloc | apply pw_below_drewN | apply below_drew1) | exact HB.out)⟩⟩
        case round =>
          clear H'
          try clear c2
          try clear p2
          try clear c3
          try clear c4
          try clear c5
          try clear c5b0
          try clear c5b1
          try clear c6
          try clear c6b0
          try clear c6b1
          obtain ⟨x5_1, x13_1, rfl, HA, HK1, HO_5, HB⟩ := hrel
          cases gk with
          | zero => exact absurd HA.out (by simp [word_Put.l0])
          | succ k1 =>
            have H := HA.out
            clear HA
            simp only [word_Put.l0] at H
            by_cases c9 : x13_1 < a1
            · rw [if_pos c9] at H
              have c9b0 : decide (x13_1 < a1) = true := decide_eq_true c9
              clear c9
              obtain ⟨ji10, hji10⟩ : ∃ j_ : Int, (IntKind.u64.wrap (wrap64 (8 * x13_1))) = j_ := ⟨_, rfl⟩
              replace H : (if 0 ≤ (ji10) then (if 0 ≤ x13_1 then (if x13_1 < (x5_1.length : Int) then (word_Put.l0 k1 a0 (x5_1.set (x13_1 : Int).toNat ((shr .u64 a0 (ji10)) % 256)) a1 (wrap64 (x13_1 + 1))) else (none)) else (none)) else (none)) = some r := by first | (rw [hji10] at H; exact H) | (simp only [hji10] at H ⊢; exact H)
              by_cases c11 : 0 ≤ (ji10)
              · rw [if_pos c11] at H
                have c11b0 := eq_true c11
                have c11b1 : decide (0 ≤ (ji10)) = true := decide_eq_true c11
                clear c11
                obtain ⟨ji12, hji12⟩ : ∃ j_ : Int, (shr .u64 a0 (ji10)) = j_ := ⟨_, rfl⟩
                replace H : (if 0 ≤ x13_1 then (if x13_1 < (x5_1.length : Int) then (word_Put.l0 k1 a0 (x5_1.set (x13_1 : Int).toNat ((ji12) % 256)) a1 (wrap64 (x13_1 + 1))) else (none)) else (none)) = some r := by first | (rw [hji12] at H; exact H) | (simp only [hji12] at H ⊢; exact H)
                have hji12_ : (a0 / 2 ^ min (ji10).toNat 64) = ji12 := hji12
                have hji12z : (ji10) ≤ 64 → (a0 / 2 ^ (ji10).toNat) = ji12 := shr_small hji12
                by_cases c13 : 0 ≤ x13_1
                · rw [if_pos c13] at H
                  have c13b0 : decide (0 ≤ x13_1) = true := decide_eq_true c13
                  clear c13
                  by_cases c14 : x13_1 < (x5_1.length : Int)
                  · rw [if_pos c14] at H
                    have c14b0 : decide (x13_1 < (x5_1.length : Int)) = true := decide_eq_true c14
                    clear c14
                    obtain ⟨y105, hy105⟩ : ∃ y_ : List Int, y_ = (x5_1.set (x13_1 : Int).toNat ((ji12) % 256)) := ⟨_, rfl⟩
                    replace H : (word_Put.l0 k1 a0 y105 a1 (wrap64 (x13_1 + 1))) = some r := by first | (rw [hy105]; with_reducible exact H) | (have H2_ := (Option.bind_some _ _).symm.trans H; rw [hy105]; with_reducible exact H2_) | (have H2_ := (Option.bind_some _ _).symm.trans H; with_reducible exact H2_) | with_reducible exact H | (rw [hy105]; exact H) | exact H
                    have Ny105 := Aside0.mk hy105
                    clear hy105
                    have H' := Aside0.mk H
                    clear H
                    have p15 : 0 ≤ (x13_1 : Int) := of_decide_eq_true (by first | (with_reducible assumption) | assumption)
                    have q15 : (x13_1 : Int) < ((x5_1.length : Int) : Int) := of_decide_eq_true (by first | (with_reducible assumption) | assumption)
                    obtain ⟨go15, co15, eo15, gb15, gl15, cl15, HG15⟩ := Kd.R_form HO_5.out (by omega)
                    (first | cases eo15 | (injection eo15 with ea_ en_ ec_; (first | subst ea_ | (injection ea_ with ea_; subst ea_)); subst ec_; clear en_))
                    have GB15 := Aside0.mk gb15
                    have GG15 := Aside0.mk HG15
                    clear gb15 gl15 HG15
                    obtain ⟨hx15_0, hf15_0⟩ := Kd.R_celln 0 HO_5.out (x13_1 : Int) p15 q15
                    replace p15 := eq_true p15
                    replace q15 := eq_true q15
                    have HP16 := Kd.R_putg HO_5.out (x13_1 : Int) ((ji12) % 256)
                    go_wp2_with (first | ((with_reducible refine gate_store (t := 5) (p := 24) rfl ?_); refine store_event (t := 5) (p := 24) (v := ?vo_w17) (w1 := (wr.setCell ⟨go15, (x13_1 : Int).toNat, none⟩ (.int .u8 ((ji12) % 256)))) ?hg ?ho ?hn ?hr ?_; (case ho => rfl); (case hg => rfl); (case hn => rfl); (case hr => first | (go_simp; done) | (go_simp; rfl)); intro w17 hw; have hg : wr.grownBy w17 (some go15) := (by rw [hw]; exact HP16.2); have hp_ : Kd.R (Kd.int .u8) 5 w17 w.heap.size (fun _ => True) (.slice (some ⟨go15, 0, none⟩) x5_1.length co15) y105 := (by rw [hw, Ny105.out]; exact HP16.1); clear HP16; have n0_ := Aside0.mk (hp_); have n1_ := Aside0.mk ((by rw [hw]; exact below_set (HB.out) GB15.out : Below w.heap.size w w17)); clear HO_5; clear HB; have HO_5 := n0_; have HB := n1_; clear n0_ n1_; clear hg hw hp_))
                    go_roundg k1
                    case measure => have := HK1.out; omega
                    case rel => exact ⟨(y105), (wrap64 (x13_1 + 1)), (by first | rfl | (simp; done) | (simp [*]; done)), H', ⟨by have := HK1.out; omega⟩, ⟨by (with_reducible repeat (first | apply Kd.R_alloc | apply Kd.R_drewN | apply Kd.R_drew)); exact HO_5.out⟩, ⟨by repeat (first | (with_reducible first | exact HB.out | apply below_alloc | apply pw_below_drewN | apply below_drew1) | exact HB.out)⟩⟩
                  · rw [if_neg c14] at H
                    exact absurd H (by simp)
                · rw [if_neg c13] at H
                  exact absurd H (by simp)
              · rw [if_neg c11] at H
                exact absurd H (by simp)
            · rw [if_neg c9] at H
              have c9b0 : decide (x13_1 < a1) = false := decide_eq_false c9
              clear c9
              obtain rfl := Option.some.inj H
              go_wp2
              go_ret
              exact ⟨_, by first | rfl | (simp [errW_none, errW_some] <;> rfl) | (simp [*, errW_none, errW_some] <;> rfl), by (with_reducible repeat (first | apply Kd.R_alloc | apply Kd.R_drewN | apply Kd.R_drew)); exact HO_5.out, by repeat (first | (with_reducible first | exact HB.out | apply below_alloc | apply pw_below_drewN | apply below_drew1) | exact HB.out)⟩
      · rw [if_neg c6] at H
        exact absurd H (by simp)
    · rw [if_neg c5] at H
      exact absurd H (by simp)
  · replace c4 := Bool.eq_false_iff.mpr c4
    subst c4
    have H1 : (some ([] : List Int)) = some r := by rw [if_neg (show ¬ (false = true) by decide)] at H; exact H
    clear H
    have H := H1
    clear H1
    obtain rfl := Option.some.inj H
    go_enter Try.func23, Try.ntmps23
    go_wp2_with (first | ((with_reducible refine gate_callee (f := 33) rfl ?_); refine goesL_ (some 8) rfl rfl Try.func33 (by kernel_rfl) rfl #[.int .i64 a1] rfl (by (try simp only [List.map_toArray, List.map_cons, List.map_nil]); first | done | rfl | (simp only [List.length_drop, List.length_take]; rfl)) ?_; (with_reducible refine (word_size.calls a1 false _ A3.out).mono ?_); rintro e w' ⟨rfl, ⟨nd, rfl⟩⟩; refine ⟨_, rfl, ?_⟩))
    go_ret
    exact ⟨_, by first | rfl | (simp [errW_none, errW_some] <;> rfl) | (simp [*, errW_none, errW_some] <;> rfl), by first | exact Kd.R_nil _ _ _ _ _ | exact Kd.N_nil _ _ _ _ _ | exact Kd.V_nil _ _ _ _ _ | exact Kd.Q_nil _ _ _ _ _ | exact Kd.S_nil _ _ _ _ _, by repeat (first | (with_reducible first | exact HB.out | apply below_alloc | apply pw_below_drewN | apply below_drew1) | exact HB.out)⟩

end Go.Proofs.Ytjpkjakdhbnehaa.Q
end
section
-- Written by this session's own program (ext_print.py) over the kit's print.py, hand proofs among it. Not trusted: Lean checks it.
namespace Go.Proofs.Ytjpkjakdhbnehaa.Q
open Go.RowKit Go.Proofs.YtjpkjakdhbnehaaW.PrintWords Go.Proofs.YtjpkjakdhbnehaaW.PrintLast Go.Proofs.YtjpkjakdhbnehaaW.PrintMore
attribute [local go_sem] max2_int min2_int max_two min_two max_three min_three max_four min_four   -- for this text's walks alone
set_option linter.unusedVariables false
set_option linter.unusedSimpArgs false

-- EXT word_Pad: function 22
/-! ### word_Pad: function 22 -/
def word_Pad.f (l0 : List Int) (a1 : Int) : Option (List Int) := if a1 < 1 then some [] else if a1.toNat ≤ 281474976710656 then some (l0.take a1.toNat ++ List.replicate (a1.toNat - l0.length) 0) else none
set_option maxHeartbeats 8000000 in
set_option maxRecDepth 100000 in
theorem word_Pad.calls (A0 : Option Addr) (c0 : Nat) (l0 : List Int) (a1 : Int) (r : List Int) (w : World) (hr0 : Kd.C (Kd.int .u8) w A0 l0.length l0) (hc0 : l0.length ≤ c0) (h : word_Pad.f l0 a1 = some r) :
    Calls Try.prog 22 #[.slice A0 l0.length c0, .int .i64 a1] w fun e w' => ∃ v0_ : Value, e = .returned (v0_) ∧ Kd.R (Kd.int .u8) 5 w' w.heap.size (fun _ => True) v0_ r ∧ Below w.heap.size w w' := by
  have HB := Aside0.mk (Below.refl w.heap.size w)
  have HR0 := Aside0.mk hr0
  clear hr0 hc0
  unfold word_Pad.f at h
  by_cases c1 : a1 < 1
  · rw [if_pos c1] at h
    obtain rfl := Option.some.inj h
    have c1b : decide (a1 < 1) = true := decide_eq_true c1
    clear c1 h
    go_enter Try.func22, Try.ntmps22
    go_wp2
    go_ret
    exact ⟨_, rfl, Kd.R_nil _ _ _ _ _, HB.out⟩
  · rw [if_neg c1] at h
    by_cases c2 : a1.toNat ≤ 281474976710656
    · rw [if_pos c2] at h
      have hr := Option.some.inj h
      have hz : r = (List.replicate a1.toNat (0 : Int)).take 0 ++ (l0.take a1.toNat ++ (List.replicate a1.toNat (0 : Int)).drop (0 + min l0.length a1.toNat)) := by
        rw [← hr, List.take_zero, List.nil_append, List.drop_replicate]
        congr 2
        omega
      have HZ := Aside0.mk hz
      have H0 := Aside0.mk (show 0 ≤ a1 by omega)
      have H1 := Aside0.mk (show 0 < a1.toNat by omega)
      have H2 := Aside0.mk c2
      have c1b : decide (a1 < 1) = false := decide_eq_false c1
      have hsz : (Try.prog.info? 5).map (·.size) = some 1 := by kernel_rfl
      have HS := Aside0.mk hsz
      clear c1 c2 h hr hz hsz
      go_enter Try.func22, Try.ntmps22
      go_wp2_with (first | ((with_reducible refine gate_dst (N := 9) rfl ?_); refine Kd.R_make (Kd.int .u8) _ 5 rfl (N := 9) rfl 23 _ _ rfl a1 rfl rfl Try.underlying23 (.int .u8 0) 1 info5 rfl (by decide) (by omega) 0 (ok := fun _ => True) (okp := fun _ => True) rfl (fun _ hk => hk) trivial H0.out (by have := H2.out; omega) (Below.refl _ _) (Nat.le_refl _) ?_; intro v1 w1 ho hb hg_ hn_; clear hg_ hn_; obtain ⟨go, co, eo, gb, gl, cl⟩ := Kd.R_form ho (by rw [List.length_replicate]; exact H1.out); cases eo; have HO := Aside0.mk ho; have HC1 := Aside0.mk (Kd.C_below HR0.out hb); have HB1 := Aside0.mk hb; clear ho hb gb gl cl) | ((with_reducible refine gate_builtin (b := .copy) (xs := #[.tmp 10, .tmp 11]) rfl ?_); refine ext_copy (w0 := w) w.heap.size rfl (.tmp 10) (.tmp 11) 23 23 5 rfl Try.underlying23 HS.out .u8 (fun _ => True) go co (List.replicate a1.toNat 0) l0 0 a1.toNat co (some ⟨go, 0, none⟩) A0 l0.length c0 rfl rfl HO.out HC1.out (by simp) (fun _ => rfl) HB1.out ?_; intro w2 ho2 hb2 hg2; clear hg2; rw [← HZ.out] at ho2; have HO2 := Aside0.mk ho2; have HB2 := Aside0.mk hb2; clear ho2 hb2))
      go_ret
      have ho3 := HO2.out
      rw [List.length_replicate] at ho3
      exact ⟨_, rfl, ho3, HB2.out⟩
    · rw [if_neg c2] at h
      exact absurd h (by simp)

end Go.Proofs.Ytjpkjakdhbnehaa.Q
end
section
-- Written by this session's own program (ext_print.py) over the kit's print.py, hand proofs among it. Not trusted: Lean checks it.
namespace Go.Proofs.Ytjpkjakdhbnehaa.Q
open Go.RowKit Go.Proofs.YtjpkjakdhbnehaaW.PrintWords Go.Proofs.YtjpkjakdhbnehaaW.PrintLast Go.Proofs.YtjpkjakdhbnehaaW.PrintMore
attribute [local go_sem] max2_int min2_int max_two min_two max_three min_three max_four min_four   -- for this text's walks alone
set_option linter.unusedVariables false
set_option linter.unusedSimpArgs false

/-! ### reliquaryref01_Get: function 29 -/
mutual
def reliquaryref01_Get.j0 : Nat → List Int → Int → Int → Bool → Option (Int × Int)
  | 0, _, _, _, _ => none
  | k + 1, x0, x1, x2, x16 => if x16 = true then (some (0, 1)) else (if x1 < 0 then (reliquaryref01_Get.j1 k x0 x1 x2 true) else (if x1 > (x0.length : Int) then (reliquaryref01_Get.j1 k x0 x1 x2 true) else (reliquaryref01_Get.j1 k x0 x1 x2 (decide ((wrap64 ((x0.length : Int) - x1)) < x2)))))
def reliquaryref01_Get.j1 : Nat → List Int → Int → Int → Bool → Option (Int × Int)
  | 0, _, _, _, _ => none
  | k + 1, x0, x1, x2, x32 => if x32 = true then (some (0, 12)) else (reliquaryref01_Get.l0 k x0 x1 x2 0 1 0)
def reliquaryref01_Get.l0 : Nat → List Int → Int → Int → Int → Int → Int → Option (Int × Int)
  | 0, _, _, _, _, _, _ => none
  | k + 1, x0, x1, x2, x8, x9, x10 => if x10 < x2 then (if 0 ≤ (wrap64 (x1 + x10)) then (if (wrap64 (x1 + x10)) < (x0.length : Int) then (reliquaryref01_Get.l0 k x0 x1 x2 (IntKind.u64.wrap (x8 + (IntKind.u64.wrap ((IntKind.u64.wrap (rd x0 (wrap64 (x1 + x10)))) * x9)))) (IntKind.u64.wrap (x9 * 256)) (wrap64 (x10 + 1))) else (none)) else (none)) else (some (x8, 0))
end
def reliquaryref01_Get.f (k : Nat) (l0 : List Int) (a1 : Int) (a2 : Int) : Option (Int × Int) := if a2 < 1 then (reliquaryref01_Get.j0 k l0 a1 a2 true) else (reliquaryref01_Get.j0 k l0 a1 a2 (decide (a2 > 8)))
theorem reliquaryref01_Get.mono_l : ∀ k, (∀ y0 y1 y2 y3, LeO (reliquaryref01_Get.j0 k y0 y1 y2 y3) (reliquaryref01_Get.j0 (k + 1) y0 y1 y2 y3)) ∧ (∀ y0 y1 y2 y3, LeO (reliquaryref01_Get.j1 k y0 y1 y2 y3) (reliquaryref01_Get.j1 (k + 1) y0 y1 y2 y3)) ∧ (∀ y0 y1 y2 y3 y4 y5, LeO (reliquaryref01_Get.l0 k y0 y1 y2 y3 y4 y5) (reliquaryref01_Get.l0 (k + 1) y0 y1 y2 y3 y4 y5))
  | 0 => ⟨fun _ _ _ _ r h => by simp [reliquaryref01_Get.j0] at h, fun _ _ _ _ r h => by simp [reliquaryref01_Get.j1] at h, fun _ _ _ _ _ _ r h => by simp [reliquaryref01_Get.l0] at h⟩
  | k + 1 => by
    obtain ⟨ih0, ih1, ih2⟩ := reliquaryref01_Get.mono_l k
    refine ⟨?_, ?_, ?_⟩
    · intro y0 y1 y2 y3
      unfold reliquaryref01_Get.j0
      repeat' first
      | (with_reducible exact ih0 _ _ _ _)
      | (with_reducible exact ih1 _ _ _ _)
      | (with_reducible exact ih2 _ _ _ _ _ _)
      | (with_reducible exact LeO.refl _)
      | (with_reducible exact LeO.none _)
      | (with_reducible refine LeO.ite ?_ ?_)
      | (with_reducible refine LeO.bind ?_ (fun _ => ?_))
      | exact ih0 _ _ _ _
      | exact ih1 _ _ _ _
      | exact ih2 _ _ _ _ _ _
      | exact LeO.none _
      | refine LeO.ite ?_ ?_
      | refine LeO.bind ?_ (fun _ => ?_)
    · intro y0 y1 y2 y3
      unfold reliquaryref01_Get.j1
      repeat' first
      | (with_reducible exact ih0 _ _ _ _)
      | (with_reducible exact ih1 _ _ _ _)
      | (with_reducible exact ih2 _ _ _ _ _ _)
      | (with_reducible exact LeO.refl _)
      | (with_reducible exact LeO.none _)
      | (with_reducible refine LeO.ite ?_ ?_)
      | (with_reducible refine LeO.bind ?_ (fun _ => ?_))
      | exact ih0 _ _ _ _
      | exact ih1 _ _ _ _
      | exact ih2 _ _ _ _ _ _
      | exact LeO.none _
      | refine LeO.ite ?_ ?_
      | refine LeO.bind ?_ (fun _ => ?_)
    · intro y0 y1 y2 y3 y4 y5
      unfold reliquaryref01_Get.l0
      repeat' first
      | (with_reducible exact ih0 _ _ _ _)
      | (with_reducible exact ih1 _ _ _ _)
      | (with_reducible exact ih2 _ _ _ _ _ _)
      | (with_reducible exact LeO.refl _)
      | (with_reducible exact LeO.none _)
      | (with_reducible refine LeO.ite ?_ ?_)
      | (with_reducible refine LeO.bind ?_ (fun _ => ?_))
      | exact ih0 _ _ _ _
      | exact ih1 _ _ _ _
      | exact ih2 _ _ _ _ _ _
      | exact LeO.none _
      | refine LeO.ite ?_ ?_
      | refine LeO.bind ?_ (fun _ => ?_)
theorem reliquaryref01_Get.mono : ∀ a0 a1 a2 k, LeO (reliquaryref01_Get.f k a0 a1 a2) (reliquaryref01_Get.f (k + 1) a0 a1 a2) := by
  intro a0 a1 a2 k
  obtain ⟨ih0, ih1, ih2⟩ := reliquaryref01_Get.mono_l k
  unfold reliquaryref01_Get.f
  repeat' first
      | (with_reducible exact ih0 _ _ _ _)
      | (with_reducible exact ih1 _ _ _ _)
      | (with_reducible exact ih2 _ _ _ _ _ _)
      | (with_reducible exact LeO.refl _)
      | (with_reducible exact LeO.none _)
      | (with_reducible refine LeO.ite ?_ ?_)
      | (with_reducible refine LeO.bind ?_ (fun _ => ?_))
      | exact ih0 _ _ _ _
      | exact ih1 _ _ _ _
      | exact ih2 _ _ _ _ _ _
      | exact LeO.none _
      | refine LeO.ite ?_ ?_
      | refine LeO.bind ?_ (fun _ => ?_)
set_option maxHeartbeats 8000000 in
set_option maxRecDepth 100000 in
theorem reliquaryref01_Get.calls (k : Nat) (A0 : Option Addr) (c0 : Nat) (l0 : List Int) (a1 : Int) (a2 : Int) (r1 : Int) (r2 : Int) (w : World) (hr0 : Kd.C (Kd.int .u8) w A0 l0.length l0) (hc0 : l0.length ≤ c0) (h : reliquaryref01_Get.f k l0 a1 a2 = some (r1, r2)) :
    Calls Try.prog 29 #[.slice A0 l0.length c0, .int .i64 a1, .int .i64 a2] w fun e w' => e = .returned (.tuple #[.int .u64 r1, .int .i64 r2]) ∧ Drawn0 w w' := by
  have HR0 := Aside0.mk hr0
  have HC0 := Aside0.mk hc0
  clear hr0 hc0
  have H : (if a2 < 1 then (reliquaryref01_Get.j0 k l0 a1 a2 true) else (reliquaryref01_Get.j0 k l0 a1 a2 (decide (a2 > 8)))) = some (r1, r2) := h
  clear h
  have HC4 := Aside0.mk H
  clear H
  go_enter Try.func29, Try.ntmps29
  go_upto_region 1 with (fail)
  go_cut [16] (fun v16 wc => ∃ (kq : Nat) (x16_3 : Bool), v16 = .bool x16_3 ∧ Aside0 (reliquaryref01_Get.j0 kq l0 a1 a2 x16_3 = some (r1, r2)) ∧ Aside0 (kq ≤ k) ∧ Drawn0 w wc)
  case first =>
    have H := HC4.out
    clear HC4
    by_cases c5 : a2 < 1
    · rw [if_pos c5] at H
      have c5b0 : decide (a2 < 1) = true := decide_eq_true c5
      clear c5
      (first | rw [c5b0] | (simp only [i64_w, i32_w]; rw [c5b0]) | skip)
      have H' := Aside0.mk H
      clear H
      go_wp2
      go_meet
      case rel => exact ⟨_, (true), (by first | rfl | (simp; done) | (simp [*]; done)), H', ⟨by first | omega | exact Nat.le_refl _⟩, by repeat (first | exact Drawn0.refl _ | apply Drawn0.step)⟩
    · rw [if_neg c5] at H
      have c5b0 : decide (a2 < 1) = false := decide_eq_false c5
      clear c5
      (first | rw [c5b0] | (simp only [i64_w, i32_w]; rw [c5b0]) | skip)
      have H' := Aside0.mk H
      clear H
      go_wp2
      go_meet
      case rel => exact ⟨_, (decide (a2 > 8)), (by first | rfl | (simp; done) | (simp [*]; done)), H', ⟨by first | omega | exact Nat.le_refl _⟩, by repeat (first | exact Drawn0.refl _ | apply Drawn0.step)⟩
  case rest =>
    clear HC4
    try clear c2
    try clear p2
    try clear c5
    try clear c5b0
    obtain ⟨kq, x16_3, rfl, HA, HJ3, ⟨mc3, rfl⟩⟩ := hcut
    cases kq with
    | zero => exact absurd HA.out (by simp [reliquaryref01_Get.j0])
    | succ kj3 =>
      have H := HA.out
      clear HA
      simp only [reliquaryref01_Get.j0] at H
      by_cases c6 : x16_3 = true
      · subst c6
        have H1 : (some (0, 1)) = some (r1, r2) := by rw [if_pos rfl] at H; exact H
        clear H
        have H := H1
        clear H1
        simp only [Option.some.injEq, Prod.mk.injEq] at H
        obtain ⟨rfl, rfl⟩ := H
        go_wp2
        go_ret2
        exact ⟨by first | rfl | (simp; done) | (simp [*]; done), by repeat (first | exact Drawn0.refl _ | apply Drawn0.step)⟩
      · replace c6 := Bool.eq_false_iff.mpr c6
        subst c6
        have H1 : (if a1 < 0 then (reliquaryref01_Get.j1 kj3 l0 a1 a2 true) else (if a1 > (l0.length : Int) then (reliquaryref01_Get.j1 kj3 l0 a1 a2 true) else (reliquaryref01_Get.j1 kj3 l0 a1 a2 (decide ((wrap64 ((l0.length : Int) - a1)) < a2))))) = some (r1, r2) := by rw [if_neg (show ¬ (false = true) by decide)] at H; exact H
        clear H
        have H := H1
        clear H1
        have HC7 := Aside0.mk H
        clear H
        go_upto_region 3 with (fail)
        go_cut [32] (fun v32 wc => ∃ (kq : Nat) (x32_6 : Bool), v32 = .bool x32_6 ∧ Aside0 (reliquaryref01_Get.j1 kq l0 a1 a2 x32_6 = some (r1, r2)) ∧ Aside0 (kq ≤ kj3) ∧ Drawn0 w wc)
        case first =>
          have H := HC7.out
          clear HC7
          by_cases c8 : a1 < 0
          · rw [if_pos c8] at H
            have c8b0 : decide (a1 < 0) = true := decide_eq_true c8
            clear c8
            (first | rw [c8b0] | (simp only [i64_w, i32_w]; rw [c8b0]) | skip)
            have H' := Aside0.mk H
            clear H
            go_wp2
            go_meet
            case rel => exact ⟨_, (true), (by first | rfl | (simp; done) | (simp [*]; done)), H', ⟨by have := HJ3.out; first | omega | exact Nat.le_refl _⟩, by repeat (first | exact Drawn0.refl _ | apply Drawn0.step)⟩
          · rw [if_neg c8] at H
            have c8b0 : decide (a1 < 0) = false := decide_eq_false c8
            clear c8
            (first | rw [c8b0] | (simp only [i64_w, i32_w]; rw [c8b0]) | skip)
            by_cases c9 : a1 > (l0.length : Int)
            · rw [if_pos c9] at H
              have c9b0 : decide ((l0.length : Int) < a1) = true := decide_eq_true c9
              clear c9
              have H' := Aside0.mk H
              clear H
              go_wp2
              go_meet
              case rel => exact ⟨_, (true), (by first | rfl | (simp; done) | (simp [*]; done)), H', ⟨by have := HJ3.out; first | omega | exact Nat.le_refl _⟩, by repeat (first | exact Drawn0.refl _ | apply Drawn0.step)⟩
            · rw [if_neg c9] at H
              have c9b0 : decide ((l0.length : Int) < a1) = false := decide_eq_false c9
              clear c9
              have H' := Aside0.mk H
              clear H
              go_wp2
              go_meet
              case rel => exact ⟨_, (decide ((wrap64 ((l0.length : Int) - a1)) < a2)), (by first | rfl | (simp; done) | (simp [*]; done)), H', ⟨by have := HJ3.out; first | omega | exact Nat.le_refl _⟩, by repeat (first | exact Drawn0.refl _ | apply Drawn0.step)⟩
        case rest =>
          clear HC7
          try clear c2
          try clear p2
          try clear c3
          try clear c5
          try clear c5b0
          try clear c6
          try clear p6
          try clear c8
          try clear c8b0
          try clear c9
          try clear c9b0
          try clear p2
          obtain ⟨kq, x32_6, rfl, HA, HJ6, ⟨mc6, rfl⟩⟩ := hcut
          cases kq with
          | zero => exact absurd HA.out (by simp [reliquaryref01_Get.j1])
          | succ kj6 =>
            have H := HA.out
            clear HA
            simp only [reliquaryref01_Get.j1] at H
            by_cases c10 : x32_6 = true
            · subst c10
              have H1 : (some (0, 12)) = some (r1, r2) := by rw [if_pos rfl] at H; exact H
              clear H
              have H := H1
              clear H1
              simp only [Option.some.injEq, Prod.mk.injEq] at H
              obtain ⟨rfl, rfl⟩ := H
              go_wp2
              go_ret2
              exact ⟨by first | rfl | (simp; done) | (simp [*]; done), by repeat (first | exact Drawn0.refl _ | apply Drawn0.step)⟩
            · replace c10 := Bool.eq_false_iff.mpr c10
              subst c10
              have H1 : (reliquaryref01_Get.l0 kj6 l0 a1 a2 0 1 0) = some (r1, r2) := by rw [if_neg (show ¬ (false = true) by decide)] at H; exact H
              clear H
              have H := H1
              clear H1
              have H' := Aside0.mk H
              clear H
              go_wp2
              go_loopg [8, 9, 10] kj6 (fun kq v8 v9 v10 w' => ∃ (x8_3 : Int) (x9_3 : Int) (x10_3 : Int), v8 = .int .u64 x8_3 ∧ v9 = .int .u64 x9_3 ∧ v10 = .int .i64 x10_3 ∧ Aside0 (reliquaryref01_Get.l0 kq l0 a1 a2 x8_3 x9_3 x10_3 = some (r1, r2)) ∧ Aside0 (kq ≤ kj6) ∧ Drawn0 w w')
              case atStart => exact ⟨(0), (1), (0), (by first | rfl | (simp; done) | (simp [*]; done)), (by first | rfl | (simp; done) | (simp [*]; done)), (by first | rfl | (simp; done) | (simp [*]; done)), H', ⟨Nat.le_refl _⟩, by repeat (first | exact Drawn0.refl _ | apply Drawn0.step)⟩
              case round =>
                clear H'
                try clear c1
                try clear c2
                try clear p2
                try clear c3
                try clear c5
                try clear c5b0
                try clear c6
                try clear p6
                try clear c8
                try clear c8b0
                try clear c9
                try clear c9b0
                try clear c10
                try clear p2
                try clear p6
                obtain ⟨x8_3, x9_3, x10_3, rfl, rfl, rfl, HA, HK3, ⟨m3, rfl⟩⟩ := hrel
                cases gk with
                | zero => exact absurd HA.out (by simp [reliquaryref01_Get.l0])
                | succ k3 =>
                  have H := HA.out
                  clear HA
                  simp only [reliquaryref01_Get.l0] at H
                  by_cases c11 : x10_3 < a2
                  · rw [if_pos c11] at H
                    have c11b0 : decide (x10_3 < a2) = true := decide_eq_true c11
                    clear c11
                    obtain ⟨ji12, hji12⟩ : ∃ j_ : Int, (wrap64 (a1 + x10_3)) = j_ := ⟨_, rfl⟩
                    replace H : (if 0 ≤ (ji12) then (if (ji12) < (l0.length : Int) then (reliquaryref01_Get.l0 k3 l0 a1 a2 (IntKind.u64.wrap (x8_3 + (IntKind.u64.wrap ((IntKind.u64.wrap (rd l0 (ji12))) * x9_3)))) (IntKind.u64.wrap (x9_3 * 256)) (wrap64 (x10_3 + 1))) else (none)) else (none)) = some (r1, r2) := by first | (rw [hji12] at H; exact H) | (simp only [hji12] at H ⊢; exact H)
                    have hji12w : (IntKind.i64.wrap (a1 + x10_3)) = ji12 := (i64_w _).trans hji12
                    by_cases c13 : 0 ≤ (ji12)
                    · rw [if_pos c13] at H
                      have c13b0 : decide (0 ≤ (ji12)) = true := decide_eq_true c13
                      clear c13
                      by_cases c14 : (ji12) < (l0.length : Int)
                      · rw [if_pos c14] at H
                        have c14b0 : decide ((ji12) < (l0.length : Int)) = true := decide_eq_true c14
                        clear c14
                        have H' := Aside0.mk H
                        clear H
                        have p221 : 0 ≤ ((ji12) : Int) := of_decide_eq_true (by first | (with_reducible assumption) | assumption)
                        have q221 : (ji12) < (l0.length : Int) := of_decide_eq_true (by first | (with_reducible assumption) | assumption)
                        obtain ⟨ad221, e221, hx221_0⟩ := Kd.at_int HR0.out (ji12) p221 q221
                        cases e221
                        replace p221 := eq_true p221
                        replace q221 := eq_true q221
                        go_wp2
                        go_roundg k3
                        case measure => have := HJ3.out; have := HJ6.out; have := HK3.out; omega
                        case rel => exact ⟨(IntKind.u64.wrap (x8_3 + (IntKind.u64.wrap ((IntKind.u64.wrap (rd l0 (ji12))) * x9_3)))), (IntKind.u64.wrap (x9_3 * 256)), (wrap64 (x10_3 + 1)), (by first | rfl | (simp; done) | (simp only [← hji12] <;> (first | rfl | simp)) | (simp [*]; done)), (by first | rfl | (simp; done) | (simp [*]; done)), (by first | rfl | (simp; done) | (simp [*]; done)), H', ⟨by have := HJ3.out; have := HJ6.out; have := HK3.out; omega⟩, by repeat (first | exact Drawn0.refl _ | apply Drawn0.step)⟩
                      · rw [if_neg c14] at H
                        exact absurd H (by simp)
                    · rw [if_neg c13] at H
                      exact absurd H (by simp)
                  · rw [if_neg c11] at H
                    have c11b0 : decide (x10_3 < a2) = false := decide_eq_false c11
                    clear c11
                    simp only [Option.some.injEq, Prod.mk.injEq] at H
                    obtain ⟨rfl, rfl⟩ := H
                    go_wp2
                    go_ret2
                    exact ⟨by first | rfl | (simp; done) | (simp [*]; done), by repeat (first | exact Drawn0.refl _ | apply Drawn0.step)⟩

def conv_reliquaryref01_Get.f (k : Nat) (x0 : ByteArray) (x1 : Int) (x2 : Int) := if x0.size ≤ 140737488351232 then reliquaryref01_Get.f k (bytesOf x0) x1 x2 else none
theorem conv_reliquaryref01_Get.mono : ∀ (x0 : ByteArray) (x1 : Int) (x2 : Int) (k : Nat), LeO (conv_reliquaryref01_Get.f k x0 x1 x2) (conv_reliquaryref01_Get.f (k + 1) x0 x1 x2) := fun x0 x1 x2 k => LeO.ite (reliquaryref01_Get.mono (bytesOf x0) x1 x2 k) (LeO.none _)
theorem conv_reliquaryref01_Get.size_of {k : Nat} {x0 : ByteArray} {x1 : Int} {x2 : Int} {r} (h : conv_reliquaryref01_Get.f k x0 x1 x2 = some r) : x0.size ≤ 140737488351232 := by unfold conv_reliquaryref01_Get.f at h; split at h; assumption; exact absurd h (by simp)
theorem conv_reliquaryref01_Get.of {k : Nat} {x0 : ByteArray} {x1 : Int} {x2 : Int} {r} (h : conv_reliquaryref01_Get.f k x0 x1 x2 = some r) : reliquaryref01_Get.f k (bytesOf x0) x1 x2 = some r := by unfold conv_reliquaryref01_Get.f at h; split at h; exact h; exact absurd h (by simp)
theorem conv_reliquaryref01_Get.event {P : Program} {a : Act} {o : Oper} {ops : Array Oper} {rest : List Oper} {Q : Exit → Act → World → Prop} {W : World} {u : TypeDesc} (hgd : o.guard = none) {N : Tmp} (hd : o.dst = some N) (src dst e : TypeId) (x : Operand) (ho : o.op = .convert src dst x) (s : ByteArray) (hx : a.eval x = .string s)
    (hsu : P.underlying src = some u) (hdu : P.underlying dst = some (.slice e)) (heu : P.underlying e = some (.int .u8)) (hs : s.size ≤ 140737488351232)
    (h : ∀ (W1 : World) (A : Option Addr) (c : Nat), Below W.heap.size W W1 → Kd.C (Kd.int .u8) W1 A (bytesOf s).length (bytesOf s) → (bytesOf s).length ≤ c → wpList P ops Q rest (a.put (some N) (.slice A (bytesOf s).length c)) W1) : wpList P ops Q (o :: rest) a W := by
  have hsr := SeenRow.conv W W.heap.size e s (Nat.le_refl _) (by omega)
  obtain ⟨A, c, he, hc, hC⟩ := hsr.reads
  have hb : Below W.heap.size W (Lib.bytesWorld W e s) := below_freeze (below_alloc (below_drew (Below.refl _ _)) _) _ _ (Nat.le_refl _)
  refine Kd.event_run hgd (v := .slice (some ⟨W.heap.size, 0, none⟩) s.size (grownCap W s.size 0 e)) (w1 := Lib.bytesWorld W e s) ?_ ?_
  · unfold execOp
    rw [ho]
    simp [hx, Lib.run_convert_string_bytes W src dst e s hsu hdu heu, Result.andThen]
  · rw [he, hd]
    exact h _ A c hb hC hc

end Go.Proofs.Ytjpkjakdhbnehaa.Q
end
section
-- Written by this session's own program (ext_print.py) over the kit's print.py, hand proofs among it. Not trusted: Lean checks it.
namespace Go.Proofs.Ytjpkjakdhbnehaa.Q
open Go.RowKit Go.Proofs.YtjpkjakdhbnehaaW.PrintWords Go.Proofs.YtjpkjakdhbnehaaW.PrintLast Go.Proofs.YtjpkjakdhbnehaaW.PrintMore
attribute [local go_sem] max2_int min2_int max_two min_two max_three min_three max_four min_four   -- for this text's walks alone
set_option linter.unusedVariables false
set_option linter.unusedSimpArgs false

/-! ### reliquaryref01_Put: function 24 -/
def reliquaryref01_Put.l0 : Nat → Int → Int → List Int → Int → Option (List Int)
  | 0, _, _, _, _ => none
  | k + 1, x0, x1, x5, x6 => if x6 < x1 then (if x5.length < 140737488355328 then (reliquaryref01_Put.l0 k (IntKind.u64.wrap (Int.tdiv x0 256)) x1 (x5 ++ [(Int.tmod x0 256) % 256]) (wrap64 (x6 + 1))) else (none)) else (some x5)
def reliquaryref01_Put.f (k : Nat) (a0 : Int) (a1 : Int) : Option (List Int) := if a1 > 8 then (some ([] : List Int)) else (reliquaryref01_Put.l0 k a0 a1 ([] : List Int) 0)
theorem reliquaryref01_Put.mono_l : ∀ k, (∀ y0 y1 y2 y3, LeO (reliquaryref01_Put.l0 k y0 y1 y2 y3) (reliquaryref01_Put.l0 (k + 1) y0 y1 y2 y3))
  | 0 => fun _ _ _ _ r h => by simp [reliquaryref01_Put.l0] at h
  | k + 1 => by
    have ih0 := reliquaryref01_Put.mono_l k
    · intro y0 y1 y2 y3
      unfold reliquaryref01_Put.l0
      repeat' first
      | (with_reducible exact ih0 _ _ _ _)
      | (with_reducible exact LeO.refl _)
      | (with_reducible exact LeO.none _)
      | (with_reducible refine LeO.ite ?_ ?_)
      | (with_reducible refine LeO.bind ?_ (fun _ => ?_))
      | exact ih0 _ _ _ _
      | exact LeO.none _
      | refine LeO.ite ?_ ?_
      | refine LeO.bind ?_ (fun _ => ?_)
theorem reliquaryref01_Put.mono : ∀ a0 a1 k, LeO (reliquaryref01_Put.f k a0 a1) (reliquaryref01_Put.f (k + 1) a0 a1) := by
  intro a0 a1 k
  have ih0 := reliquaryref01_Put.mono_l k
  unfold reliquaryref01_Put.f
  repeat' first
      | (with_reducible exact ih0 _ _ _ _)
      | (with_reducible exact LeO.refl _)
      | (with_reducible exact LeO.none _)
      | (with_reducible refine LeO.ite ?_ ?_)
      | (with_reducible refine LeO.bind ?_ (fun _ => ?_))
      | exact ih0 _ _ _ _
      | exact LeO.none _
      | refine LeO.ite ?_ ?_
      | refine LeO.bind ?_ (fun _ => ?_)
set_option maxHeartbeats 8000000 in
set_option maxRecDepth 100000 in
theorem reliquaryref01_Put.calls (k : Nat) (a0 : Int) (a1 : Int) (r : List Int) (w : World) (h : reliquaryref01_Put.f k a0 a1 = some r) :
    Calls Try.prog 24 #[.int .u64 a0, .int .i64 a1] w fun e w' => ∃ v0_ : Value, e = .returned (v0_) ∧ Kd.R (Kd.int .u8) 5 w' w.heap.size (fun _ => True) v0_ r ∧ Below w.heap.size w w' := by
  have HB := Aside0.mk (Below.refl w.heap.size w)
  have H : (if a1 > 8 then (some ([] : List Int)) else (reliquaryref01_Put.l0 k a0 a1 ([] : List Int) 0)) = some r := h
  clear h
  by_cases c3 : a1 > 8
  · rw [if_pos c3] at H
    have c3b0 : decide (8 < a1) = true := decide_eq_true c3
    clear c3
    obtain rfl := Option.some.inj H
    go_enter Try.func24, Try.ntmps24
    go_wp2
    go_ret
    exact ⟨_, by first | rfl | (simp [errW_none, errW_some] <;> rfl) | (simp [*, errW_none, errW_some] <;> rfl), by first | exact Kd.R_nil _ _ _ _ _ | exact Kd.N_nil _ _ _ _ _ | exact Kd.V_nil _ _ _ _ _ | exact Kd.Q_nil _ _ _ _ _ | exact Kd.S_nil _ _ _ _ _, by repeat (first | (with_reducible first | exact HB.out | apply below_alloc | apply pw_below_drewN | apply below_drew1) | exact HB.out)⟩
  · rw [if_neg c3] at H
    have c3b0 : decide (8 < a1) = false := decide_eq_false c3
    clear c3
    have H' := Aside0.mk H
    clear H
    go_enter Try.func24, Try.ntmps24
    go_wp2
    go_loopg [0, 5, 6] k (fun kq v0 v5 v6 w' => ∃ (x0_1 : Int) (x5_1 : List Int) (x6_1 : Int), v0 = .int .u64 x0_1 ∧ v6 = .int .i64 x6_1 ∧ Aside0 (reliquaryref01_Put.l0 kq x0_1 a1 x5_1 x6_1 = some r) ∧ Aside0 (kq ≤ k) ∧ Aside0 (Kd.R (Kd.int .u8) 5 w' w.heap.size (fun _ => True) v5 x5_1) ∧ Aside0 (Below w.heap.size w w'))
    case atStart => exact ⟨(a0), (([] : List Int)), (0), (by first | rfl | (simp; done) | (simp [*]; done)), (by first | rfl | (simp; done) | (simp [*]; done)), H', ⟨Nat.le_refl _⟩, ⟨by first | exact Kd.R_nil _ _ _ _ _ | exact Kd.N_nil _ _ _ _ _ | exact Kd.V_nil _ _ _ _ _ | exact Kd.Q_nil _ _ _ _ _ | exact Kd.S_nil _ _ _ _ _⟩, ⟨by repeat (first | (with_reducible first | exact HB.out | apply below_alloc | apply pw_below_drewN | apply below_drew1) | exact HB.out)⟩⟩
    case round =>
      clear H'
      try clear c2
      try clear p2
      try clear c3
      try clear c3b0
      obtain ⟨x0_1, x5_1, x6_1, rfl, rfl, HA, HK1, HO_5, HB⟩ := hrel
      cases gk with
      | zero => exact absurd HA.out (by simp [reliquaryref01_Put.l0])
      | succ k1 =>
        have H := HA.out
        clear HA
        simp only [reliquaryref01_Put.l0] at H
        by_cases c4 : x6_1 < a1
        · rw [if_pos c4] at H
          have c4b0 : decide (x6_1 < a1) = true := decide_eq_true c4
          clear c4
          by_cases c5 : x5_1.length < 140737488355328
          · rw [if_pos c5] at H
            have LMc5 := Aside0.mk c5
            clear c5
            obtain ⟨y199, hy199⟩ : ∃ y_ : List Int, y_ = (x5_1 ++ [(Int.tmod x0_1 256) % 256]) := ⟨_, rfl⟩
            replace H : (reliquaryref01_Put.l0 k1 (IntKind.u64.wrap (Int.tdiv x0_1 256)) a1 y199 (wrap64 (x6_1 + 1))) = some r := by first | (rw [hy199]; with_reducible exact H) | (have H2_ := (Option.bind_some _ _).symm.trans H; rw [hy199]; with_reducible exact H2_) | (have H2_ := (Option.bind_some _ _).symm.trans H; with_reducible exact H2_) | with_reducible exact H | (rw [hy199]; exact H) | exact H
            have Ny199 := Aside0.mk hy199
            clear hy199
            have H' := Aside0.mk H
            clear H
            go_wp2_with (first | ((with_reducible refine gate_builtin (b := .append) (xs := #[.tmp 15, .tmp 19]) rfl ?_); at_builtin; refine Kd.R_append (Kd.int .u8) (w0 := w) w.heap.size rfl (.tmp 15) (.tmp 19) 23 5 (.int .u8 0) 1 rfl Try.underlying23 info5 rfl (by decide) (by omega) u5 x5_1 ((Int.tmod x0_1 256) % 256) [.int .u8 ((Int.tmod x0_1 256) % 256)] (fun _ => True) (fun _ => False) rfl rfl ?aP (fun _ hk => hk.elim) ?aF ?aO ?aB ?aS ?aL ?_; (case aP => exact rfl); (case aB => exact (by repeat (first | (with_reducible first | exact HB.out | apply below_alloc | apply pw_below_drewN | apply below_drew1) | exact HB.out))); (case aF => exact (fun _ _ => trivial)); (case aO => exact (by (with_reducible repeat (first | apply Kd.R_alloc | apply Kd.R_drewN | apply Kd.R_drew)); exact HO_5.out)); (case aS => exact (below_size (by repeat (first | (with_reducible first | exact HB.out | apply below_alloc | apply pw_below_drewN | apply below_drew1) | exact HB.out)))); (case aL => have := LMc5.out; omega); intro v200 w6 ho hb hg hat; rw [← Ny199.out] at ho; have n0_ := Aside0.mk (hb); have n1_ := Aside0.mk (ho); clear HB; clear HO_5; have HB := n0_; have HO201 := n1_; clear n0_ n1_; clear ho hb hg hat))
            go_roundg k1
            case measure => have := HK1.out; omega
            case rel => exact ⟨(IntKind.u64.wrap (Int.tdiv x0_1 256)), (y199), (wrap64 (x6_1 + 1)), (by first | rfl | (simp; done) | (simp [*]; done)), (by first | rfl | (simp; done) | (simp [*]; done)), H', ⟨by have := HK1.out; omega⟩, ⟨by (with_reducible repeat (first | apply Kd.R_alloc | apply Kd.R_drewN | apply Kd.R_drew)); exact HO201.out⟩, ⟨by repeat (first | (with_reducible first | exact HB.out | apply below_alloc | apply pw_below_drewN | apply below_drew1) | exact HB.out)⟩⟩
          · rw [if_neg c5] at H
            exact absurd H (by simp)
        · rw [if_neg c4] at H
          have c4b0 : decide (x6_1 < a1) = false := decide_eq_false c4
          clear c4
          obtain rfl := Option.some.inj H
          go_wp2
          go_ret
          exact ⟨_, by first | rfl | (simp [errW_none, errW_some] <;> rfl) | (simp [*, errW_none, errW_some] <;> rfl), by (with_reducible repeat (first | apply Kd.R_alloc | apply Kd.R_drewN | apply Kd.R_drew)); exact HO_5.out, by repeat (first | (with_reducible first | exact HB.out | apply below_alloc | apply pw_below_drewN | apply below_drew1) | exact HB.out)⟩

end Go.Proofs.Ytjpkjakdhbnehaa.Q
end
section
-- Written by this session's own program (ext_print.py) over the kit's print.py, hand proofs among it. Not trusted: Lean checks it.
namespace Go.Proofs.Ytjpkjakdhbnehaa.Q
open Go.RowKit Go.Proofs.YtjpkjakdhbnehaaW.PrintWords Go.Proofs.YtjpkjakdhbnehaaW.PrintLast Go.Proofs.YtjpkjakdhbnehaaW.PrintMore
attribute [local go_sem] max2_int min2_int max_two min_two max_three min_three max_four min_four   -- for this text's walks alone
set_option linter.unusedVariables false
set_option linter.unusedSimpArgs false

-- EXT slices_Concat_byte_byte: function 21
/-! ### slices_Concat_byte_byte: function 21 -/
set_option maxHeartbeats 8000000 in
set_option maxRecDepth 100000 in
theorem slices_Grow_nil (n : Int) (h0 : 0 ≤ n) (hn : n.toNat ≤ 140737488351232) (w : World) :
    Calls Try.prog 32 #[.slice none 0 0, .int .i64 n] w fun e w' => ∃ v0_ : Value, e = .returned (v0_) ∧ Kd.R (Kd.int .u8) 5 w' w.heap.size (fun _ => True) v0_ [] ∧ Below w.heap.size w w' := by
  have HB := Aside0.mk (Below.refl w.heap.size w)
  have HN := Aside0.mk hn
  have H0 := Aside0.mk h0
  have hsz : (Try.prog.info? 5).map (·.size) = some 1 := by kernel_rfl
  have HS := Aside0.mk hsz
  clear hn hsz
  by_cases c : n = 0
  · subst c
    go_enter Try.func32, Try.ntmps32
    go_wp2
    go_ret
    exact ⟨_, rfl, Kd.R_nil _ _ _ _ _, HB.out⟩
  · have b1 : decide (n < 0) = false := decide_eq_false (by omega)
    have b2 : decide (0 < n) = true := decide_eq_true (by omega)
    have HP := Aside0.mk (show 0 < n by omega)
    have h1 : n ≤ 140737488351232 := by have := HN.out; omega
    clear c
    go_enter Try.func32, Try.ntmps32
    go_wp2_with (first | ((with_reducible refine gate_builtin (b := .append) (xs := #[.tmp 20, .tmp 21]) rfl ?_); refine Kd.R_append_zeros (Kd.int .u8) (w0 := w) w.heap.size rfl (.tmp 20) (.tmp 21) 23 3 5 (.int .u8 0) 1 rfl Try.underlying23 Try.underlying3 info5 rfl (by decide) (by decide) (.slice none 0 0) ([] : List Int) 0 n (fun _ => True) rfl rfl rfl (fun _ _ => trivial) (Kd.R_nil _ _ _ _ _) H0.out HB.out (Nat.le_refl _) (by have := HN.out; simp; omega) ?_; intro v1 w1 ho hb hg hat; clear hg hat; rw [List.nil_append] at ho; obtain ⟨go, co, eo, gb, gl, cl⟩ := Kd.R_form ho (by have := HP.out; rw [List.length_replicate]; omega); cases eo; have ho2 := Kd.R_take ho (Nat.zero_le _); rw [List.take_zero] at ho2; have hcut := ext_take0 (P := Try.prog) 23 5 .i64 Try.underlying23 HS.out go n.toNat co; have HO := Aside0.mk ho2; have HB1 := Aside0.mk hb; clear ho ho2 hb gb gl cl))
    go_ret
    exact ⟨_, rfl, HO.out, HB1.out⟩
def slices_Concat_byte_byte.f (l0 : List (List Int)) : Option (List Int) := if l0.flatten.length ≤ 140737488351232 then some l0.flatten else none
set_option maxHeartbeats 8000000 in
set_option maxRecDepth 100000 in
theorem slices_Concat_byte_byte.calls (A0 : Option Addr) (c0 : Nat) (l0 : List (List Int)) (r : List Int) (w : World) (hr0 : Kd.C (Kd.slice 5 (Kd.int .u8)) w A0 l0.length l0) (hc0 : l0.length ≤ c0) (h : slices_Concat_byte_byte.f l0 = some r) :
    Calls Try.prog 21 #[.slice A0 l0.length c0] w fun e w' => ∃ v0_ : Value, e = .returned (v0_) ∧ Kd.R (Kd.int .u8) 5 w' w.heap.size (fun _ => True) v0_ r ∧ Below w.heap.size w w' := by
  have HB := Aside0.mk (Below.refl w.heap.size w)
  have HR0 := Aside0.mk hr0
  have HM := Aside0.mk hr0.2.1
  clear hr0 hc0
  unfold slices_Concat_byte_byte.f at h
  by_cases c1 : l0.flatten.length ≤ 140737488351232
  · rw [if_pos c1] at h
    have HF := Aside0.mk (Option.some.inj h)
    have HL := Aside0.mk c1
    clear c1 h
    go_enter Try.func21, Try.ntmps21
    go_wp2
    go_loopg [3, 11] l0.length (fun gk v3 v11 w' => ∃ (S x : Int), v3 = .int .i64 S ∧ v11 = .int .i64 x ∧ Aside0 (0 ≤ x ∧ (gk : Int) + x = l0.length) ∧ Aside0 (S = ((l0.take x.toNat).flatten.length : Int)) ∧ Drawn0 w w')
    case atStart => exact ⟨0, 0, rfl, rfl, ⟨by omega⟩, ⟨by simp⟩, Drawn0.refl _⟩
    case round =>
      obtain ⟨S, x, rfl, rfl, HX, HA, ⟨m1, rfl⟩⟩ := hrel
      by_cases c2 : x < (l0.length : Int)
      · have p1 := HX.out.1
        have hx := Aside0.mk (ext_row_at HR0.out x p1 c2)
        obtain ⟨ad, A9, c9, e1, hcell, _, _⟩ := hx.out
        have hs := flat_snoc l0 x.toNat (by omega)
        have hs1 := flat_le l0 (x.toNat + 1)
        obtain ⟨E, hE⟩ : ∃ E, E = l0.getD x.toNat [] := ⟨_, rfl⟩
        rw [← hE] at hcell hs
        have hs2 : ((l0.take (x.toNat + 1)).flatten.length : Int) = S + E.length := by rw [hs, List.length_append, HA.out]; omega
        have HS2 := Aside0.mk hs2
        have s0 : 0 ≤ S := by rw [HA.out]; omega
        have s1 : S + (E.length : Int) ≤ 140737488351232 := by have := HL.out; omega
        have HW := Aside0.mk (show wrap64 (x + 1) = x + 1 from by have := HM.out; unfold wrap64; omega)
        have c2b : decide (x < (l0.length : Int)) = true := decide_eq_true c2
        have c2' := Aside0.mk c2
        have p1' : decide (0 ≤ x) = true := decide_eq_true p1
        have p2 := eq_true p1
        have q2 := eq_true c2
        cases e1
        clear hx hs hs1 hs2 hE HA c2 p1
        go_wp2
        go_roundg (gk - 1)
        case measure => have := HX.out; have := c2'.out; omega
        case rel => exact ⟨S + E.length, x + 1, rfl, by rw [HW.out], ⟨by have := HX.out; have := c2'.out; omega⟩, ⟨by rw [← HS2.out]; have := HX.out; rw [show (x + 1).toNat = x.toNat + 1 by omega]⟩, by repeat (first | exact Drawn0.refl _ | apply Drawn0.step)⟩
      · have hS : S = (l0.flatten.length : Int) := by rw [HA.out, List.take_of_length_le (by have := HX.out; omega)]
        have HSS := Aside0.mk hS
        have c2b : decide (x < (l0.length : Int)) = false := decide_eq_false c2
        clear c2 HA hS
        go_wp2_with (first | ((with_reducible refine gate_callee (f := 32) rfl ?_); refine goesL_ (some 24) rfl rfl Try.func32 (by kernel_rfl) rfl #[.slice none 0 0, .int .i64 S] rfl (by (try simp only [List.map_toArray, List.map_cons, List.map_nil]); first | done | rfl | (simp only [List.length_drop, List.length_take]; rfl)) ?_; (with_reducible refine (slices_Grow_nil S (by have := HSS.out; omega) (by have := HSS.out; have := HL.out; omega) _).mono ?_); rintro e w1 ⟨v1, rfl, ho, hb⟩; refine ⟨_, rfl, ?_⟩; have HO := Aside0.mk ho; have HB1 := Aside0.mk (show Below w.heap.size w w1 from below_step (pw_below_drewN HB.out _) hb); clear ho hb))
        go_loopg [6, 27] l0.length (fun gk v6 v27 w' => ∃ (x : Int), v27 = .int .i64 x ∧ Aside0 (0 ≤ x ∧ (gk : Int) + x = l0.length) ∧ Aside0 (Kd.R (Kd.int .u8) 5 w' w.heap.size (fun _ => True) v6 (l0.take x.toNat).flatten) ∧ Aside0 (Below w.heap.size w w'))
        case atStart => exact ⟨0, rfl, ⟨by omega⟩, ⟨by simpa using HO.out⟩, HB1⟩
        case round =>
          obtain ⟨y, rfl, HY, HO2, HB2⟩ := hrel
          by_cases c3 : y < (l0.length : Int)
          · have p1 := HY.out.1
            have hx := Aside0.mk (ext_row_at (Kd.C_below HR0.out HB2.out) y p1 c3)
            obtain ⟨ad, A9, c9, e1, hcell, _, hrow⟩ := hx.out
            have hs := flat_snoc l0 y.toNat (by omega)
            have hs1 := flat_le l0 (y.toNat + 1)
            obtain ⟨E, hE⟩ : ∃ E, E = l0.getD y.toNat [] := ⟨_, rfl⟩
            rw [← hE] at hcell hs hrow
            obtain ⟨F, hF⟩ : ∃ F, F = (l0.take y.toNat).flatten := ⟨_, rfl⟩
            rw [← hF] at HO2 hs
            have HROW := Aside0.mk hrow
            have HSN := Aside0.mk hs
            have HLN := Aside0.mk (show F.length + E.length ≤ 140737488351232 by have := HL.out; rw [hs, List.length_append] at hs1; omega)
            have HW := Aside0.mk (show wrap64 (y + 1) = y + 1 from by have := HM.out; unfold wrap64; omega)
            have c3b : decide (y < (l0.length : Int)) = true := decide_eq_true c3
            have c3' := Aside0.mk c3
            have p1' : decide (0 ≤ y) = true := decide_eq_true p1
            have p2 := eq_true p1
            have q2 := eq_true c3
            cases e1
            clear hx hs hs1 hE hF hrow c3 p1
            go_wp2_with (first | ((with_reducible refine gate_builtin (b := .append) (xs := #[.tmp 31, .tmp 32]) rfl ?_); at_builtin; refine Kd.R_append_row (Value.int .u8) (0 : Int) (h1 := fun _ => rfl) (w0 := w) w.heap.size rfl (.tmp 31) (.tmp 32) 23 5 (.int .u8 0) 1 rfl Try.underlying23 info5 rfl (by decide) _ F E A9 E.length c9 (fun _ => True) rfl rfl (fun _ _ => trivial) HO2.out HROW.out HB2.out HB2.out.size (by have := HLN.out; omega) ?_; intro v4 w4 ho4 hb4 hg4 hat4; clear hg4 hat4; have HO4 := Aside0.mk ho4; have HB4 := Aside0.mk hb4; clear ho4 hb4 HO2 HB2 HROW))
            go_roundg (gk - 1)
            case measure => have := HY.out; have := c3'.out; omega
            case rel => exact ⟨y + 1, by rw [HW.out], ⟨by have := HY.out; have := c3'.out; omega⟩, ⟨by have := HY.out; rw [show (y + 1).toNat = y.toNat + 1 by omega, HSN.out]; exact HO4.out⟩, HB4⟩
          · have hF : (l0.take y.toNat).flatten = r := by rw [List.take_of_length_le (by have := HY.out; omega), HF.out]
            rw [hF] at HO2
            have c3b : decide (y < (l0.length : Int)) = false := decide_eq_false c3
            clear c3 hF
            go_wp2
            go_ret
            exact ⟨_, rfl, HO2.out, HB2.out⟩
  · rw [if_neg c1] at h
    exact absurd h (by simp)

end Go.Proofs.Ytjpkjakdhbnehaa.Q
end
section
/- What the package word and its reference compute, in plain words: numbers as bytes, the lowest first. -/
namespace Go.Proofs.Ytjpkjakdhbnehaa.Pure
open Go.RowKit Go.Proofs.Ytjpkjakdhbnehaa.Q Go.Proofs.YtjpkjakdhbnehaaW.PrintWords Go.Proofs.YtjpkjakdhbnehaaW.PrintLast Go.Proofs.YtjpkjakdhbnehaaW.PrintMore
set_option linter.unusedVariables false
set_option linter.unusedSimpArgs false

theorem wrap64_id {n : Int} (h0 : -9223372036854775808 ≤ n) (h1 : n ≤ 9223372036854775807) : wrap64 n = n := by unfold wrap64; omega
theorem wrapu_id {n : Int} (h0 : 0 ≤ n) (h1 : n < 18446744073709551616) : IntKind.u64.wrap n = n := wraps_u64 n h0 h1
theorem rd_nat (l : List Int) (i : Nat) (h : i < l.length) : rd l (i : Int) = l[i] := by simp [rd, List.getD_eq_getElem?_getD, List.getElem?_eq_getElem h]
theorem pow256_pos (n : Nat) : (0 : Int) < 256 ^ n := Int.pow_pos (by decide)

theorem wf_u8s {l : List Int} (h : ∀ x ∈ l, (Lit.int .u8 x).wf = true) : u8s l := fun x hx => by
  have := h x hx
  simp [Lit.wf, IntKind.min, IntKind.max, IntKind.signed, IntKind.bits] at this
  omega
theorem wf_u64 {n : Int} (h : (Lit.int .u64 n).wf = true) : 0 ≤ n ∧ n < 18446744073709551616 := by
  simp [Lit.wf, IntKind.min, IntKind.max, IntKind.signed, IntKind.bits] at h
  omega
theorem wf_i64 {n : Int} (h : (Lit.int .i64 n).wf = true) : -9223372036854775808 ≤ n ∧ n ≤ 9223372036854775807 := by
  simp [Lit.wf, IntKind.min, IntKind.max, IntKind.signed, IntKind.bits] at h
  omega
theorem wf_u16 {n : Int} (h : (Lit.int .u16 n).wf = true) : 0 ≤ n ∧ n < 65536 := by
  simp [Lit.wf, IntKind.min, IntKind.max, IntKind.signed, IntKind.bits] at h
  omega
theorem wf_u32 {n : Int} (h : (Lit.int .u32 n).wf = true) : 0 ≤ n ∧ n < 4294967296 := by
  simp [Lit.wf, IntKind.min, IntKind.max, IntKind.signed, IntKind.bits] at h
  omega
theorem wf_u8 {n : Int} (h : (Lit.int .u8 n).wf = true) : 0 ≤ n ∧ n < 256 := by
  simp [Lit.wf, IntKind.min, IntKind.max, IntKind.signed, IntKind.bits] at h
  omega
def lebytes : Nat → Int → List Int
  | 0, _ => []
  | n + 1, x => x % 256 :: lebytes n (x / 256)
theorem lebytes_length : ∀ (n : Nat) (x : Int), (lebytes n x).length = n
  | 0, _ => rfl
  | n + 1, x => by rw [lebytes, List.length_cons, lebytes_length n]
theorem lebytes_u8s : ∀ (n : Nat) (x : Int), u8s (lebytes n x)
  | 0, _ => by simp [lebytes, u8s]
  | n + 1, x => by
    intro y hy
    rw [lebytes, List.mem_cons] at hy
    rcases hy with rfl | hy
    · omega
    · exact lebytes_u8s n _ y hy
theorem leval_lebytes : ∀ (n : Nat) (x : Int), leval (lebytes n x) = x % 256 ^ n
  | 0, x => by simp [lebytes, leval, Int.emod_one]
  | n + 1, x => by
    rw [lebytes, leval, leval_lebytes n, Int.pow_succ, Int.mul_comm (256 ^ n) 256]
    have h1 := Int.emod_add_mul_ediv x (256 * 256 ^ n)
    have h2 := Int.emod_add_mul_ediv (x / 256) (256 ^ n)
    have h3 := Int.emod_add_mul_ediv x 256
    have h4 : x / (256 * 256 ^ n) = x / 256 / 256 ^ n := (Int.ediv_ediv_of_nonneg (by decide)).symm
    rw [h4] at h1
    have h5 : 256 * (256 ^ n * (x / 256 / 256 ^ n)) = 256 * 256 ^ n * (x / 256 / 256 ^ n) := (Int.mul_assoc _ _ _).symm
    omega
theorem lebytes_get : ∀ (n i : Nat) (x : Int) (h : i < (lebytes n x).length), (lebytes n x)[i] = x / 256 ^ i % 256
  | 0, _, _, h => by simp [lebytes] at h
  | n + 1, 0, x, _ => by simp [lebytes]
  | n + 1, i + 1, x, h => by
    have := lebytes_get n i (x / 256) (by simpa [lebytes] using h)
    simp only [lebytes, List.getElem_cons_succ]
    rw [this, Int.pow_succ, Int.mul_comm, Int.ediv_ediv_of_nonneg (by decide)]
theorem lebytes_snoc : ∀ (n : Nat) (x : Int), lebytes (n + 1) x = lebytes n x ++ [x / 256 ^ n % 256]
  | 0, x => by simp [lebytes]
  | n + 1, x => by
    rw [lebytes, lebytes_snoc n (x / 256), lebytes, List.cons_append, Int.pow_succ, Int.mul_comm, Int.ediv_ediv_of_nonneg (by decide)]

def putV (x n : Int) : List Int := if 1 ≤ n ∧ n ≤ 8 then lebytes n.toNat x else []
/-! word.Put -/
theorem set_fill (l : List Int) (i : Nat) (h : i < l.length) : (l.take i ++ List.replicate (l.length - i) 0).set i l[i] = l.take (i + 1) ++ List.replicate (l.length - (i + 1)) 0 := by
  have h1 : (l.take i).length = i := by rw [List.length_take]; omega
  rw [List.set_append, if_neg (by omega), h1, Nat.sub_self, show l.length - i = (l.length - (i + 1)) + 1 by omega, List.replicate_succ, List.set_cons_zero, List.take_succ_eq_append_getElem h, List.append_assoc]
  rfl
theorem put_loop (x : Int) (hx : 0 ≤ x) (n : Nat) (hn : n ≤ 8) (d : Nat) : ∀ (k i : Nat), n - i = d → i ≤ n → d < k →
    word_Put.l0 k x ((lebytes n x).take i ++ List.replicate ((lebytes n x).length - i) 0) n i = some (lebytes n x) := by
  induction d with
  | zero =>
    intro k i hd hi hk
    obtain ⟨k, rfl⟩ : ∃ m, k = m + 1 := ⟨k - 1, by omega⟩
    simp only [word_Put.l0]
    rw [if_neg (by omega), lebytes_length, show n - i = 0 by omega, List.replicate_zero, List.append_nil, List.take_of_length_le (by rw [lebytes_length]; omega)]
  | succ d ih =>
    intro k i hd hi hk
    obtain ⟨k, rfl⟩ : ∃ m, k = m + 1 := ⟨k - 1, by omega⟩
    have hlen := lebytes_length n x
    have hil : i < (lebytes n x).length := by omega
    have hw : IntKind.u64.wrap (wrap64 (8 * (i : Int))) = 8 * (i : Int) := by rw [wrap64_id (by omega) (by omega), wrapu_id (by omega) (by omega)]
    have hv : shr .u64 x (8 * (i : Int)) % 256 = (lebytes n x)[i] := by
      rw [lebytes_get]
      unfold shr
      rw [show (8 * (i : Int)).toNat = 8 * i by omega, show IntKind.u64.bits = 64 from rfl, Nat.min_eq_left (by omega), ← pow256]
    simp only [word_Put.l0]
    rw [if_pos (by omega), hw, if_pos (by omega), if_pos (by omega), if_pos (by rw [List.length_append, List.length_take, List.length_replicate]; omega), Int.toNat_natCast, hv, set_fill _ _ hil, wrap64_id (by omega) (by omega)]
    exact ih k (i + 1) (by omega) (by omega) (by omega)
theorem word_size_eq (n : Int) : word_size.f n = some (decide (1 ≤ n ∧ n ≤ 8)) := by
  unfold word_size.f
  by_cases h : n ≥ 1
  · rw [if_pos h]; congr 1; simp; omega
  · rw [if_neg h]; congr 1; symm; simp; omega
theorem word_Put_eq (k : Nat) (hk : 9 ≤ k) (x n : Int) (hx : 0 ≤ x) : word_Put.f k x n = some (putV x n) := by
  unfold word_Put.f putV
  rw [word_size_eq, Option.bind_some]
  by_cases h : 1 ≤ n ∧ n ≤ 8
  · rw [if_pos (by simpa using h), if_pos h, if_pos (by omega), if_pos (by omega)]
    obtain ⟨m, rfl⟩ := Int.eq_ofNat_of_zero_le (show 0 ≤ n by omega)
    have := put_loop x hx m (by omega) m k 0 (by omega) (by omega) (by omega)
    rw [lebytes_length] at this
    simpa using this
  · rw [if_neg (by simpa using h), if_neg h]

/-! the reference's Put -/
theorem refput_loop (x0 : Int) (n : Nat) (hn : n ≤ 8) (hx0 : 0 ≤ x0) (hx1 : x0 < 18446744073709551616) (d : Nat) : ∀ (k i : Nat), n - i = d → i ≤ n → d < k →
    reliquaryref01_Put.l0 k (x0 / 256 ^ i) n (lebytes i x0) i = some (lebytes n x0) := by
  induction d with
  | zero =>
    intro k i hd hi hk
    obtain ⟨k, rfl⟩ : ∃ m, k = m + 1 := ⟨k - 1, by omega⟩
    simp only [reliquaryref01_Put.l0]
    rw [if_neg (by omega), show i = n by omega]
  | succ d ih =>
    intro k i hd hi hk
    obtain ⟨k, rfl⟩ : ∃ m, k = m + 1 := ⟨k - 1, by omega⟩
    have hy0 : 0 ≤ x0 / 256 ^ i := Int.ediv_nonneg hx0 (Int.le_of_lt (pow256_pos i))
    have hy1 : x0 / 256 ^ i < 18446744073709551616 := Int.lt_of_le_of_lt (Int.ediv_le_self _ hx0) hx1
    simp only [reliquaryref01_Put.l0]
    rw [if_pos (by omega), if_pos (by rw [lebytes_length]; omega), Int.tmod_eq_emod_of_nonneg hy0, Int.tdiv_eq_ediv_of_nonneg hy0, wrapu_id (by omega) (by omega), wrap64_id (by omega) (by omega), Int.emod_emod_of_dvd _ (by decide : (256 : Int) ∣ 256), ← lebytes_snoc,
      Int.ediv_ediv_of_nonneg (Int.le_of_lt (pow256_pos i)), ← Int.pow_succ]
    exact ih k (i + 1) (by omega) (by omega) (by omega)
theorem refput_eq (k : Nat) (hk : 9 ≤ k) (x n : Int) (hx : 0 ≤ x) (hx1 : x < 18446744073709551616) : reliquaryref01_Put.f k x n = some (putV x n) := by
  unfold reliquaryref01_Put.f putV
  by_cases h : n > 8
  · rw [if_pos h, if_neg (by omega)]
  · rw [if_neg h]
    by_cases h1 : 1 ≤ n
    · rw [if_pos (by omega)]
      obtain ⟨m, rfl⟩ := Int.eq_ofNat_of_zero_le (show 0 ≤ n by omega)
      have := refput_loop x m (by omega) hx hx1 m k 0 (by omega) (by omega) (by omega)
      simpa [lebytes] using this
    · rw [if_neg (by omega)]
      obtain ⟨k, rfl⟩ : ∃ m, k = m + 1 := ⟨k - 1, by omega⟩
      simp only [reliquaryref01_Put.l0]
      rw [if_neg (by omega)]

/-! word.Get -/
def insideV (len a n : Int) : Int := if ¬ (1 ≤ n ∧ n ≤ 8) then 1 else if a < 0 ∨ len < a ∨ len - a < n then 12 else 0
def cutV (l : List Int) (a n : Int) : List Int := (l.take (a + n).toNat).drop a.toNat
def getV (l : List Int) (a n : Int) : Int × Int := if insideV l.length a n = 0 then (leval (cutV l a n), 0) else (0, insideV l.length a n)
theorem u8s_cut {l : List Int} (h : u8s l) (a n : Int) : u8s (cutV l a n) := fun x hx => h x (List.mem_of_mem_take (List.mem_of_mem_drop hx))
theorem insideV_zero {len a n : Int} (h : insideV len a n = 0) : 0 ≤ a ∧ 1 ≤ n ∧ n ≤ 8 ∧ a + n ≤ len := by
  unfold insideV at h
  split at h
  · omega
  · split at h <;> omega
theorem insideV_of {len a n : Int} (h0 : 0 ≤ a) (h1 : 1 ≤ n) (h2 : n ≤ 8) (h3 : a + n ≤ len) : insideV len a n = 0 := by
  unfold insideV
  rw [if_neg (by omega), if_neg (by omega)]
theorem cutV_length {l : List Int} {a n : Int} (h0 : 0 ≤ a) (h1 : 0 ≤ n) (h3 : a + n ≤ l.length) : (cutV l a n).length = n.toNat := by
  unfold cutV
  rw [List.length_drop, List.length_take]
  omega
theorem word_inside_eq (l : List Int) (a n : Int) (hl : l.length ≤ 140737488351232) (ha1 : a ≤ 9223372036854775807) : word_inside.f l a n = some (insideV l.length a n) := by
  unfold word_inside.f insideV
  rw [word_size_eq, Option.bind_some]
  by_cases h : 1 ≤ n ∧ n ≤ 8
  · rw [if_pos (show decide (1 ≤ n ∧ n ≤ 8) = true by simpa using h), if_neg (show ¬ ¬ (1 ≤ n ∧ n ≤ 8) by simpa using h)]
    by_cases h1 : a < 0
    · rw [if_pos h1, if_pos (by omega)]
    · rw [if_neg h1]
      by_cases h2 : a > l.length
      · rw [if_pos h2, if_pos (by omega)]
      · rw [if_neg h2, wrap64_id (by omega) (by omega)]
        by_cases h3 : (l.length : Int) - a < n
        · rw [if_pos h3, if_pos (by omega)]
        · rw [if_neg h3, if_neg (by omega)]
  · rw [if_neg (show ¬ decide (1 ≤ n ∧ n ≤ 8) = true by simpa using h), if_pos h]
theorem word_Get_eq (l : List Int) (a n : Int) (hu : u8s l) (hl : l.length ≤ 140737488351232) (ha1 : a ≤ 9223372036854775807) : word_Get.f l a n = some (getV l a n) := by
  unfold word_Get.f getV
  rw [word_inside_eq l a n hl ha1, Option.bind_some]
  by_cases h : insideV l.length a n = 0
  · have h1 := insideV_zero h
    rw [if_pos h, if_pos h, if_pos ⟨h1.1, h1.2.1, h1.2.2.1, h1.2.2.2, hl, u8s_cut hu a n⟩]
    rfl
  · rw [if_neg h, if_neg h]

/-! the reference's Get -/
theorem cutV_snoc (l : List Int) (a i : Int) (h0 : 0 ≤ a) (hi : 0 ≤ i) (h : a + i < l.length) : cutV l a (i + 1) = cutV l a i ++ [rd l (a + i)] := by
  obtain ⟨m, hm⟩ := Int.eq_ofNat_of_zero_le (show 0 ≤ a + i by omega)
  unfold cutV
  have hml : m < l.length := by omega
  rw [show (a + (i + 1)).toNat = m + 1 by omega, show (a + i).toNat = m by omega, List.take_succ_eq_append_getElem hml, List.drop_append_of_le_length (by rw [List.length_take]; omega), hm, rd_nat l m hml]
theorem refget_loop (l : List Int) (hu : u8s l) (hl : l.length ≤ 140737488351232) (a : Int) (n : Nat) (h0 : 0 ≤ a) (hn : n ≤ 8) (h3 : a + n ≤ l.length) (d : Nat) : ∀ (k i : Nat), n - i = d → i ≤ n → d < k →
    reliquaryref01_Get.l0 k l a n (leval (cutV l a i)) (IntKind.u64.wrap (256 ^ i)) i = some (leval (cutV l a n), 0) := by
  induction d with
  | zero =>
    intro k i hd hi hk
    obtain ⟨k, rfl⟩ : ∃ m, k = m + 1 := ⟨k - 1, by omega⟩
    simp only [reliquaryref01_Get.l0]
    rw [if_neg (by omega), show i = n by omega]
  | succ d ih =>
    intro k i hd hi hk
    obtain ⟨k, rfl⟩ : ∃ m, k = m + 1 := ⟨k - 1, by omega⟩
    have hai : a + (i : Int) < l.length := by omega
    have hb : 0 ≤ rd l (a + i) ∧ rd l (a + i) < 256 := by
      obtain ⟨m, hm⟩ := Int.eq_ofNat_of_zero_le (show 0 ≤ a + (i : Int) by omega)
      rw [hm, rd_nat l m (by omega)]
      exact hu _ (List.getElem_mem _)
    have hcl : (cutV l a i).length = i := by rw [cutV_length h0 (by omega) (by omega)]; omega
    have hv := leval_range (cutV l a i) (u8s_cut hu a i)
    rw [hcl] at hv
    have hp := pow256_pos i
    have hp8 : (256 : Int) ^ i * 256 ≤ 18446744073709551616 := by
      rw [← Int.pow_succ, show (18446744073709551616 : Int) = 256 ^ 8 from by decide]
      exact pow_mono 256 (by decide) (by omega)
    have hq : rd l (a + i) * 256 ^ i ≤ 255 * 256 ^ i := Int.mul_le_mul_of_nonneg_right (by omega) (by omega)
    have hq0 : 0 ≤ rd l (a + i) * 256 ^ i := Int.mul_nonneg hb.1 (by omega)
    have hs : leval (cutV l a (i + 1 : Nat)) = leval (cutV l a i) + rd l (a + i) * 256 ^ i := by
      rw [show ((i + 1 : Nat) : Int) = (i : Int) + 1 by omega, cutV_snoc l a i h0 (by omega) hai, leval_snoc, hcl]
    simp only [reliquaryref01_Get.l0]
    rw [if_pos (by omega), wrap64_id (by omega) (by omega), if_pos (by omega), if_pos (by omega), wrapu_id (n := rd l (a + i)) (by omega) (by omega), wrapu_id (n := 256 ^ i) (by omega) (by omega), wrapu_id (n := rd l (a + i) * 256 ^ i) (by omega) (by omega), wrapu_id (n := leval (cutV l a i) + rd l (a + i) * 256 ^ i) (by omega) (by omega), ← hs, ← Int.pow_succ, wrap64_id (by omega) (by omega)]
    exact ih k (i + 1) (by omega) (by omega) (by omega)
theorem refget_eq (k : Nat) (hk : 20 ≤ k) (l : List Int) (a n : Int) (hu : u8s l) (hl : l.length ≤ 140737488351232) (ha1 : a ≤ 9223372036854775807) : reliquaryref01_Get.f k l a n = some (getV l a n) := by
  have hj : ∀ b, reliquaryref01_Get.f k l a n = reliquaryref01_Get.j0 k l a n b → (b = true ↔ ¬ (1 ≤ n ∧ n ≤ 8)) → reliquaryref01_Get.f k l a n = some (getV l a n) := by
    intro b hb hiff
    rw [hb]
    obtain ⟨k, rfl⟩ : ∃ m, k = m + 1 := ⟨k - 1, by omega⟩
    simp only [reliquaryref01_Get.j0]
    by_cases hn : 1 ≤ n ∧ n ≤ 8
    · have hbf : ¬ b = true := fun h => (hiff.1 h) hn
      rw [if_neg hbf]
      obtain ⟨k, rfl⟩ : ∃ m, k = m + 1 := ⟨k - 1, by omega⟩
      have key : ∀ c, (c = true ↔ (a < 0 ∨ (l.length : Int) < a ∨ (l.length : Int) - a < n)) → reliquaryref01_Get.j1 (k + 1) l a n c = some (getV l a n) := by
        intro c hc
        simp only [reliquaryref01_Get.j1]
        unfold getV
        by_cases h : a < 0 ∨ (l.length : Int) < a ∨ (l.length : Int) - a < n
        · have hv : insideV l.length a n = 12 := by unfold insideV; rw [if_neg (by simpa using hn), if_pos h]
          rw [if_pos (hc.2 h), hv, if_neg (by decide)]
        · have hv : insideV l.length a n = 0 := by unfold insideV; rw [if_neg (by simpa using hn), if_neg h]
          rw [if_neg (fun h2 => h (hc.1 h2)), hv, if_pos rfl]
          obtain ⟨m, rfl⟩ := Int.eq_ofNat_of_zero_le (show 0 ≤ n by omega)
          have := refget_loop l hu hl a m (by omega) (by omega) (by omega) m k 0 (by omega) (by omega) (by omega)
          rw [show cutV l a ((0 : Nat) : Int) = [] by unfold cutV; exact List.drop_eq_nil_of_le (by rw [List.length_take]; omega)] at this
          exact this
      by_cases h1 : a < 0
      · rw [if_pos h1]
        exact key true (by simp; omega)
      · rw [if_neg h1]
        by_cases h2 : a > l.length
        · rw [if_pos h2]
          exact key true (by simp; omega)
        · rw [if_neg h2, wrap64_id (by omega) (by omega)]
          exact key _ (by simp; omega)
    · rw [if_pos (hiff.2 hn)]
      unfold getV
      have hv : insideV l.length a n = 1 := by unfold insideV; rw [if_pos hn]
      rw [hv, if_neg (by decide)]
  by_cases h : n < 1
  · exact hj true (by unfold reliquaryref01_Get.f; rw [if_pos h]) (by simp; omega)
  · exact hj (decide (n > 8)) (by unfold reliquaryref01_Get.f; rw [if_neg h]) (by simp; omega)

/-! Set -/
def setV (l : List Int) (a n x : Int) : List Int × Int := if insideV l.length a n = 0 then (l.take a.toNat ++ (lebytes n.toNat x ++ l.drop (a + n).toNat), 0) else ([], insideV l.length a n)
/-! Pad -/
def padV (l : List Int) (n : Int) : List Int := l.take n.toNat ++ List.replicate (n.toNat - l.length) 0
theorem padV_length (l : List Int) (n : Int) : (padV l n).length = n.toNat := by unfold padV; rw [List.length_append, List.length_take, List.length_replicate]; omega
theorem word_Pad_eq (l : List Int) (n : Int) (hn : n ≤ 281474976710656) : word_Pad.f l n = some (padV l n) := by
  unfold word_Pad.f padV
  by_cases h : n < 1
  · rw [if_pos h, show n.toNat = 0 by omega]
    simp
  · rw [if_neg h, if_pos (by omega)]
theorem padV_get (l : List Int) (n : Int) (i : Nat) (h : i < (padV l n).length) : (padV l n)[i] = rd l i := by
  have hn := padV_length l n
  unfold padV at hn h ⊢
  by_cases hi : i < l.length
  · rw [List.getElem_append_left (by rw [List.length_take]; omega), List.getElem_take, rd_nat l i hi]
  · rw [List.getElem_append_right (by rw [List.length_take]; omega)]
    simp [rd, List.getD_eq_getElem?_getD, List.getElem?_eq_none (show l.length ≤ i by omega)]
theorem slices_Concat_eq (l : List (List Int)) (h : l.flatten.length ≤ 140737488351232) : slices_Concat_byte_byte.f l = some l.flatten := by unfold slices_Concat_byte_byte.f; rw [if_pos h]
end Go.Proofs.Ytjpkjakdhbnehaa.Pure
end
