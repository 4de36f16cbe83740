/- Strings read by index; '[]byte(s)' by hand (for seats other than law19's, which has these in C19RGet). -/
import Derived.Test.YtjpkjakdhbnehaaHEq
import Derived.Test.YtjpkjakdhbnehaaQxw
import Derived.Test.YtjpkjakdhbnehaaPureW
import Derived.Test.YtjpkjakdhbnehaaPureS
import Derived.Test.YtjpkjakdhbnehaaPureS2
namespace Go.Proofs.Ytjpkjakdhbnehaa.Q
open Go.RowKit Go.Proofs.YtjpkjakdhbnehaaW.PrintWords Go.Proofs.YtjpkjakdhbnehaaW.PrintLast Go.Proofs.YtjpkjakdhbnehaaW.PrintMore Go.Proofs.Ytjpkjakdhbnehaa.Pure
set_option linter.unusedVariables false
set_option linter.unusedSimpArgs false
theorem run_index_bt {P : Program} (w : World) (t : TypeId) (s : ByteArray) (k : IntKind) (i : Int) (h : P.underlying t = some .string) (h0 : 0 ≤ i) (h1 : i < s.size) : (Instr.index t (.string s) (.int k i)).run P w = .ok (.int .u8 (bt s i)) w := by
  rw [run_index_string w t s k i h, dif_pos ⟨h0, h1⟩, bt_at]
theorem cell_congr {w1 w2 : World} {g : Nat} (h : w2.heap[g]? = w1.heap[g]?) (a : Addr) (ha : a.block = g) : w2.cell? a = w1.cell? a := by unfold World.cell?; rw [ha, h]
theorem add_block (a : Addr) (j : Nat) : (a.add j).block = a.block := by unfold Addr.add; split <;> rfl
/-- '[]byte(s)': its block tells the row. -/
theorem conv_row (W : World) (e : TypeId) (s : ByteArray) (hs : s.size ≤ 200) : ∃ ob, (Lib.bytesWorld W e s).heap[W.heap.size]? = some ob ∧ ∀ W2 : World, W2.heap[W.heap.size]? = some ob → Kd.C (Kd.int .u8) W2 (some ⟨W.heap.size, 0, none⟩) (bytesOf s).length (bytesOf s) := by
  refine ⟨_, Lib.bytesWorld_at_new W e s, fun W2 h2 => ?_⟩
  have hr := bytes_reads W e s (by omega)
  rw [← bytesOf_length] at hr
  refine Kd.C_of_reads (enc := Value.int .u8) (d := (0 : Int)) (h1 := fun _ => rfl) ⟨rfl, by rw [bytesOf_length]; omega, fun h0 => ⟨_, rfl, fun j hj => ?_⟩⟩
  obtain ⟨ad, e1, e2⟩ := hr.2.2 h0
  injection e1 with e1
  subst e1
  rw [← e2 j hj]
  have := cell_congr (h2.trans (Lib.bytesWorld_at_new W e s).symm)
  exact this _ (add_block _ _)
theorem wl_conv {P : Program} {a : Act} {o : Oper} {ops : Array Oper} {rest : List Oper} {Q : Exit → Act → World → Prop} {W : World} {u : TypeDesc} (hgd : o.guard = none) (src dst e : TypeId) (x : Operand) (ho : o.op = .convert src dst x) (s : ByteArray) (hx : a.eval x = .string s)
    (hsu : P.underlying src = some u) (hdu : P.underlying dst = some (.slice e)) (heu : P.underlying e = some (.int .u8)) (hs : s.size ≤ 200) (n : Nat) (hn : s.size = n) (l : List Int) (hl : bytesOf s = l)
    (h : ∀ g, g = W.heap.size → ∀ (W1 : World) (ob : Obj) (c : Nat), Below W.heap.size W W1 → W1.heap[g]? = some ob → (∀ W2 : World, W2.heap[g]? = some ob → Kd.C (Kd.int .u8) W2 (some ⟨g, 0, none⟩) l.length l) → n ≤ c → wpList P ops Q rest (a.put o.dst (.slice (some ⟨g, 0, none⟩) n c)) W1) : wpList P ops Q (o :: rest) a W := by
  subst hn
  subst hl
  obtain ⟨ob, h1, h2⟩ := conv_row W e s hs
  have hb : Below W.heap.size W (Lib.bytesWorld W e s) := below_freeze (below_alloc (below_drew (Below.refl _ _)) _) _ _ (Nat.le_refl _)
  refine Kd.event_run hgd (v := .slice (some ⟨W.heap.size, 0, none⟩) s.size (grownCap W s.size 0 e)) (w1 := Lib.bytesWorld W e s) ?_ (h _ rfl _ ob _ hb h1 h2 (grownCap_ge _ _ _ _))
  unfold execOp
  rw [ho]
  simp [hx, Lib.run_convert_string_bytes W src dst e s hsu hdu heu, Result.andThen]
end Go.Proofs.Ytjpkjakdhbnehaa.Q
