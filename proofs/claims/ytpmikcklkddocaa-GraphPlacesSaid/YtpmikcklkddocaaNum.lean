/-
  The walks of package num: the rest.
-/
import Derived.Test.YtpmikcklkddocaaNumPut
namespace Go.Proofs.Ytpmikcklkddocaa
open Go.RowKit Go.Ox
theorem strCells_list (l : List UInt8) : Lib.strCells ⟨l.toArray⟩ = l.map byteV := by
  unfold Lib.strCells byteV n8; simp
theorem strCells_bytes (s : ByteArray) : Lib.strCells s = s.data.toList.map byteV := by
  unfold Lib.strCells byteV n8; rfl

theorem wpList_appS {ops : Array Oper} {rest : List Oper} {o : Oper} {a : Act} {Q : Exit → Act → World → Prop} (hgd : o.guard = none) (w : World) (sl x : Operand)
    (ho : o.op = .call { callee := .builtin .append, args := #[sl, x], argTypes := #[51, 9] })
    (base : Nat) (v : Value) (l : List UInt8) (hs : a.eval sl = v) (hown : OB 5 base w v l) (s : ByteArray) (hx : a.eval x = .string s)
    (hb : l.length + s.size ≤ 1000000) (hbase : base ≤ w.heap.size)
    (h : ∀ v' w', OB 5 base w' v' (l ++ s.data.toList) → w.grownBy w' v.ownBlock → wpList Try.prog ops Q rest (a.put o.dst v') w') : wpList Try.prog ops Q (o :: rest) a w := by
  obtain ⟨i, hi, hz, hsz, hby⟩ := elemB.info
  refine Go.Lib.wpList_append_own_string w hgd sl x 51 9 ho base 5 i Try.underlying51 Try.underlying9 hi hz hsz hby v _ _ hs hown.own s hx (by unfold maxLen; omega) (by omega) hbase fun v' w' h2 h3 _ => h v' w' ?_ h3
  rw [strCells_bytes] at h2
  exact OB.app (by simpa using h2)

end Go.Proofs.Ytpmikcklkddocaa
