/-
  The walks of package num: the rest.
-/
import Derived.Test.YtklnbmcfnnmliaaDoorNumPut
namespace Go.Proofs.YtklnbmcfnnmliaaDoor
open Go.RowKit Go.Ox
set_option maxRecDepth 100000 in
set_option maxHeartbeats 400000 in
theorem fix_no (n s : Int) (w : World) (h1 : -9223372036854775808 ≤ n ∧ n < 9223372036854775808) (h2 : ¬ FixOk n s) :
    Calls Tryd.prog 18 #[.int .i64 n, .int .i64 s] w fun e w' => e = .returned (.tuple #[.slice none 0 0, .int .i64 1]) ∧ w = w' := by
  by_cases c1 : n < 0
  · clear h2
    go_enter Tryd.func18, Tryd.ntmps18
    go_wp2
    go_ret2
    exact ⟨rfl, rfl⟩
  by_cases c2 : s < 1
  · clear h2
    go_enter Tryd.func18, Tryd.ntmps18
    go_wp2
    go_ret2
    exact ⟨rfl, rfl⟩
  by_cases c3 : 8 < s
  · clear h2
    go_enter Tryd.func18, Tryd.ntmps18
    go_wp2
    go_ret2
    exact ⟨rfl, rfl⟩
  · obtain ⟨n, rfl⟩ : ∃ m : Nat, n = m := ⟨n.toNat, by omega⟩
    obtain ⟨s, rfl⟩ : ∃ m : Nat, s = m := ⟨s.toNat, by omega⟩
    have c4 : ¬ Num.width n ≤ s := fun h => h2 ⟨by omega, by omega, by omega, by simpa using h⟩
    have hwd : Num.width n ≤ 8 := (Num.width_le 8 n (by omega)).2 (by omega)
    have hW := Lib.hid (width_any n w (by omega))
    generalize Num.width n = k at *
    have g : (s : Int) < (k : Int) := by omega
    clear h2 c4
    go_enter Tryd.func18, Tryd.ntmps18
    go_wp2_with (go_at_call 29; refine hW.out.mono ?_; rintro e w' ⟨rfl, rfl⟩)
    go_ret2
    exact ⟨rfl, rfl⟩
set_option maxRecDepth 100000 in
set_option maxHeartbeats 400000 in
theorem fix_yes (n s : Nat) (w : World) (h1 : n < 9223372036854775808) (h2 : FixOk n s) :
    Calls Tryd.prog 18 #[.int .i64 n, .int .i64 s] w fun e w' => ∃ v, e = .returned (.tuple #[v, .int .i64 0]) ∧ OB 5 w.heap.size w' v (Num.digits n s) ∧ Ext w w' := by
  obtain ⟨a1, a2, a3, a4⟩ := h2
  simp only [Int.toNat_natCast] at a4
  have hW := Lib.hid (width_any n w h1)
  have a5 : s ≤ 8 := by omega
  generalize hk : Num.width n = k at *
  clear hk
  have c1 : ¬ (n : Int) < 0 := by omega
  have c2 : ¬ (s : Int) < 1 := by omega
  have c3 : ¬ (8 : Int) < (s : Int) := by omega
  have c4 : ¬ (s : Int) < (k : Int) := by omega
  go_enter Tryd.func18, Tryd.ntmps18
  go_wp2_with (first
    | (go_at_call 29; refine hW.out.mono ?_; rintro e w' ⟨rfl, rfl⟩)
    | (go_at_call 30; refine (digits_any n s _ h1 a5).mono ?_; rintro e w1 ⟨v1, rfl, ho1, he1⟩))
  go_ret2
  exact ⟨_, rfl, ho1, he1⟩
theorem strCells_list (l : List UInt8) : Lib.strCells ⟨l.toArray⟩ = l.map byteV := by
  unfold Lib.strCells byteV n8; simp
theorem strCells_bytes (s : ByteArray) : Lib.strCells s = s.data.toList.map byteV := by
  unfold Lib.strCells byteV n8; rfl

theorem wpList_appS {ops : Array Oper} {rest : List Oper} {o : Oper} {a : Act} {Q : Exit → Act → World → Prop} (hgd : o.guard = none) (w : World) (sl x : Operand)
    (ho : o.op = .call { callee := .builtin .append, args := #[sl, x], argTypes := #[22, 9] })
    (base : Nat) (v : Value) (l : List UInt8) (hs : a.eval sl = v) (hown : OB 5 base w v l) (s : ByteArray) (hx : a.eval x = .string s)
    (hb : l.length + s.size ≤ 1000000) (hbase : base ≤ w.heap.size)
    (h : ∀ v' w', OB 5 base w' v' (l ++ s.data.toList) → w.grownBy w' v.ownBlock → wpList Tryd.prog ops Q rest (a.put o.dst v') w') : wpList Tryd.prog ops Q (o :: rest) a w := by
  obtain ⟨i, hi, hz, hsz, hby⟩ := elemB.info
  refine Go.Lib.wpList_append_own_string w hgd sl x 22 9 ho base 5 i Tryd.underlying22 Tryd.underlying9 hi hz hsz hby v _ _ hs hown.own s hx (by unfold maxLen; omega) (by omega) hbase fun v' w' h2 h3 _ => h v' w' ?_ h3
  rw [strCells_bytes] at h2
  exact OB.app (by simpa using h2)

end Go.Proofs.YtklnbmcfnnmliaaDoor
