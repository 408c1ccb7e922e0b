/-
  Bytes: the element type, strings, constants, slices.Clone.
-/
import Derived.Test.YtpmikcklkddocaaChecked
import Derived.Test.YtpmikcklkddocaaMem
import Derived.WalkKit
import Derived.WalkSpells
import Derived.WalkLawsBesides
namespace Go.Proofs.Ytpmikcklkddocaa
open Go.RowKit Go.Ox

theorem elemB : Elem Try.prog 51 5 (.int .u8 0) 1 1 := Elem.mk' Try.underlying51 (by kernel_rfl) rfl (by omega)

theorem strB {w : World} {v : Value} {l : List UInt8} (h : RB w v l) : (convert 51 9 v).run Try.prog w = .ok (.string ⟨l.toArray⟩) w :=
  run_str Try.underlying51 Try.underlying5 Try.underlying9 h
theorem convConst (w : World) (C : Array Value) (n c : Nat) : (convert 51 51 (.slice (some ⟨w.heap.size, 0, none⟩) n c)).run Try.prog (w.alloc (.cells C 5)) = .ok (.slice (some ⟨w.heap.size, 0, none⟩) n c) (w.alloc (.cells C 5 (C.size, C.size + 1))) :=
  Lib.run_convert_bytes_const (P := Try.prog) w 51 5 C n c Try.underlying51 Try.underlying5
theorem convC {B : Nat} {w : World} {v : Value} {l : List UInt8} (h : FB B w v l) : ∃ w', (convert 51 51 v).run Try.prog w = .ok v w' ∧ ExtC B w w' :=
  run_conv_const Try.underlying51 Try.underlying5 h
theorem madeB (n : Nat) : (madeCells (Value.int .u8 0).cells (n * 1)).toList = (List.replicate n (0 : UInt8)).map byteV := by
  rw [Nat.mul_one, show (Value.int .u8 0).cells = #[Value.int .u8 0] from rfl, toList_madeCells_one, List.map_replicate]
  congr 1
  unfold byteV n8; rfl
theorem str_eq (a b : List UInt8) : ((⟨a.toArray⟩ : ByteArray) == ⟨b.toArray⟩) = (a == b) := by
  show (a.toArray == b.toArray) = (a == b)
  simp

theorem own_empty (w : World) : (w.alloc (.cells #[] 5)).ownsRow w.heap.size 5 1 (.slice (some ⟨w.heap.size, 0, none⟩) 0 0) 0 [] :=
  World.ownsRow_lit w #[] 0 (Nat.le_refl _) (by unfold maxLen; omega) rfl
theorem eqlNilB (w : World) (A : Option Addr) (n c n' c' : Nat) : (binOp .eql 51 (.slice A n c) (.slice none n' c')).run Try.prog w = .ok (.bool A.isNone) w :=
  Lib.run_eql_slice_nil (P := Try.prog) w 51 5 A n c n' c' Try.underlying51

set_option maxRecDepth 100000 in
set_option maxHeartbeats 400000 in
theorem clone_any (v : Value) (l : List UInt8) (w : World) (hb : RB w v l) (hl : l.length ≤ 1099511627776) :
    Calls Try.prog 65 #[v] w fun e w' => ∃ v', e = .returned v' ∧ OB 5 w.heap.size w' v' l ∧ Ext w w' := by
  have HB := Lib.hid hb
  obtain ⟨A, c, rfl, hrd⟩ := hb
  have he := eqlNilB
  cases A with
  | none =>
    have hn : l.length = 0 := by have := hrd.nil rfl; have := hrd.nc; omega
    have := List.eq_nil_of_length_eq_zero hn
    subst this
    have h0 := hrd.nil rfl
    subst h0
    clear hrd hn
    go_enter Try.func65, Try.ntmps65
    go_wp2
    go_ret
    exact ⟨_, rfl, World.ownsRow_nil _ _ _ _, Ext.refl _⟩
  | some ad =>
    clear hrd
    have hown : (w.alloc (.cells #[] 5)).ownsRow w.heap.size 5 1 (.slice (some ⟨w.heap.size, 0, none⟩) 0 0) 0 [] :=
      World.ownsRow_lit w #[] 0 (Nat.le_refl _) (by unfold maxLen; omega) rfl
    have HO := Lib.hid hown
    clear hown
    go_enter Try.func65, Try.ntmps65
    go_wp2_with (at_builtin; refine wpList_app rfl elemB _ _ _ rfl w.heap.size _ 0 [] rfl HO.out _ l.length (l.map byteV) rfl (HB.out.ext ((Ext.refl _).alloc _)) (one_byteV l) (by omega) (by unfold maxLen; omega) (by simp) ?_; intro v' w' ha)
    go_ret
    exact ⟨_, rfl, by have := ha.own; simpa [OB] using this, ha.ext ((Ext.refl _).alloc _) rfl HO.out⟩

end Go.Proofs.Ytpmikcklkddocaa
