/-
  The statements of layer 1, at whatever arguments.
-/
import Derived.Test.YtgojbgjfnjeglaaNumLaws2
import Derived.Test.YtgojbgjfnjeglaaNumLaws3
import Derived.Test.YtgojbgjfnjeglaaNumLaws4
import Derived.Test.YtgojbgjfnjeglaaFlat
namespace Go.Proofs.Ytgojbgjfnjeglaa
open Go.RowKit Go.Ox Go.ChangeShapes Go.WideShapes

section
variable {H : Type} {enc : TypeId × Value → H} {W : World} {base : Nat} {sp : Nat → Bool} {held : Bool} {v : Value} {d : DataW H} {p : List MemPlace} {r : Reach} {b0 : Nat}
set_option maxRecDepth 100000 in
theorem opArg (hv : Value.okWide Try.prog W r b0 42 v) (h : DataW.Trod enc Try.prog W base sp held 42 v d p) :
    ∃ x : Int × Int, v = .agg #[.int .i64 x.1, .int .i64 x.2] := by
  obtain ⟨cs, rfl, hr⟩ := struct_of_trod (n := 8) (ks := [.int .i64, .int .i64]) (by kernel_rfl) Try.underlying42 hv h
  obtain ⟨n, cs, rfl, _, hr⟩ := rowOk_int hr
  obtain ⟨m, cs, rfl, _, hr⟩ := rowOk_int hr
  obtain rfl := rowOk_nil hr
  exact ⟨(n, m), rfl⟩
theorem pairs_of : ∀ (rows : List (List Value)), (∀ x ∈ rows, rowOk [.int .i64, .int .i64] x) → ∃ l : List (Int × Int), rows.length = l.length ∧ rows.flatten = pairV l
  | [], _ => ⟨[], rfl, rfl⟩
  | r :: rows, h => by
    obtain ⟨l, h1, h2⟩ := pairs_of rows fun x hx => h x (List.mem_cons_of_mem _ hx)
    have hr := h r (List.mem_cons_self ..)
    obtain ⟨n, cs, rfl, _, hr⟩ := rowOk_int hr
    obtain ⟨m, cs, rfl, _, hr⟩ := rowOk_int hr
    obtain rfl := rowOk_nil hr
    exact ⟨(n, m) :: l, by simp [h1], by rw [List.flatten_cons, h2]; rfl⟩
set_option maxRecDepth 100000 in
theorem opsArg (hv : Value.okWide Try.prog W r b0 34 v) (h : DataW.Trod enc Try.prog W base sp held 34 v d p) :
    ∃ l : List (Int × Int), Rd W 2 v l.length (pairV l) := by
  obtain ⟨rows, hr, hx⟩ := rdF_of_trod (n := 8) (ks := [.int .i64, .int .i64]) Try.underlying34 (by kernel_rfl) (by kernel_rfl) (by decide) hv h
  obtain ⟨l, h1, h2⟩ := pairs_of rows hx
  rw [h1, h2] at hr
  exact ⟨l, hr⟩
end

theorem numPuts_law (w : World) (n : Int) (hn : -9223372036854775808 ≤ n ∧ n ≤ 9223372036854775807) (s : Int) (hs : -9223372036854775808 ≤ s ∧ s ≤ 9223372036854775807) (x : ByteArray) (_hx : x.size ≤ maxLen) :
    Calls Try.prog 3 #[.int .i64 n, .int .i64 s, .string x] w fun e w' => e = .returned (.bool true) ∧ Ext w w' := by
  by_cases h1 : 5000 < x.size
  · exact numPuts_long n s x w h1
  by_cases h2 : n < 0
  · exact numPuts_neg n s x w (by omega) hn h2
  obtain ⟨m, rfl⟩ : ∃ m : Nat, n = m := ⟨n.toNat, by omega⟩
  by_cases h3 : FixOk m s
  · have h4 : ((s.toNat : Nat) : Int) = s := by have := h3.2.1; omega
    exact numPuts_a m s x w (by omega) (by omega) hs (by rw [h4]; exact h3)
  · exact numPuts_b m s x w (by omega) (by omega) hs h3
theorem numReads_law (w : World) (v : Value) (b : List UInt8) (hb : RB w v b) (u : Value) (l : List (Int × Int)) (hu : Rd w 2 u l.length (pairV l)) :
    Calls Try.prog 4 #[v, u] w fun e w' => e = .returned (.bool true) ∧ Ext w w' := by
  by_cases h1 : 5000 < b.length
  · obtain ⟨A, c, hv⟩ := hb.form
    exact numReads_long v u b _ c A w hv h1
  · exact numReads_any v u b l w hb hu (by omega)
theorem numBack_law (w : World) (u : Value) (zs : List Int) (hu : Rd w 1 u zs.length (zs.map (Value.int .i64))) (hz : ∀ z ∈ zs, (Lit.int .i64 z).wf = true) (x : ByteArray) (_hx : x.size ≤ maxLen) :
    Calls Try.prog 5 #[u, .string x] w fun e w' => e = .returned (.bool true) ∧ Ext w w' := by
  by_cases h1 : 100 < zs.length ∨ 3000 < x.size
  · obtain ⟨A, c, hv, _⟩ := hu
    exact numBack_long u x _ c A w hv h1
  · obtain ⟨l, rfl⟩ : ∃ l : List UInt8, x = ⟨l.toArray⟩ := ⟨x.data.toList, by simp⟩
    have : (⟨l.toArray⟩ : ByteArray).size = l.length := by show l.toArray.size = _; simp
    exact numBack_any u zs l w hu (fun z h => bounds_i64 (hz z h)) (by omega) (by omega)
theorem numOrders_law (w : World) (n : Int) (hn : -9223372036854775808 ≤ n ∧ n ≤ 9223372036854775807) (m : Int) (hm : -9223372036854775808 ≤ m ∧ m ≤ 9223372036854775807) :
    Calls Try.prog 6 #[.int .i64 n, .int .i64 m] w fun e w' => e = .returned (.bool true) ∧ Ext w w' := by
  by_cases h : n < 0 ∨ m < 0
  · exact numOrders_no n m w hn hm h
  · obtain ⟨n, rfl⟩ : ∃ k : Nat, n = k := ⟨n.toNat, by omega⟩
    obtain ⟨m, rfl⟩ : ∃ k : Nat, m = k := ⟨m.toNat, by omega⟩
    exact numOrders_yes n m w (by omega) (by omega)
theorem numNobody_law (w : World) (v : Value) (x : Int × Int) (hv : v = .agg #[.int .i64 x.1, .int .i64 x.2]) :
    Calls Try.prog 7 #[v] w fun e w' => e = .returned (.bool true) ∧ Ext w w' := by
  subst hv
  exact numNobody_any x.1 x.2 w
end Go.Proofs.Ytgojbgjfnjeglaa
