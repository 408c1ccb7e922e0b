/-
  The walks of package moment: what hands functions to the library.
-/
import Derived.Test.YtbokblklldphgaaMom
import Derived.Test.YtbokblklldphgaaPair
import Derived.Test.YtbokblklldphgaaShelf
namespace Go.Proofs.Ytbokblklldphgaa.Mo
open Go.RowKit Go.Ox Go.Shelf

theorem elemM : Elem Try.prog 35 29 (.agg #[.int .i64 0, .int .i64 0]) 2 16 := Elem.mk' Try.underlying35 (by kernel_rfl) rfl (by omega)
theorem eqlNilM (w : World) (A : Option Addr) (n c n' c' : Nat) : (binOp .eql 35 (.slice A n c) (.slice none n' c')).run Try.prog w = .ok (.bool A.isNone) w :=
  Lib.run_eql_slice_nil (P := Try.prog) w 35 29 A n c n' c' Try.underlying35
abbrev encM (x : Mom.M) : List Value := [.int .i64 x.1, .int .i64 x.2]

set_option maxRecDepth 100000 in
set_option maxHeartbeats 400000 in
theorem index0_any (A : Option Addr) (c : Nat) (f : Value) (w : World) :
    Calls Try.prog 58 #[.slice A 0 c, f] w fun e w' => e = .returned (.int .i64 (-1)) ∧ w = w' := by
  go_enter Try.func58, Try.ntmps58
  go_wp2
  go_loop [8] (fun i => i = .int .i64 0) (fun _ => 0)
  case atStart => rfl
  case round =>
    subst hrel
    go_wp2
    go_ret
    exact ⟨rfl, rfl⟩
set_option maxRecDepth 100000 in
set_option maxHeartbeats 400000 in
theorem contains0_any (A : Option Addr) (c : Nat) (f : Value) (w : World) :
    Calls Try.prog 42 #[.slice A 0 c, f] w fun e w' => e = .returned (.bool false) ∧ w = w' := by
  go_enter Try.func42, Try.ntmps42
  go_wp2_with (go_at_call 58; refine (index0_any _ _ _ _).mono ?_; rintro e w' ⟨rfl, rfl⟩)
  go_ret
  exact ⟨rfl, rfl⟩
theorem containsF_any (p : Mom.M → Bool) (g : Nat) (lb : Array Value) (eg : ∀ args w, (callFunc g args).run Try.prog w = .ok (.enter g args) w) (v : Value) (l : List Mom.M) (w : World) (hv : RP w v l)
    (hp : PredBelow Try.prog g lb (fun x => .agg (encM x).toArray) p w) (hl : l.length ≤ 1000000000) :
    Calls Try.prog 42 #[v, .func (.func g) #[] lb] w fun e w' => e = .returned (.bool (l.any p)) ∧ Ext w w' := by
  obtain ⟨A, c, rfl⟩ := hv.form
  by_cases h0 : l.length = 0
  · obtain rfl := List.eq_nil_of_length_eq_zero h0
    exact (contains0_any A c _ w).mono fun e w' ⟨h1, h2⟩ => ⟨h1, by subst h2; exact Ext.refl _⟩
  · obtain ⟨b, o, rfl, hc, _⟩ := hv.at_ (k := 0) (by omega)
    have hcon := AnyQ.slices_ContainsFunc Try.containsMo 2 Try.isAgg29 Try.sizeOf29 encM (fun _ => rfl) p g lb eg b o l.length c l w hp (Nat.le_refl _) (by omega) (World.block_lt_of_cell? w _ hc) (fun j hj i u hi => by
      obtain ⟨b', o', he, h1, h2⟩ := hv.at_ hj
      injection he with he
      injection he with e1 e2
      subst e1 e2
      have hg : l[j]! = l[j] := getElem!_pos l j hj
      rw [hg] at hi
      match i, hi with
      | 0, hi => simp at hi; rw [← hi]; exact h1
      | 1, hi => simp at hi; rw [← hi]; exact h2
      | i + 2, hi => simp at hi)
    rw [List.take_length] at hcon
    exact hcon

set_option maxRecDepth 100000 in
set_option maxHeartbeats 400000 in
theorem covers1_gives (m : Mom.M) (B : Nat) (w : World) (hB : B < w.heap.size) (h1 : w.cell? ⟨B, 0, none⟩ = some (.int .i64 m.1)) (h2 : w.cell? ⟨B, 1, none⟩ = some (.int .i64 m.2)) :
    PredBelow Try.prog 43 #[.pointer (some ⟨B, 0, none⟩)] (fun x => .agg (encM x).toArray) (fun x => Mom.ahead x m) w := fun W x hb => by
  show Calls Try.prog 43 #[mV x, .pointer (some ⟨B, 0, none⟩)] W _
  have HC := Lib.hid (fun w => ahead_any x m w)
  have k1 := (hb.cell (p := ⟨B, 0, none⟩) hB).trans h1
  have k2 := (hb.cell (p := ⟨B, 1, none⟩) hB).trans h2
  have hne : W.heap.size ≠ B := by have := hb.size; omega
  have e1 := ((Ext.refl W).alloc (.cells #[.int .i64 x.1, .int .i64 x.2] 29)).cell k1
  have e2 := ((Ext.refl W).alloc (.cells #[.int .i64 x.1, .int .i64 x.2] 29)).cell k2
  obtain ⟨a, b⟩ := x
  dsimp only at *
  clear h1 h2 k1 k2
  go_enter Try.func43, Try.ntmps43
  go_wp2_with (go_at_call 44; refine (HC.out _).mono ?_; rintro e w1 ⟨rfl, he1⟩)
  go_ret
  exact ⟨rfl, hb.trans (((Ext.refl _).alloc _ |>.trans he1).mono hb.size)⟩
set_option maxRecDepth 100000 in
set_option maxHeartbeats 400000 in
theorem covers_any (v : Value) (l : List Mom.M) (m : Mom.M) (w : World) (hv : RP w v l) (hl : l.length ≤ 1000000000) :
    Calls Try.prog 28 #[v, mV m] w fun e w' => e = .returned (.bool (Mom.covers l m)) ∧ Ext w w' := by
  have eg : ∀ args w, (callFunc 43 args).run Try.prog w = .ok (.enter 43 args) w := enters_of Try.func43 (by kernel_rfl) rfl
  have hx := (Ext.refl w).alloc (.cells #[.int .i64 m.1, .int .i64 m.2] 29)
  have hblk := Blk.new w 29 #[.int .i64 m.1, .int .i64 m.2]
  have HC := Lib.hid (containsF_any (fun x => Mom.ahead x m) 43 #[.pointer (some ⟨w.heap.size, 0, none⟩)] eg v l _ (hv.ext hx) (covers1_gives m w.heap.size _ (by simp) (hblk.cell 0) (hblk.cell 1)) hl)
  have HX := Lib.hid hx
  have hd : Mom.covers l m = l.any fun x => Mom.ahead x m := rfl
  rw [hd]
  generalize (l.any fun x => Mom.ahead x m) = q at *
  clear hx hblk eg hv hd
  obtain ⟨a, b⟩ := m
  dsimp only at *
  go_enter Try.func28, Try.ntmps28
  go_wp2_with (go_at_call 42; refine HC.out.mono ?_; rintro e w1 ⟨rfl, he1⟩)
  go_ret
  exact ⟨rfl, HX.out.trans he1⟩
end Go.Proofs.Ytbokblklldphgaa.Mo
