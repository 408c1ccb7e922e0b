/-
  The walks of package moment: what hands functions to the library.
-/
import Derived.Test.YtbcbhcohfbkijaaMom
import Derived.Test.YtbcbhcohfbkijaaPair
import Derived.Test.YtbcbhcohfbkijaaShelf
namespace Go.Proofs.Ytbcbhcohfbkijaa
open Go.RowKit Go.Ox Go.Shelf

theorem elemM : Elem Try.prog 32 23 (.agg #[.int .i64 0, .int .i64 0]) 2 16 := Elem.mk' Try.underlying32 (by kernel_rfl) rfl (by omega)
theorem eqlNilM (w : World) (A : Option Addr) (n c n' c' : Nat) : (binOp .eql 32 (.slice A n c) (.slice none n' c')).run Try.prog w = .ok (.bool A.isNone) w :=
  Lib.run_eql_slice_nil (P := Try.prog) w 32 23 A n c n' c' Try.underlying32
abbrev encM (x : Mom.M) : List Value := [.int .i64 x.1, .int .i64 x.2]

set_option maxRecDepth 100000 in
set_option maxHeartbeats 400000 in
theorem index0_any (A : Option Addr) (c : Nat) (f : Value) (w : World) :
    Calls Try.prog 53 #[.slice A 0 c, f] w fun e w' => e = .returned (.int .i64 (-1)) ∧ w = w' := by
  go_enter Try.func53, Try.ntmps53
  go_wp2
  go_loop [8] (fun i => i = .int .i64 0) (fun _ => 0)
  case atStart => rfl
  case round =>
    subst hrel
    go_wp2
    go_ret
    exact ⟨rfl, rfl⟩
set_option maxRecDepth 100000 in
set_option maxHeartbeats 400000 in
theorem contains0_any (A : Option Addr) (c : Nat) (f : Value) (w : World) :
    Calls Try.prog 37 #[.slice A 0 c, f] w fun e w' => e = .returned (.bool false) ∧ w = w' := by
  go_enter Try.func37, Try.ntmps37
  go_wp2_with (go_at_call 53; refine (index0_any _ _ _ _).mono ?_; rintro e w' ⟨rfl, rfl⟩)
  go_ret
  exact ⟨rfl, rfl⟩
theorem containsF_any (p : Mom.M → Bool) (g : Nat) (lb : Array Value) (eg : ∀ args w, (callFunc g args).run Try.prog w = .ok (.enter g args) w) (v : Value) (l : List Mom.M) (w : World) (hv : RP w v l)
    (hp : PredBelow Try.prog g lb (fun x => .agg (encM x).toArray) p w) (hl : l.length ≤ 1000000000) :
    Calls Try.prog 37 #[v, .func (.func g) #[] lb] w fun e w' => e = .returned (.bool (l.any p)) ∧ Ext w w' := by
  obtain ⟨A, c, rfl⟩ := hv.form
  by_cases h0 : l.length = 0
  · obtain rfl := List.eq_nil_of_length_eq_zero h0
    exact (contains0_any A c _ w).mono fun e w' ⟨h1, h2⟩ => ⟨h1, by subst h2; exact Ext.refl _⟩
  · obtain ⟨b, o, rfl, hc, _⟩ := hv.at_ (k := 0) (by omega)
    have hcon := AnyQ.slices_ContainsFunc Try.contains 2 Try.isAgg23 Try.sizeOf23 encM (fun _ => rfl) p g lb eg b o l.length c l w hp (Nat.le_refl _) (by omega) (World.block_lt_of_cell? w _ hc) (fun j hj i u hi => by
      obtain ⟨b', o', he, h1, h2⟩ := hv.at_ hj
      injection he with he
      injection he with e1 e2
      subst e1 e2
      have hg : l[j]! = l[j] := getElem!_pos l j hj
      rw [hg] at hi
      match i, hi with
      | 0, hi => simp at hi; rw [← hi]; exact h1
      | 1, hi => simp at hi; rw [← hi]; exact h2
      | i + 2, hi => simp at hi)
    rw [List.take_length] at hcon
    exact hcon

set_option maxRecDepth 100000 in
set_option maxHeartbeats 400000 in
theorem front1_gives (w : World) : PredBelow Try.prog 38 #[] (fun x => .agg (encM x).toArray) (fun x => !Mom.ok x) w := fun W x hb => by
  show Calls Try.prog 38 #[mV x] W _
  have HC := Lib.hid (fun w => check_any x w)
  obtain ⟨a, b⟩ := x
  dsimp only at *
  cases hq : Mom.ok (a, b) with
  | true =>
    rw [hq, if_pos rfl] at HC
    go_enter Try.func38, Try.ntmps38
    go_wp2_with (go_at_call 13; refine (HC.out _).mono ?_; rintro e w1 ⟨rfl, he1⟩)
    go_ret
    exact ⟨rfl, hb.trans (((Ext.refl _).alloc _ |>.trans he1).mono hb.size)⟩
  | false =>
    rw [hq, if_neg (by simp)] at HC
    go_enter Try.func38, Try.ntmps38
    go_wp2_with (go_at_call 13; refine (HC.out _).mono ?_; rintro e w1 ⟨rfl, he1⟩)
    go_ret
    exact ⟨rfl, hb.trans (((Ext.refl _).alloc _ |>.trans he1).mono hb.size)⟩
set_option maxRecDepth 100000 in
set_option maxHeartbeats 400000 in
theorem covers1_gives (m : Mom.M) (B : Nat) (w : World) (hB : B < w.heap.size) (h1 : w.cell? ⟨B, 0, none⟩ = some (.int .i64 m.1)) (h2 : w.cell? ⟨B, 1, none⟩ = some (.int .i64 m.2)) :
    PredBelow Try.prog 41 #[.pointer (some ⟨B, 0, none⟩)] (fun x => .agg (encM x).toArray) (fun x => Mom.ahead x m) w := fun W x hb => by
  show Calls Try.prog 41 #[mV x, .pointer (some ⟨B, 0, none⟩)] W _
  have HC := Lib.hid (fun w => ahead_any x m w)
  have k1 := (hb.cell (p := ⟨B, 0, none⟩) hB).trans h1
  have k2 := (hb.cell (p := ⟨B, 1, none⟩) hB).trans h2
  have hne : W.heap.size ≠ B := by have := hb.size; omega
  have e1 := ((Ext.refl W).alloc (.cells #[.int .i64 x.1, .int .i64 x.2] 23)).cell k1
  have e2 := ((Ext.refl W).alloc (.cells #[.int .i64 x.1, .int .i64 x.2] 23)).cell k2
  obtain ⟨a, b⟩ := x
  dsimp only at *
  clear h1 h2 k1 k2
  go_enter Try.func41, Try.ntmps41
  go_wp2_with (go_at_call 14; refine (HC.out _).mono ?_; rintro e w1 ⟨rfl, he1⟩)
  go_ret
  exact ⟨rfl, hb.trans (((Ext.refl _).alloc _ |>.trans he1).mono hb.size)⟩
set_option maxRecDepth 100000 in
set_option maxHeartbeats 400000 in
theorem covers_any (v : Value) (l : List Mom.M) (m : Mom.M) (w : World) (hv : RP w v l) (hl : l.length ≤ 1000000000) :
    Calls Try.prog 21 #[v, mV m] w fun e w' => e = .returned (.bool (Mom.covers l m)) ∧ Ext w w' := by
  have eg : ∀ args w, (callFunc 41 args).run Try.prog w = .ok (.enter 41 args) w := enters_of Try.func41 (by kernel_rfl) rfl
  have hx := (Ext.refl w).alloc (.cells #[.int .i64 m.1, .int .i64 m.2] 23)
  have hblk := Blk.new w 23 #[.int .i64 m.1, .int .i64 m.2]
  have HC := Lib.hid (containsF_any (fun x => Mom.ahead x m) 41 #[.pointer (some ⟨w.heap.size, 0, none⟩)] eg v l _ (hv.ext hx) (covers1_gives m w.heap.size _ (by simp) (hblk.cell 0) (hblk.cell 1)) hl)
  have HX := Lib.hid hx
  have hd : Mom.covers l m = l.any fun x => Mom.ahead x m := rfl
  rw [hd]
  generalize (l.any fun x => Mom.ahead x m) = q at *
  clear hx hblk eg hv hd
  obtain ⟨a, b⟩ := m
  dsimp only at *
  go_enter Try.func21, Try.ntmps21
  go_wp2_with (go_at_call 37; refine HC.out.mono ?_; rintro e w1 ⟨rfl, he1⟩)
  go_ret
  exact ⟨rfl, HX.out.trans he1⟩
set_option maxRecDepth 100000 in
set_option maxHeartbeats 400000 in
theorem beyond1_gives (v : Value) (l : List Mom.M) (B : Nat) (w : World) (hB : B < w.heap.size) (h1 : w.cell? ⟨B, 0, none⟩ = some v) (hv : RP w v l) (hl : l.length ≤ 1000000000) :
    PredBelow Try.prog 42 #[.pointer (some ⟨B, 0, none⟩)] (fun x => .agg (encM x).toArray) (fun x => !Mom.covers l x) w := fun W x hb => by
  show Calls Try.prog 42 #[mV x, .pointer (some ⟨B, 0, none⟩)] W _
  have hx : Ext W (W.alloc (.cells #[.int .i64 x.1, .int .i64 x.2] 23)) := (Ext.refl W).alloc _
  have HC := Lib.hid (covers_any v l x _ ((hv.ext hb).ext hx) hl)
  have k1 := (hb.cell (p := ⟨B, 0, none⟩) hB).trans h1
  have e1 := hx.cell k1
  have hne : W.heap.size ≠ B := by have := hb.size; omega
  obtain ⟨A, c, rfl⟩ := hv.form
  clear h1 k1 hv hx
  obtain ⟨a, b⟩ := x
  dsimp only at *
  go_enter Try.func42, Try.ntmps42
  go_wp2_with (go_at_call 21; refine HC.out.mono ?_; rintro e w1 ⟨rfl, he1⟩)
  go_ret
  exact ⟨rfl, hb.trans (((Ext.refl _).alloc _ |>.trans he1).mono hb.size)⟩
set_option maxRecDepth 100000 in
set_option maxHeartbeats 400000 in
theorem beyond_any (v u : Value) (f l : List Mom.M) (w : World) (hv : RP w v f) (hu : RP w u l) (hf : f.length ≤ 1000000000) (hl : l.length ≤ 1000000000) :
    Calls Try.prog 23 #[v, u] w fun e w' => e = .returned (.bool (f.all fun m => Mom.covers l m)) ∧ Ext w w' := by
  have eg : ∀ args w, (callFunc 42 args).run Try.prog w = .ok (.enter 42 args) w := enters_of Try.func42 (by kernel_rfl) rfl
  have hx := (Ext.refl w).alloc (.cells #[u] 32)
  have hblk := Blk.new w 32 #[u]
  have HC := Lib.hid (containsF_any (fun x => !Mom.covers l x) 42 #[.pointer (some ⟨w.heap.size, 0, none⟩)] eg v f _ (hv.ext hx) (beyond1_gives u l w.heap.size _ (by simp) (hblk.cell 0) (hu.ext hx) hl) hf)
  have HX := Lib.hid hx
  have hd : (f.all fun m => Mom.covers l m) = !f.any fun x => !Mom.covers l x := by simp [List.all_eq_not_any_not]
  rw [hd]
  obtain ⟨A, c, rfl⟩ := hu.form
  generalize (f.any fun x => !Mom.covers l x) = q at *
  clear hx hblk eg hv hu hd
  go_enter Try.func23, Try.ntmps23
  go_wp2_with (go_at_call 37; refine HC.out.mono ?_; rintro e w1 ⟨rfl, he1⟩)
  go_ret
  exact ⟨rfl, HX.out.trans he1⟩

set_option maxRecDepth 100000 in
set_option maxHeartbeats 400000 in
theorem cloneM_any (v : Value) (l : List Mom.M) (w : World) (hb : RP w v l) (hl : l.length ≤ 1000000000) :
    Calls Try.prog 39 #[v] w fun e w' => ∃ v', e = .returned v' ∧ OP 23 w.heap.size w' v' l ∧ Ext w w' := by
  have HB := Lib.hid hb
  obtain ⟨A, c, rfl⟩ := hb.form
  have hnc := hb.nc
  have he := eqlNilM
  have HE := he
  cases A with
  | none =>
    obtain ⟨A', c', he', hrd⟩ := hb
    injection he' with e1 e2 e3
    subst e1 e3
    have h0 := hrd.nil rfl
    have hn : l.length = 0 := by omega
    obtain rfl := List.eq_nil_of_length_eq_zero hn
    subst h0
    clear hrd hn hnc
    go_enter Try.func39, Try.ntmps39
    go_wp2
    go_ret
    exact ⟨_, rfl, OP.nilS _ _ _, Ext.refl _⟩
  | some ad =>
    clear hb hnc
    have hown : (w.alloc (.cells #[] 23)).ownsRow w.heap.size 23 2 (.slice (some ⟨w.heap.size, 0, none⟩) 0 0) 0 [] :=
      World.ownsRow_lit w #[] 0 (Nat.le_refl _) (by unfold maxLen; omega) rfl
    have HO := Lib.hid hown
    clear hown
    go_enter Try.func39, Try.ntmps39
    go_wp2_with (at_builtin; refine wpList_app rfl elemM _ _ _ rfl w.heap.size _ 0 [] rfl HO.out _ l.length (pV l) rfl (HB.out.ext ((Ext.refl _).alloc _)) (one_pV l) (by omega) (by unfold maxLen; omega) (by simp) ?_; intro v' w' ha)
    go_ret
    exact ⟨_, rfl, OP.of0 ha.own, ha.ext ((Ext.refl _).alloc _) rfl HO.out⟩
end Go.Proofs.Ytbcbhcohfbkijaa
