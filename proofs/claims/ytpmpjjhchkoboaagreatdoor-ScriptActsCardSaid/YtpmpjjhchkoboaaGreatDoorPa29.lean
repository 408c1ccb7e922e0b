/-
  Shelf, RecFn, packed: what the claim needs of them.
-/
import Derived.Shelf.SlGeneric
import Derived.Shelf.SlSortCmp.WholeK
import Derived.Shelf.SlSortCmp.NoneTotal
import Derived.Ground.SlsfProg
import Derived.Shelf.SlicesQ.IndexFunc
import Derived.Ground.SlgfProg
import Derived.Test.YtpmpjjhchkoboaaGreatDoorProg
import Derived.Test.YtpmpjjhchkoboaaGreatDoorPa28
namespace Go.Proofs.YtpmpjjhchkoboaaGreatDoor
open Go.Shelf Go.Proofs
def Tryz.sortM_ren : Go.Shelf.Ren := ⟨fun | 6 => 120 | 15 => 140 | 14 => 139 | 28 => 160 | 29 => 161 | 20 => 152 | 21 => 153 | 22 => 154 | 23 => 155 | 24 => 156 | 25 => 157 | 26 => 158 | 27 => 159 | 46 => 169 | 47 => 170 | 48 => 171 | 49 => 172 | 50 => 173 | 57 => 180 | n => n, fun | 22 => 52 | 24 => 55 | 25 => 154 | 3 => 3 | 39 => 138 | 0 => 0 | 53 => 187 | 55 => 159 | 4 => 4 | 46 => 180 | 45 => 179 | 50 => 184 | 5 => 5 | 9 => 9 | 66 => 194 | 70 => 198 | 76 => 204 | 77 => 205 | n => n, fun | n => n⟩
theorem Tryz.sortM : Go.Proofs.SlLaysF0.n6 Tryz.prog Tryz.sortM_ren := {
  mixed := by kernel_rfl
  f6 := ⟨Tryz.f120.name, by decide, Tryz.func120.trans (congrArg some (by kernel_rfl))⟩
  f14 := ⟨Tryz.f139.name, by decide, Tryz.func139.trans (congrArg some (by kernel_rfl))⟩
  f15 := Tryz.func140.trans (congrArg some (by kernel_rfl))
  f20 := ⟨Tryz.f152.name, by decide, Tryz.func152.trans (congrArg some (by kernel_rfl))⟩
  f21 := ⟨Tryz.f153.name, by decide, Tryz.func153.trans (congrArg some (by kernel_rfl))⟩
  f22 := ⟨Tryz.f154.name, by decide, Tryz.func154.trans (congrArg some (by kernel_rfl))⟩
  f23 := ⟨Tryz.f155.name, by decide, Tryz.func155.trans (congrArg some (by kernel_rfl))⟩
  f24 := ⟨Tryz.f156.name, by decide, Tryz.func156.trans (congrArg some (by kernel_rfl))⟩
  f25 := ⟨Tryz.f157.name, by decide, Tryz.func157.trans (congrArg some (by kernel_rfl))⟩
  f26 := ⟨Tryz.f158.name, by decide, Tryz.func158.trans (congrArg some (by kernel_rfl))⟩
  f27 := ⟨Tryz.f159.name, by decide, Tryz.func159.trans (congrArg some (by kernel_rfl))⟩
  f28 := Tryz.func160.trans (congrArg some (by kernel_rfl))
  f29 := Tryz.func161.trans (congrArg some (by kernel_rfl))
  f46 := ⟨Tryz.f169.name, by decide, Tryz.func169.trans (congrArg some (by kernel_rfl))⟩
  f47 := Tryz.func170.trans (congrArg some (by kernel_rfl))
  f48 := Tryz.func171.trans (congrArg some (by kernel_rfl))
  f49 := ⟨Tryz.f172.name, by decide, Tryz.func172.trans (congrArg some (by kernel_rfl))⟩
  f50 := ⟨Tryz.f173.name, by decide, Tryz.func173.trans (congrArg some (by kernel_rfl))⟩
  f57 := ⟨Tryz.f180.name, by decide, Tryz.func180.trans (congrArg some (by kernel_rfl))⟩
  t0 := Tryz.underlying0
  a0 := Tryz.isAgg0
  z0 := Tryz.sizeOf0
  v0 := Tryz.zeroValue0
  t3 := Tryz.underlying3
  a3 := Tryz.isAgg3
  z3 := Tryz.sizeOf3
  v3 := Tryz.zeroValue3
  t4 := Tryz.underlying4
  a4 := Tryz.isAgg4
  z4 := Tryz.sizeOf4
  v4 := Tryz.zeroValue4
  t5 := Tryz.underlying5
  a5 := Tryz.isAgg5
  z5 := Tryz.sizeOf5
  v5 := Tryz.zeroValue5
  t9 := Tryz.underlying9
  a9 := Tryz.isAgg9
  z9 := Tryz.sizeOf9
  v9 := Tryz.zeroValue9
  t22 := Tryz.underlying52
  a22 := Tryz.isAgg52
  z22 := Tryz.sizeOf52
  v22 := Tryz.zeroValue52
  t25 := Tryz.underlying154
  a25 := Tryz.isAgg154
  z25 := Tryz.sizeOf154
  v25 := Tryz.zeroValue154
  t39 := Tryz.underlying138
  a39 := Tryz.isAgg138
  z39 := Tryz.sizeOf138
  v39 := Tryz.zeroValue138
  t45 := Tryz.underlying179
  a45 := Tryz.isAgg179
  z45 := Tryz.sizeOf179
  v45 := Tryz.zeroValue179
  t46 := Tryz.underlying180
  a46 := Tryz.isAgg180
  z46 := Tryz.sizeOf180
  v46 := Tryz.zeroValue180
  t50 := Tryz.underlying184
  a50 := Tryz.isAgg184
  z50 := Tryz.sizeOf184
  v50 := Tryz.zeroValue184
  t53 := Tryz.underlying187
  a53 := Tryz.isAgg187
  z53 := Tryz.sizeOf187
  v53 := Tryz.zeroValue187
  t55 := Tryz.underlying159
  a55 := Tryz.isAgg159
  z55 := Tryz.sizeOf159
  v55 := Tryz.zeroValue159
  t66 := Tryz.underlying194
  a66 := Tryz.isAgg194
  z66 := Tryz.sizeOf194
  v66 := Tryz.zeroValue194
  t70 := Tryz.underlying198
  a70 := Tryz.isAgg198
  z70 := Tryz.sizeOf198
  v70 := Tryz.zeroValue198
  t76 := Tryz.underlying204
  a76 := Tryz.isAgg204
  z76 := Tryz.sizeOf204
  v76 := Tryz.zeroValue204
  t77 := Tryz.underlying205
  a77 := Tryz.isAgg205
  z77 := Tryz.sizeOf205
  v77 := Tryz.zeroValue205 }
def Tryz.contains_ren : Go.Shelf.Ren := ⟨fun | 8 => 127 | 6 => 143 | n => n, fun | 22 => 52 | 23 => 55 | 25 => 128 | 4 => 4 | 3 => 3 | 0 => 0 | n => n, fun | n => n⟩
theorem Tryz.contains : Go.Proofs.SlLaysH0.n8 Tryz.prog Tryz.contains_ren := {
  mixed := by kernel_rfl
  f6 := ⟨Tryz.f143.name, by decide, Tryz.func143.trans (congrArg some (by kernel_rfl))⟩
  f8 := ⟨Tryz.f127.name, by decide, Tryz.func127.trans (congrArg some (by kernel_rfl))⟩
  t0 := Tryz.underlying0
  a0 := Tryz.isAgg0
  z0 := Tryz.sizeOf0
  v0 := Tryz.zeroValue0
  t3 := Tryz.underlying3
  a3 := Tryz.isAgg3
  z3 := Tryz.sizeOf3
  v3 := Tryz.zeroValue3
  t4 := Tryz.underlying4
  a4 := Tryz.isAgg4
  z4 := Tryz.sizeOf4
  v4 := Tryz.zeroValue4
  t22 := Tryz.underlying52
  a22 := Tryz.isAgg52
  z22 := Tryz.sizeOf52
  v22 := Tryz.zeroValue52
  t25 := Tryz.underlying128
  a25 := Tryz.isAgg128
  z25 := Tryz.sizeOf128
  v25 := Tryz.zeroValue128 }
end Go.Proofs.YtpmpjjhchkoboaaGreatDoor
namespace Go.Proofs.YtpmpjjhchkoboaaGreatDoor
open Go.RowKit Go.Ox Go.Shelf
set_option linter.unusedVariables false
set_option maxRecDepth 100000 in
set_option maxHeartbeats 400000 in
theorem index0_any (A : Option Addr) (c : Nat) (f : Value) (w : World) :
    Calls Tryz.prog 143 #[.slice A 0 c, f] w fun e w' => e = .returned (.int .i64 (-1)) ∧ w = w' := by
  go_enter Tryz.func143, Tryz.ntmps143
  go_wp2
  go_loop [8] (fun i => i = .int .i64 0) (fun _ => 0)
  case atStart => rfl
  case round =>
    subst hrel
    go_wp2
    go_ret
    exact ⟨rfl, rfl⟩
set_option maxRecDepth 100000 in
set_option maxHeartbeats 400000 in
theorem contains0_any (A : Option Addr) (c : Nat) (f : Value) (w : World) :
    Calls Tryz.prog 127 #[.slice A 0 c, f] w fun e w' => e = .returned (.bool false) ∧ w = w' := by
  go_enter Tryz.func127, Tryz.ntmps127
  go_wp2_with (go_at_call 143; refine (index0_any _ _ _ _).mono ?_; rintro e w' ⟨rfl, rfl⟩)
  go_ret
  exact ⟨rfl, rfl⟩
theorem containsF_any (p : Mom.M → Bool) (g : Nat) (lb : Array Value) (eg : ∀ args w, (callFunc g args).run Tryz.prog w = .ok (.enter g args) w) (v : Value) (l : List Mom.M) (w : World) (hv : RP w v l)
    (hp : PredBelow Tryz.prog g lb (fun x => .agg (encM x).toArray) p w) (hl : l.length ≤ 1000000000) :
    Calls Tryz.prog 127 #[v, .func (.func g) #[] lb] w fun e w' => e = .returned (.bool (l.any p)) ∧ Ext w w' := by
  obtain ⟨A, c, rfl⟩ := hv.form
  by_cases h0 : l.length = 0
  · obtain rfl := List.eq_nil_of_length_eq_zero h0
    exact (contains0_any A c _ w).mono fun e w' ⟨h1, h2⟩ => ⟨h1, by subst h2; exact Ext.refl _⟩
  · obtain ⟨b, o, rfl, hc, _⟩ := hv.at_ (k := 0) (by omega)
    have hcon := AnyQ.slices_ContainsFunc Tryz.contains 2 Tryz.isAgg55 Tryz.sizeOf55 encM (fun _ => rfl) p g lb eg b o l.length c l w hp (Nat.le_refl _) (by omega) (World.block_lt_of_cell? w _ hc) (fun j hj i u hi => by
      obtain ⟨b', o', he, h1, h2⟩ := hv.at_ hj
      injection he with he
      injection he with e1 e2
      subst e1 e2
      have hg : l[j]! = l[j] := getElem!_pos l j hj
      rw [hg] at hi
      match i, hi with
      | 0, hi => simp at hi; rw [← hi]; exact h1
      | 1, hi => simp at hi; rw [← hi]; exact h2
      | i + 2, hi => simp at hi)
    rw [List.take_length] at hcon
    exact hcon
set_option maxRecDepth 100000 in
set_option maxHeartbeats 400000 in
theorem may1_gives (w : World) : PredBelow Tryz.prog 128 #[] (fun x => .agg (encM x).toArray) (fun x => !Rec.ok x) w := fun W x hb => by
  show Calls Tryz.prog 128 #[mV x] W _
  have HC := Lib.hid (fun w => check_any x w)
  obtain ⟨a, b⟩ := x
  dsimp only at *
  cases hq : Rec.ok (a, b) with
  | true =>
    rw [hq, if_pos rfl] at HC
    go_enter Tryz.func128, Tryz.ntmps128
    go_wp2_with (go_at_call 117; refine (HC.out _).mono ?_; rintro e w1 ⟨rfl, he1⟩)
    go_ret
    exact ⟨rfl, hb.trans (((Ext.refl _).alloc _ |>.trans he1).mono hb.size)⟩
  | false =>
    rw [hq, if_neg (by simp)] at HC
    go_enter Tryz.func128, Tryz.ntmps128
    go_wp2_with (go_at_call 117; refine (HC.out _).mono ?_; rintro e w1 ⟨rfl, he1⟩)
    go_ret
    exact ⟨rfl, hb.trans (((Ext.refl _).alloc _ |>.trans he1).mono hb.size)⟩
set_option maxRecDepth 100000 in
set_option maxHeartbeats 400000 in
theorem cloneM_any (v : Value) (l : List Mom.M) (w : World) (hb : RP w v l) (hl : l.length ≤ 1000000000) :
    Calls Tryz.prog 119 #[v] w fun e w' => ∃ v', e = .returned v' ∧ OP 55 w.heap.size w' v' l ∧ Ext w w' := by
  have HB := Lib.hid hb
  obtain ⟨A, c, rfl⟩ := hb.form
  have hnc := hb.nc
  have he := eqlNilM
  have HE := he
  cases A with
  | none =>
    obtain ⟨A', c', he', hrd⟩ := hb
    injection he' with e1 e2 e3
    subst e1 e3
    have h0 := hrd.nil rfl
    have hn : l.length = 0 := by omega
    obtain rfl := List.eq_nil_of_length_eq_zero hn
    subst h0
    clear hrd hn hnc
    go_enter Tryz.func119, Tryz.ntmps119
    go_wp2
    go_ret
    exact ⟨_, rfl, OP.nilS _ _ _, Ext.refl _⟩
  | some ad =>
    clear hb hnc
    have hown : (w.alloc (.cells #[] 55)).ownsRow w.heap.size 55 2 (.slice (some ⟨w.heap.size, 0, none⟩) 0 0) 0 [] :=
      World.ownsRow_lit w #[] 0 (Nat.le_refl _) (by unfold maxLen; omega) rfl
    have HO := Lib.hid hown
    clear hown
    go_enter Tryz.func119, Tryz.ntmps119
    go_wp2_with (at_builtin; refine wpList_app rfl elemM _ _ _ rfl w.heap.size _ 0 [] rfl HO.out _ l.length (pV l) rfl (HB.out.ext ((Ext.refl _).alloc _)) (one_pV l) (by omega) (by unfold maxLen; omega) (by simp) ?_; intro v' w' ha)
    go_ret
    exact ⟨_, rfl, OP.of0 ha.own, ha.ext ((Ext.refl _).alloc _) rfl HO.out⟩
set_option maxRecDepth 100000 in
set_option maxHeartbeats 400000 in
theorem may_any (v : Value) (l : List Rec.R) (w : World) (hv : RP w v l) (hl : l.length ≤ 1000000) :
    Calls Tryz.prog 86 #[v] w fun e w' => e = .returned (.int .i64 (Rec.may l)) ∧ Ext w w' := by
  have eg : ∀ args w, (callFunc 128 args).run Tryz.prog w = .ok (.enter 128 args) w := enters_of Tryz.func128 (by kernel_rfl) rfl
  have HC := Lib.hid (containsF_any (fun x => !Rec.ok x) 128 #[] eg v l w hv (may1_gives w) (by omega))
  obtain ⟨A, c, rfl⟩ := hv.form
  unfold Rec.may
  cases hb : l.any fun x => !Rec.ok x with
  | true =>
    rw [hb] at HC
    rw [if_pos rfl]
    clear eg hv hb
    go_enter Tryz.func86, Tryz.ntmps86
    go_wp2_with fail
    refine HC.out.mono ?_
    rintro e w1 ⟨rfl, he1⟩
    go_wp2
    go_ret
    exact ⟨rfl, he1⟩
  | false =>
    rw [hb] at HC
    rw [if_neg (by simp)]
    clear eg hv hb
    by_cases h2 : 4096 < l.length
    · have g : (4096 : Int) < (l.length : Int) := by omega
      rw [if_pos h2]
      clear h2
      go_enter Tryz.func86, Tryz.ntmps86
      go_wp2_with fail
      refine HC.out.mono ?_
      rintro e w1 ⟨rfl, he1⟩
      go_wp2
      go_ret
      exact ⟨rfl, he1⟩
    · have g : ¬ (4096 : Int) < (l.length : Int) := by omega
      rw [if_neg h2]
      clear h2
      go_enter Tryz.func86, Tryz.ntmps86
      go_wp2_with fail
      refine HC.out.mono ?_
      rintro e w1 ⟨rfl, he1⟩
      go_wp2
      go_ret
      exact ⟨rfl, he1⟩
end Go.Proofs.YtpmpjjhchkoboaaGreatDoor
