/-
  Shelf, RecFn, ScrChk, LaActR, packed: what the claim needs of them.
-/
import Derived.Shelf.SlGeneric
import Derived.Shelf.SlSortCmp.WholeK
import Derived.Shelf.SlSortCmp.NoneTotal
import Derived.Ground.SlsfProg
import Derived.Shelf.SlicesQ.IndexFunc
import Derived.Ground.SlgfProg
import Derived.Test.YtpmgmiiidfconaaGreatDoorProg
import Derived.Test.YtpmgmiiidfconaaGreatDoorPz17
import Derived.Test.YtpmgmiiidfconaaGreatDoorPz16
import Derived.Test.YtpmgmiiidfconaaGreatDoorPz15
namespace Go.Proofs.YtpmgmiiidfconaaGreatDoor
open Go.Shelf Go.Proofs
def Tryz.sortM_ren : Go.Shelf.Ren := ⟨fun | 6 => 121 | 15 => 146 | 14 => 145 | 28 => 164 | 29 => 141 | 20 => 156 | 21 => 157 | 22 => 158 | 23 => 159 | 24 => 160 | 25 => 161 | 26 => 162 | 27 => 163 | 46 => 167 | 47 => 168 | 48 => 169 | 49 => 170 | 50 => 171 | 57 => 172 | n => n, fun | 22 => 67 | 24 => 66 | 25 => 147 | 3 => 3 | 39 => 177 | 0 => 0 | 53 => 182 | 55 => 162 | 4 => 4 | 46 => 194 | 45 => 193 | 50 => 50 | 5 => 5 | 9 => 9 | 66 => 207 | 70 => 211 | 76 => 213 | 77 => 154 | n => n, fun | n => n⟩
theorem Tryz.sortM : Go.Proofs.SlLaysF0.n6 Tryz.prog Tryz.sortM_ren := {
  mixed := by kernel_rfl
  f6 := ⟨Tryz.f121.name, by decide, Tryz.func121.trans (congrArg some (by kernel_rfl))⟩
  f14 := ⟨Tryz.f145.name, by decide, Tryz.func145.trans (congrArg some (by kernel_rfl))⟩
  f15 := Tryz.func146.trans (congrArg some (by kernel_rfl))
  f20 := ⟨Tryz.f156.name, by decide, Tryz.func156.trans (congrArg some (by kernel_rfl))⟩
  f21 := ⟨Tryz.f157.name, by decide, Tryz.func157.trans (congrArg some (by kernel_rfl))⟩
  f22 := ⟨Tryz.f158.name, by decide, Tryz.func158.trans (congrArg some (by kernel_rfl))⟩
  f23 := ⟨Tryz.f159.name, by decide, Tryz.func159.trans (congrArg some (by kernel_rfl))⟩
  f24 := ⟨Tryz.f160.name, by decide, Tryz.func160.trans (congrArg some (by kernel_rfl))⟩
  f25 := ⟨Tryz.f161.name, by decide, Tryz.func161.trans (congrArg some (by kernel_rfl))⟩
  f26 := ⟨Tryz.f162.name, by decide, Tryz.func162.trans (congrArg some (by kernel_rfl))⟩
  f27 := ⟨Tryz.f163.name, by decide, Tryz.func163.trans (congrArg some (by kernel_rfl))⟩
  f28 := Tryz.func164.trans (congrArg some (by kernel_rfl))
  f29 := Tryz.func141.trans (congrArg some (by kernel_rfl))
  f46 := ⟨Tryz.f167.name, by decide, Tryz.func167.trans (congrArg some (by kernel_rfl))⟩
  f47 := Tryz.func168.trans (congrArg some (by kernel_rfl))
  f48 := Tryz.func169.trans (congrArg some (by kernel_rfl))
  f49 := ⟨Tryz.f170.name, by decide, Tryz.func170.trans (congrArg some (by kernel_rfl))⟩
  f50 := ⟨Tryz.f171.name, by decide, Tryz.func171.trans (congrArg some (by kernel_rfl))⟩
  f57 := ⟨Tryz.f172.name, by decide, Tryz.func172.trans (congrArg some (by kernel_rfl))⟩
  t0 := Tryz.underlying0
  a0 := Tryz.isAgg0
  z0 := Tryz.sizeOf0
  v0 := Tryz.zeroValue0
  t3 := Tryz.underlying3
  a3 := Tryz.isAgg3
  z3 := Tryz.sizeOf3
  v3 := Tryz.zeroValue3
  t4 := Tryz.underlying4
  a4 := Tryz.isAgg4
  z4 := Tryz.sizeOf4
  v4 := Tryz.zeroValue4
  t5 := Tryz.underlying5
  a5 := Tryz.isAgg5
  z5 := Tryz.sizeOf5
  v5 := Tryz.zeroValue5
  t9 := Tryz.underlying9
  a9 := Tryz.isAgg9
  z9 := Tryz.sizeOf9
  v9 := Tryz.zeroValue9
  t22 := Tryz.underlying67
  a22 := Tryz.isAgg67
  z22 := Tryz.sizeOf67
  v22 := Tryz.zeroValue67
  t25 := Tryz.underlying147
  a25 := Tryz.isAgg147
  z25 := Tryz.sizeOf147
  v25 := Tryz.zeroValue147
  t39 := Tryz.underlying177
  a39 := Tryz.isAgg177
  z39 := Tryz.sizeOf177
  v39 := Tryz.zeroValue177
  t45 := Tryz.underlying193
  a45 := Tryz.isAgg193
  z45 := Tryz.sizeOf193
  v45 := Tryz.zeroValue193
  t46 := Tryz.underlying194
  a46 := Tryz.isAgg194
  z46 := Tryz.sizeOf194
  v46 := Tryz.zeroValue194
  t50 := Tryz.underlying50
  a50 := Tryz.isAgg50
  z50 := Tryz.sizeOf50
  v50 := Tryz.zeroValue50
  t53 := Tryz.underlying182
  a53 := Tryz.isAgg182
  z53 := Tryz.sizeOf182
  v53 := Tryz.zeroValue182
  t55 := Tryz.underlying162
  a55 := Tryz.isAgg162
  z55 := Tryz.sizeOf162
  v55 := Tryz.zeroValue162
  t66 := Tryz.underlying207
  a66 := Tryz.isAgg207
  z66 := Tryz.sizeOf207
  v66 := Tryz.zeroValue207
  t70 := Tryz.underlying211
  a70 := Tryz.isAgg211
  z70 := Tryz.sizeOf211
  v70 := Tryz.zeroValue211
  t76 := Tryz.underlying213
  a76 := Tryz.isAgg213
  z76 := Tryz.sizeOf213
  v76 := Tryz.zeroValue213
  t77 := Tryz.underlying154
  a77 := Tryz.isAgg154
  z77 := Tryz.sizeOf154
  v77 := Tryz.zeroValue154 }
def Tryz.contains_ren : Go.Shelf.Ren := ⟨fun | 8 => 110 | 6 => 134 | n => n, fun | 22 => 67 | 23 => 66 | 25 => 158 | 4 => 4 | 3 => 3 | 0 => 0 | n => n, fun | n => n⟩
theorem Tryz.contains : Go.Proofs.SlLaysH0.n8 Tryz.prog Tryz.contains_ren := {
  mixed := by kernel_rfl
  f6 := ⟨Tryz.f134.name, by decide, Tryz.func134.trans (congrArg some (by kernel_rfl))⟩
  f8 := ⟨Tryz.f110.name, by decide, Tryz.func110.trans (congrArg some (by kernel_rfl))⟩
  t0 := Tryz.underlying0
  a0 := Tryz.isAgg0
  z0 := Tryz.sizeOf0
  v0 := Tryz.zeroValue0
  t3 := Tryz.underlying3
  a3 := Tryz.isAgg3
  z3 := Tryz.sizeOf3
  v3 := Tryz.zeroValue3
  t4 := Tryz.underlying4
  a4 := Tryz.isAgg4
  z4 := Tryz.sizeOf4
  v4 := Tryz.zeroValue4
  t22 := Tryz.underlying67
  a22 := Tryz.isAgg67
  z22 := Tryz.sizeOf67
  v22 := Tryz.zeroValue67
  t25 := Tryz.underlying158
  a25 := Tryz.isAgg158
  z25 := Tryz.sizeOf158
  v25 := Tryz.zeroValue158 }
end Go.Proofs.YtpmgmiiidfconaaGreatDoor
namespace Go.Proofs.YtpmgmiiidfconaaGreatDoor
open Go.RowKit Go.Ox Go.Shelf
set_option linter.unusedVariables false
set_option maxRecDepth 100000 in
set_option maxHeartbeats 400000 in
theorem index0_any (A : Option Addr) (c : Nat) (f : Value) (w : World) :
    Calls Tryz.prog 134 #[.slice A 0 c, f] w fun e w' => e = .returned (.int .i64 (-1)) ∧ w = w' := by
  go_enter Tryz.func134, Tryz.ntmps134
  go_wp2
  go_loop [8] (fun i => i = .int .i64 0) (fun _ => 0)
  case atStart => rfl
  case round =>
    subst hrel
    go_wp2
    go_ret
    exact ⟨rfl, rfl⟩
set_option maxRecDepth 100000 in
set_option maxHeartbeats 400000 in
theorem contains0_any (A : Option Addr) (c : Nat) (f : Value) (w : World) :
    Calls Tryz.prog 110 #[.slice A 0 c, f] w fun e w' => e = .returned (.bool false) ∧ w = w' := by
  go_enter Tryz.func110, Tryz.ntmps110
  go_wp2_with (go_at_call 134; refine (index0_any _ _ _ _).mono ?_; rintro e w' ⟨rfl, rfl⟩)
  go_ret
  exact ⟨rfl, rfl⟩
theorem containsF_any (p : Mom.M → Bool) (g : Nat) (lb : Array Value) (eg : ∀ args w, (callFunc g args).run Tryz.prog w = .ok (.enter g args) w) (v : Value) (l : List Mom.M) (w : World) (hv : RP w v l)
    (hp : PredBelow Tryz.prog g lb (fun x => .agg (encM x).toArray) p w) (hl : l.length ≤ 1000000000) :
    Calls Tryz.prog 110 #[v, .func (.func g) #[] lb] w fun e w' => e = .returned (.bool (l.any p)) ∧ Ext w w' := by
  obtain ⟨A, c, rfl⟩ := hv.form
  by_cases h0 : l.length = 0
  · obtain rfl := List.eq_nil_of_length_eq_zero h0
    exact (contains0_any A c _ w).mono fun e w' ⟨h1, h2⟩ => ⟨h1, by subst h2; exact Ext.refl _⟩
  · obtain ⟨b, o, rfl, hc, _⟩ := hv.at_ (k := 0) (by omega)
    have hcon := AnyQ.slices_ContainsFunc Tryz.contains 2 Tryz.isAgg66 Tryz.sizeOf66 encM (fun _ => rfl) p g lb eg b o l.length c l w hp (Nat.le_refl _) (by omega) (World.block_lt_of_cell? w _ hc) (fun j hj i u hi => by
      obtain ⟨b', o', he, h1, h2⟩ := hv.at_ hj
      injection he with he
      injection he with e1 e2
      subst e1 e2
      have hg : l[j]! = l[j] := getElem!_pos l j hj
      rw [hg] at hi
      match i, hi with
      | 0, hi => simp at hi; rw [← hi]; exact h1
      | 1, hi => simp at hi; rw [← hi]; exact h2
      | i + 2, hi => simp at hi)
    rw [List.take_length] at hcon
    exact hcon
set_option maxRecDepth 100000 in
set_option maxHeartbeats 400000 in
theorem may1_gives (w : World) : PredBelow Tryz.prog 111 #[] (fun x => .agg (encM x).toArray) (fun x => !Rec.ok x) w := fun W x hb => by
  show Calls Tryz.prog 111 #[mV x] W _
  have HC := Lib.hid (fun w => check_any x w)
  obtain ⟨a, b⟩ := x
  dsimp only at *
  cases hq : Rec.ok (a, b) with
  | true =>
    rw [hq, if_pos rfl] at HC
    go_enter Tryz.func111, Tryz.ntmps111
    go_wp2_with (go_at_call 112; refine (HC.out _).mono ?_; rintro e w1 ⟨rfl, he1⟩)
    go_ret
    exact ⟨rfl, hb.trans (((Ext.refl _).alloc _ |>.trans he1).mono hb.size)⟩
  | false =>
    rw [hq, if_neg (by simp)] at HC
    go_enter Tryz.func111, Tryz.ntmps111
    go_wp2_with (go_at_call 112; refine (HC.out _).mono ?_; rintro e w1 ⟨rfl, he1⟩)
    go_ret
    exact ⟨rfl, hb.trans (((Ext.refl _).alloc _ |>.trans he1).mono hb.size)⟩
set_option maxRecDepth 100000 in
set_option maxHeartbeats 400000 in
theorem cloneM_any (v : Value) (l : List Mom.M) (w : World) (hb : RP w v l) (hl : l.length ≤ 1000000000) :
    Calls Tryz.prog 120 #[v] w fun e w' => ∃ v', e = .returned v' ∧ OP 66 w.heap.size w' v' l ∧ Ext w w' := by
  have HB := Lib.hid hb
  obtain ⟨A, c, rfl⟩ := hb.form
  have hnc := hb.nc
  have he := eqlNilM
  have HE := he
  cases A with
  | none =>
    obtain ⟨A', c', he', hrd⟩ := hb
    injection he' with e1 e2 e3
    subst e1 e3
    have h0 := hrd.nil rfl
    have hn : l.length = 0 := by omega
    obtain rfl := List.eq_nil_of_length_eq_zero hn
    subst h0
    clear hrd hn hnc
    go_enter Tryz.func120, Tryz.ntmps120
    go_wp2
    go_ret
    exact ⟨_, rfl, OP.nilS _ _ _, Ext.refl _⟩
  | some ad =>
    clear hb hnc
    have hown : (w.alloc (.cells #[] 66)).ownsRow w.heap.size 66 2 (.slice (some ⟨w.heap.size, 0, none⟩) 0 0) 0 [] :=
      World.ownsRow_lit w #[] 0 (Nat.le_refl _) (by unfold maxLen; omega) rfl
    have HO := Lib.hid hown
    clear hown
    go_enter Tryz.func120, Tryz.ntmps120
    go_wp2_with (at_builtin; refine wpList_app rfl elemM _ _ _ rfl w.heap.size _ 0 [] rfl HO.out _ l.length (pV l) rfl (HB.out.ext ((Ext.refl _).alloc _)) (one_pV l) (by omega) (by unfold maxLen; omega) (by simp) ?_; intro v' w' ha)
    go_ret
    exact ⟨_, rfl, OP.of0 ha.own, ha.ext ((Ext.refl _).alloc _) rfl HO.out⟩
set_option maxRecDepth 100000 in
set_option maxHeartbeats 400000 in
theorem may_any (v : Value) (l : List Rec.R) (w : World) (hv : RP w v l) (hl : l.length ≤ 1000000) :
    Calls Tryz.prog 84 #[v] w fun e w' => e = .returned (.int .i64 (Rec.may l)) ∧ Ext w w' := by
  have eg : ∀ args w, (callFunc 111 args).run Tryz.prog w = .ok (.enter 111 args) w := enters_of Tryz.func111 (by kernel_rfl) rfl
  have HC := Lib.hid (containsF_any (fun x => !Rec.ok x) 111 #[] eg v l w hv (may1_gives w) (by omega))
  obtain ⟨A, c, rfl⟩ := hv.form
  unfold Rec.may
  cases hb : l.any fun x => !Rec.ok x with
  | true =>
    rw [hb] at HC
    rw [if_pos rfl]
    clear eg hv hb
    go_enter Tryz.func84, Tryz.ntmps84
    go_wp2_with fail
    refine HC.out.mono ?_
    rintro e w1 ⟨rfl, he1⟩
    go_wp2
    go_ret
    exact ⟨rfl, he1⟩
  | false =>
    rw [hb] at HC
    rw [if_neg (by simp)]
    clear eg hv hb
    by_cases h2 : 4096 < l.length
    · have g : (4096 : Int) < (l.length : Int) := by omega
      rw [if_pos h2]
      clear h2
      go_enter Tryz.func84, Tryz.ntmps84
      go_wp2_with fail
      refine HC.out.mono ?_
      rintro e w1 ⟨rfl, he1⟩
      go_wp2
      go_ret
      exact ⟨rfl, he1⟩
    · have g : ¬ (4096 : Int) < (l.length : Int) := by omega
      rw [if_neg h2]
      clear h2
      go_enter Tryz.func84, Tryz.ntmps84
      go_wp2_with fail
      refine HC.out.mono ?_
      rintro e w1 ⟨rfl, he1⟩
      go_wp2
      go_ret
      exact ⟨rfl, he1⟩
end Go.Proofs.YtpmgmiiidfconaaGreatDoor
namespace Go.Proofs.YtpmgmiiidfconaaGreatDoor
open Go.RowKit Go.Ox Go.Ox.Gr Go.Ox.Sc
set_option linter.unusedVariables false
set_option linter.unusedSimpArgs false
attribute [local irreducible] RE OE EpR InsR ActsR RP NodesR
/-- a block of eight cells -/
structure Bx8 (w : World) (p : Nat) (T : TypeId) (c0 c1 c2 c3 c4 c5 c6 c7 : Value) : Prop where
  b : Blk w p T #[c0, c1, c2, c3, c4, c5, c6, c7]
section
variable {w w' : World} {p : Nat} {T : TypeId} {c0 c1 c2 c3 c4 c5 c6 c7 : Value}
theorem Bx8.at_ (h : Bx8 w p T c0 c1 c2 c3 c4 c5 c6 c7) :
    w.cell? ⟨p, 0, none⟩ = some c0 ∧ w.cell? ⟨p, 1, none⟩ = some c1 ∧ w.cell? ⟨p, 2, none⟩ = some c2 ∧ w.cell? ⟨p, 3, none⟩ = some c3 ∧ w.cell? ⟨p, 4, none⟩ = some c4 ∧ w.cell? ⟨p, 5, none⟩ = some c5 ∧ w.cell? ⟨p, 6, none⟩ = some c6 ∧ w.cell? ⟨p, 7, none⟩ = some c7 :=
  ⟨h.b.cell 0, h.b.cell 1, h.b.cell 2, h.b.cell 3, h.b.cell 4, h.b.cell 5, h.b.cell 6, h.b.cell 7⟩
theorem Bx8.ext (h : Bx8 w p T c0 c1 c2 c3 c4 c5 c6 c7) (he : Ext w w') : Bx8 w' p T c0 c1 c2 c3 c4 c5 c6 c7 := ⟨h.b.ext he⟩
theorem Bx8.new (w : World) (T : TypeId) (c0 c1 c2 c3 c4 c5 c6 c7 : Value) : Bx8 (w.alloc (.cells #[c0, c1, c2, c3, c4, c5, c6, c7] T)) w.heap.size T c0 c1 c2 c3 c4 c5 c6 c7 := ⟨Blk.new _ _ _⟩
end
abbrev scCs (k0 k1 k2 k3 nv : Value) (out : Int) (iv av : Value) : Obj := .cells #[k0, k1, k2, k3, nv, .int .i64 out, iv, av] 43
set_option maxRecDepth 100000 in
set_option maxHeartbeats 400000 in
theorem oddBag_any (u : Value) (b : Bag) (w : World) (hu : RP w u b) (hl : b.length ≤ 1000000) :
    Calls Tryz.prog 83 #[u] w fun e w' => e = .returned (.bool (Rec.may b != 0)) ∧ Ext w w' := by
  have HC := Lib.hid (may_any u b w hu hl)
  obtain ⟨A, c, rfl⟩ := hu.form
  generalize Rec.may b = m at *
  obtain ⟨y, hy⟩ : ∃ y, (m != 0) = y := ⟨_, rfl⟩
  rw [hy]
  clear hu hl
  go_enter Tryz.func83, Tryz.ntmps83
  go_wp2_with fail
  refine HC.out.mono ?_
  rintro e w1 ⟨rfl, he1⟩
  go_wp2
  go_ret
  exact ⟨rfl, he1⟩
theorem epOk_is (l : List Bag) : epOk l = (decide (l.length ≤ 4) && !anyB (fun b => Rec.may b != 0) l) := by
  unfold epOk anyB
  rw [List.not_any_eq_all_not]
  congr 1
  refine List.all_congr rfl fun b => ?_
  cases h : decide (Rec.may b = 0) <;> simp at h <;> simp [h]
set_option maxRecDepth 100000 in
set_option maxHeartbeats 400000 in
theorem epoch_any (v : Value) (l : List Bag) (w : World) (hv : EpR w v l) (hl : l.length ≤ 1000000) (hb : ∀ b ∈ l, b.length ≤ 1000000) :
    Calls Tryz.prog 50 #[v] w fun e w' => e = .returned (.bool (epOk l)) ∧ Ext w w' := by
  rw [epOk_is]
  obtain ⟨A, c, rfl⟩ := hv.form
  have eg2 : ∀ args w, (callFunc 83 args).run Tryz.prog w = .ok (.enter 83 args) w := enters_of Tryz.func83 (by kernel_rfl) rfl
  have HC := Lib.hid (containsB_any (fun b => Rec.may b != 0) 83 #[] eg2 (.slice A l.length c) l w hv (by omega) (fun u x W hx he hu => oddBag_any u x W hu (hb x hx)))
  generalize anyB (fun b => Rec.may b != 0) l = y at *
  clear hv eg2 hb
  by_cases h : l.length ≤ 4
  · rw [decide_eq_true h, Bool.true_and]
    have q : (l.length : Int) ≤ 4 := by omega
    clear hl
    go_enter Tryz.func50, Tryz.ntmps50
    go_wp2_with fail
    refine HC.out.mono ?_
    rintro e w1 ⟨rfl, he1⟩
    go_wp2
    go_ret
    exact ⟨rfl, he1⟩
  · rw [decide_eq_false h, Bool.false_and]
    have q : ¬ (l.length : Int) ≤ 4 := by omega
    clear HC hl
    go_enter Tryz.func50, Tryz.ntmps50
    go_wp2
    go_ret
    exact ⟨rfl, Ext.refl _⟩
set_option maxRecDepth 100000 in
set_option maxHeartbeats 400000 in
theorem oddEp_any (u : Value) (l : List Bag) (w : World) (hv : EpR w u l) (hl : l.length ≤ 1000000) (hb : ∀ b ∈ l, b.length ≤ 1000000) :
    Calls Tryz.prog 49 #[u] w fun e w' => e = .returned (.bool (!epOk l)) ∧ Ext w w' := by
  have HC := Lib.hid (epoch_any u l w hv hl hb)
  obtain ⟨A, c, rfl⟩ := hv.form
  generalize epOk l = y at *
  clear hv hl hb
  go_enter Tryz.func49, Tryz.ntmps49
  go_wp2_with fail
  refine HC.out.mono ?_
  rintro e w1 ⟨rfl, he1⟩
  go_wp2
  go_ret
  exact ⟨rfl, he1⟩
set_option maxRecDepth 100000 in
set_option maxHeartbeats 400000 in
theorem oddAct_any (k n a b t : Int) (u : Value) (ks : List Int) (w : World) (hu : RE w u ks) (hl : ks.length ≤ 1000000) :
    Calls Tryz.prog 51 #[actAg k n a b t u] w fun e w' => e = .returned (.bool (!actOk ((k, n, a, b, t), ks))) ∧ Ext w w' := by
  have HX := Lib.hid ((Ext.refl w).alloc (actCs k n a b t u))
  have HB := Lib.hid (Bx6.new w 24 (.int .i64 k) (.int .i64 n) (.int .i64 a) (.int .i64 b) (.int .i64 t) u)
  have HC := Lib.hid (fun w hu => act_any k n a b t u ks w hu hl)
  have HU := Lib.hid (RE.ext hu HX.out)
  generalize actOk ((k, n, a, b, t), ks) = y at *
  obtain ⟨A, c, rfl⟩ := hu.form
  clear hu hl
  go_enter Tryz.func51, Tryz.ntmps51
  go_upto_region 1 with fail
  generalize w.heap.size = p at *
  generalize w.alloc (actCs k n a b t (.slice A ks.length c)) = w0 at *
  obtain ⟨c0, c1, c2, c3, c4, c5⟩ := HB.out.at_
  go_wp2_with fail
  refine (HC.out _ HU.out).mono ?_
  rintro e w1 ⟨rfl, he1⟩
  have HX1 := Lib.hid (HX.out.trans he1)
  clear he1
  go_wp2
  go_ret
  exact ⟨rfl, HX1.out⟩
def scE (s : Sc) : Int := if scOk s = true then 0 else 260
theorem scOk_is (s : Sc) : scOk s = (((cfgN s.cfg).all fun n => inR n 1073741824) && (Gr.gOk s.g && ((decide (s.ins.length ≤ 16) && !anyE (fun l => !epOk l) s.ins) && (decide (s.acts.length ≤ 256) && !anyA (fun a => !actOk a) s.acts)))) := by
  have h1 : anyE (fun l => !epOk l) s.ins = !s.ins.all epOk := by unfold anyE; rw [List.all_eq_not_any_not]; simp
  have h2 : anyA (fun a => !actOk a) s.acts = !s.acts.all actOk := by unfold anyA; rw [List.all_eq_not_any_not]; simp
  rw [h1, h2]
  unfold scOk
  simp only [Bool.not_not, Bool.and_assoc]
set_option maxRecDepth 100000 in
set_option maxHeartbeats 4000000 in
theorem sCheck_any (d : Nat) (s : Sc) (nv iv av : Value) (w : World) (h : ScR d w nv iv av s) (hs : ScSm s) :
    Calls Tryz.prog 23 #[scAg s nv iv av] w fun e w' => e = .returned (.int .i64 (scE s)) ∧ Ext w w' := by
  have HR := Lib.hid (show scE s = if scOk s = true then 0 else 260 from rfl)
  rw [scOk_is] at HR
  obtain ⟨⟨k0, k1, k2, k3⟩, ⟨ns, out⟩, ins, acts⟩ := s
  generalize scE ⟨(k0, k1, k2, k3), (ns, out), ins, acts⟩ = res at *
  obtain ⟨hn, hi, ha⟩ := h
  obtain ⟨hs1, hs2, hs3, hs4⟩ := hs
  dsimp only at *
  have HX := Lib.hid ((Ext.refl w).alloc (scCs (.int .i64 k0) (.int .i64 k1) (.int .i64 k2) (.int .i64 k3) nv out iv av))
  have HB := Lib.hid (Bx8.new w 43 (.int .i64 k0) (.int .i64 k1) (.int .i64 k2) (.int .i64 k3) nv (.int .i64 out) iv av)
  have HN := Lib.hid (hn.ext HX.out)
  have HI := Lib.hid (hi.ext HX.out)
  have HA := Lib.hid (ha.ext HX.out)
  have eg1 : ∀ args w, (callFunc 49 args).run Tryz.prog w = .ok (.enter 49 args) w := enters_of Tryz.func49 (by kernel_rfl) rfl
  have eg2 : ∀ args w, (callFunc 51 args).run Tryz.prog w = .ok (.enter 51 args) w := enters_of Tryz.func51 (by kernel_rfl) rfl
  have HCE := Lib.hid (fun W (h : InsR W iv ins) => containsE_any (fun l => !epOk l) 49 #[] eg1 iv ins W h (by omega) (fun u x W hx he hu => oddEp_any u x W hu (hs2 x hx).1 (hs2 x hx).2))
  have HCA := Lib.hid (fun W (h : ActsR W av acts) => containsA_any (fun a => !actOk a) 51 #[] eg2 av acts W h (by omega) (fun u x W hx he hu => oddAct_any x.1.1 x.1.2.1 x.1.2.2.1 x.1.2.2.2.1 x.1.2.2.2.2 u x.2 W hu (hs4 x hx)))
  have HCG := Lib.hid (fun W (h : NodesR d W nv ns) => gCheck_any d nv ns out W h)
  rw [show gE (ns, out) = if gOk (ns, out) = true then 0 else 170 from rfl] at HCG
  have HCN := Lib.hid (fun (W : World) (u : Value) q (hv : RE W u [k0, k1, k2, k3]) (hb : Blk W q 3 #[.int .i64 1073741824]) => none_any u [k0, k1, k2, k3] 1073741824 q W hv (by simp) hb)
  have HCC := Lib.hid (fun W => config_any k0 k1 k2 k3 W)
  have HCW := Lib.hid (fun W => swithin_any 1073741824 W)
  rw [show (cfgN (k0, k1, k2, k3)) = [k0, k1, k2, k3] from rfl] at HR
  generalize [k0, k1, k2, k3].all (fun n => inR n 1073741824) = b1 at *
  generalize gOk (ns, out) = b2 at *
  generalize anyE (fun l => !epOk l) ins = b4 at *
  generalize anyA (fun a => !actOk a) acts = b6 at *
  obtain ⟨AN, cN, rfl⟩ := hn.form
  obtain ⟨AI, cI, rfl⟩ := hi.form
  obtain ⟨AA, cA, rfl⟩ := ha.form
  clear hn hi ha hs1 hs2 hs3 hs4 eg1 eg2
  go_enter Tryz.func23, Tryz.ntmps23
  go_upto_region 1 with fail
  generalize w.heap.size = p at *
  generalize w.alloc (scCs (.int .i64 k0) (.int .i64 k1) (.int .i64 k2) (.int .i64 k3) (.slice AN ns.length cN) out (.slice AI ins.length cI) (.slice AA acts.length cA)) = w0 at *
  obtain ⟨c0, c1, c2, c3, c4, c5, c6, c7⟩ := HB.out.at_
  go_wp2_with fail
  refine (HCC.out _).mono ?_
  rintro e w1 ⟨u1, rfl, ho1, he1⟩
  obtain ⟨A1, m1, rfl⟩ := ho1.re.form
  have HO1 := Lib.hid ho1.re
  have HX1 := Lib.hid (HX.out.trans he1)
  have HE1 := Lib.hid he1
  clear ho1 he1 c0 c1 c2 c3 c4 c5 c6 c7
  go_wp2_with fail
  refine (HCW.out _).mono ?_
  rintro e w2 ⟨q, rfl, hb2, he2⟩
  have HX2 := Lib.hid (HX1.out.trans he2)
  have HE2 := Lib.hid (HE1.out.trans he2)
  have HO2 := Lib.hid (RE.ext HO1.out he2)
  have HB2 := Lib.hid hb2
  clear he2 hb2
  go_wp2_with fail
  refine (HCN.out _ _ _ HO2.out HB2.out).mono ?_
  rintro e w3 ⟨rfl, he3⟩
  have HX3 := Lib.hid (HX2.out.trans he3)
  have HE3 := Lib.hid (HE2.out.trans he3)
  have HB3 := Lib.hid (HB.out.ext HE3.out)
  clear he3
  obtain ⟨c0, c1, c2, c3, c4, c5, c6, c7⟩ := HB3.out.at_
  cases b1 with
  | false =>
    obtain rfl : res = 260 := HR.out
    go_wp2
    go_ret
    exact ⟨rfl, HX3.out⟩
  | true =>
  go_wp2_with fail
  refine (HCG.out _ (HN.out.ext HE3.out)).mono ?_
  rintro e w4 ⟨rfl, he4⟩
  have HX4 := Lib.hid (HX3.out.trans he4)
  have HE4 := Lib.hid (HE3.out.trans he4)
  have HB4 := Lib.hid (HB.out.ext HE4.out)
  clear he4 c0 c1 c2 c3 c4 c5 c6 c7
  obtain ⟨c0, c1, c2, c3, c4, c5, c6, c7⟩ := HB4.out.at_
  cases b2 with
  | false =>
    obtain rfl : res = 260 := HR.out
    rw [if_neg (by simp)]
    go_wp2
    go_ret
    exact ⟨rfl, HX4.out⟩
  | true =>
  rw [if_pos rfl]
  by_cases hi : ins.length ≤ 16
  case neg =>
    have hi2 : (ins.length : Int) > 16 := by omega
    obtain rfl : res = 260 := by rw [HR.out, decide_eq_false hi]; rfl
    clear hi
    go_wp2
    go_ret
    exact ⟨rfl, HX4.out⟩
  rw [decide_eq_true hi] at HR
  have hi2 : decide (16 < (ins.length : Int)) = false := decide_eq_false (by omega)
  have hi3 : decide ((ins.length : Int) > 16) = false := hi2
  clear hi
  go_wp2_with fail
  refine (HCE.out _ (HI.out.ext HE4.out)).mono ?_
  rintro e w5 ⟨rfl, he5⟩
  have HX5 := Lib.hid (HX4.out.trans he5)
  have HE5 := Lib.hid (HE4.out.trans he5)
  have HB5 := Lib.hid (HB.out.ext HE5.out)
  clear he5 c0 c1 c2 c3 c4 c5 c6 c7 hi2 hi3
  obtain ⟨c0, c1, c2, c3, c4, c5, c6, c7⟩ := HB5.out.at_
  cases b4 with
  | true =>
    obtain rfl : res = 260 := HR.out
    go_wp2
    go_ret
    exact ⟨rfl, HX5.out⟩
  | false =>
  by_cases ha : acts.length ≤ 256
  case neg =>
    have ha2 : (acts.length : Int) > 256 := by omega
    obtain rfl : res = 260 := by rw [HR.out, decide_eq_false ha]; rfl
    clear ha
    go_wp2
    go_ret
    exact ⟨rfl, HX5.out⟩
  rw [decide_eq_true ha] at HR
  have ha2 : decide (256 < (acts.length : Int)) = false := decide_eq_false (by omega)
  have ha3 : decide ((acts.length : Int) > 256) = false := ha2
  clear ha
  go_wp2_with fail
  refine (HCA.out _ (HA.out.ext HE5.out)).mono ?_
  rintro e w6 ⟨rfl, he6⟩
  have HX6 := Lib.hid (HX5.out.trans he6)
  clear he6 c0 c1 c2 c3 c4 c5 c6 c7 ha2 ha3
  cases b6 with
  | true =>
    obtain rfl : res = 260 := HR.out
    go_wp2
    go_ret
    exact ⟨rfl, HX6.out⟩
  | false =>
    obtain rfl : res = 0 := HR.out
    go_wp2
    go_ret
    exact ⟨rfl, HX6.out⟩
end Go.Proofs.YtpmgmiiidfconaaGreatDoor
set_option linter.unusedVariables false
set_option linter.unusedSimpArgs false
namespace Go.Ox.La
open Go Go.Lib
theorem wnsB_snoc {l : List W} {k : Nat} (h : k < l.length) : wnsB (l.take (k + 1)) = wnsB (l.take k) ++ [(wnB l[k]).1] := by
  rw [List.take_succ_eq_append_getElem h]
  unfold wnsB
  rw [List.map_append]
  rfl
theorem wnsOk_snoc {l : List W} {k : Nat} (h : k < l.length) : wnsOk (l.take (k + 1)) = (wnsOk (l.take k) && (wnB l[k]).2) := by
  rw [List.take_succ_eq_append_getElem h]
  unfold wnsOk
  rw [List.all_append]
  simp
theorem wnsOk_no {l : List W} {k : Nat} (h : k < l.length) (h2 : (wnB l[k]).2 = false) : wnsOk l = false := by
  rw [← Bool.not_eq_true]
  intro h3
  unfold wnsOk at h3
  rw [List.all_eq_true] at h3
  have := h3 _ (List.getElem_mem h)
  rw [h2] at this
  simp at this
theorem wnsB_len (l : List W) : (wnsB l).length = l.length := by unfold wnsB; simp
end Go.Ox.La
namespace Go.Proofs.YtpmgmiiidfconaaGreatDoor
open Go.RowKit Go.Ox Go.Ox.Gr Go.Ox.Sc Go.Ox.La Go.Shelf
theorem int_lit (w : World) (n : Int) : RE (w.alloc (.cells #[.int .i64 n] 3)) (.slice (some ⟨w.heap.size, 0, none⟩) 1 1) [n] := RE.lit w #[.int .i64 n] 3 1 [n] rfl (by omega) rfl
attribute [local irreducible] RE OE
set_option maxRecDepth 100000 in
set_option maxHeartbeats 4000000 in
theorem rnums_any (A : Option Addr) (c : Nat) (l : List W) (w : World) (hR : RE w (.slice A l.length c) l) (hl : l.length ≤ 1000000) (hw : ∀ x ∈ l, x.length ≤ 1000000) :
    Calls Tryz.prog 19 #[.slice A l.length c] w fun e w' => ∃ u, e = .returned (.tuple #[u, .bool (wnsOk l)]) ∧ OE 3 w.heap.size w' u (if wnsOk l = true then wnsB l else []) ∧ Ext w w' := by
  have HL := Lib.hid hl
  have HW := Lib.hid hw
  have HR := Lib.hid hR
  obtain ⟨z, hy⟩ : ∃ z, wnsOk l = z := ⟨_, rfl⟩
  rw [hy]
  have HY := Lib.hid hy
  clear hR hw hl hy
  go_enter Tryz.func19, Tryz.ntmps19
  go_wp2
  go_loopw [4, 5] (fun ov iv wr => ∃ k : Nat, k ≤ l.length ∧ iv = .int .i64 (k : Int) ∧ OE 3 w.heap.size wr ov (wnsB (l.take k)) ∧ wnsOk (l.take k) = true ∧ Ext w wr) (fun _ iv _ => l.length - (intOf iv).toNat)
  case atStart => exact ⟨0, Nat.zero_le _, rfl, OE.nilS _ _ _, rfl, Ext.refl _⟩
  case round =>
    obtain ⟨k, hk, rfl, ho, hok, hext⟩ := hrel
    rename World => wr
    obtain ⟨p, hp⟩ : ∃ p, wnsB (l.take k) = p := ⟨_, rfl⟩
    rw [hp] at ho
    have HPE := Lib.hid hp
    have HRL := Lib.hid (show p.length = k from by rw [← hp, wnsB_len, List.length_take]; omega)
    have HO := Lib.hid ho
    have HOK := Lib.hid hok
    have HE := Lib.hid hext
    have hk9 : k ≤ 1000000 := by have := HL.out; omega
    obtain ⟨AO, cO, hvo⟩ := ho.re.form
    subst hvo
    clear ho hok hext hp
    by_cases hlt : k < l.length
    · have q1 : (k : Int) < (l.length : Int) := by omega
      have q1n := hlt
      have q0 : 0 ≤ (k : Int) := by omega
      obtain ⟨b, o, rfl, hx⟩ := reW1 (RE.ext HR.out HE.out) hlt
      have HXL := Lib.hid (HW.out _ (List.getElem_mem hlt))
      have HS := Lib.hid (wnsB_snoc hlt)
      have HS2 := Lib.hid (wnsOk_snoc hlt)
      have HNO := Lib.hid (@wnsOk_no l k hlt)
      have HLT := Lib.hid hlt
      rw [HPE.out] at HS
      obtain ⟨x, hxe⟩ : ∃ x, l[k]'hlt = x := ⟨_, rfl⟩
      rw [hxe] at hx HXL HS HS2 HNO
      have HC := Lib.hid (fun w => num29_any x w HXL.out)
      obtain ⟨n, hn⟩ : ∃ n, wnB x = n := ⟨_, rfl⟩
      rw [hn] at HS HS2 HNO HC
      obtain ⟨n, y⟩ := n
      clear hn hxe hlt hk
      go_wp2_with fail
      refine (HC.out _).mono ?_
      rintro e w1 ⟨rfl, rfl⟩
      cases y with
      | false =>
        obtain rfl : z = false := by rw [← HY.out]; exact HNO.out rfl
        go_wp2
        go_ret2
        exact ⟨_, rfl, OE.nilS _ _ _, HE.out⟩
      | true =>
        have HLI := Lib.hid (int_lit wr n)
        have hxl : Ext wr (wr.alloc (.cells #[.int .i64 n] 3)) := (Ext.refl _).alloc _
        have HO := Lib.hid (HO.out.ext hxl)
        have HE := Lib.hid (HE.out.trans hxl)
        clear hxl
        go_wp2_with (at_builtin; refine wpList_appE rfl elemI _ _ _ rfl w.heap.size _ _ p [n] rfl HO.out rfl HLI.out (by have := HRL.out; simp only [List.length_singleton]; omega) (by have := HRL.out; simp only [List.length_singleton]; unfold maxLen; omega) HE.out.size ?_; intro v9 w9 ho9 hb9 hg9)
        exact ⟨⟨k + 1, HLT.out, by go_num, by rw [HS.out]; exact ho9, by rw [HS2.out, HOK.out]; rfl, Below.trans HE.out hb9⟩, by have := HLT.out; simp [intOf]; omega⟩
    · have q1 : ¬ (k : Int) < (l.length : Int) := by omega
      obtain rfl : k = l.length := by omega
      rw [List.take_length] at HPE HOK
      clear hk hlt
      obtain rfl : z = true := by rw [← HY.out]; exact HOK.out
      go_wp2
      go_ret2
      exact ⟨_, rfl, by show OE _ _ _ _ (wnsB l); rw [HPE.out]; exact HO.out, HE.out⟩
end Go.Proofs.YtpmgmiiidfconaaGreatDoor
